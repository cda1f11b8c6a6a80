/- A part of the proof of ResumeSaves. -/
import Derived.Test.YtmeojgcibppcmaaDoorK0
set_option maxRecDepth 100000
set_option maxHeartbeats 4000000
set_option linter.unusedVariables false
set_option linter.unusedSimpArgs false
namespace Go.Opn
open Go.Cre Go.RowKit Go.Proofs
/-! ### A game as public rows -/
theorem Elems.at {α : Type} {J : Jm} {e : TypeId} {sz n c : Nat} {b : Option Addr} {R : α → List Value → Prop} {xs : List α} (h : Elems J e sz R (.slice b n c) xs) : n = xs.length ∧ (0 < xs.length → ∃ a off cells e', b = some ⟨a, off, none⟩ ∧ J a = some (cells, e') ∧
    ∀ i : Int, 0 ≤ i → i < xs.length → ∃ x cs, xs[i.toNat]? = some x ∧ takeN sz (dropN (off + i.toNat * sz) cells) = some cs ∧ (∀ k v, k < sz → nth cs k = some v → nth cells (off + i.toNat * sz + k) = some v) ∧ R x cs) := by
  obtain ⟨h1, h2⟩ := h.get; refine ⟨h1, fun hp => ?_⟩; obtain ⟨a, off, cells, e', k1, k2, k3⟩ := h2 hp; refine ⟨a, off, cells, e', k1, k2, fun i i0 i1 => ?_⟩; have hx := List.getElem?_eq_getElem (l := xs) (i := i.toNat) (by omega); obtain ⟨cs, c1, c2⟩ := k3 _ _ hx; rw [Int.toNat_natCast] at c1; refine ⟨_, cs, hx, c1, fun k v hk hv => ?_, c2⟩; obtain ⟨q, _, _⟩ := takeN_eq c1; rw [nth_eq] at hv ⊢; rw [q, dropN_eq, List.getElem?_take, if_pos hk, List.getElem?_drop] at hv; exact hv
theorem ints_one (l : List Int) : (l.map (Value.int .i64)).all oneCell = true := by
  induction l with
  | nil => rfl
  | cons a l ih => rw [List.map_cons, List.all_cons, ih]; rfl
/-- integers that can be read -/
def RI (mo : Mm) (J : Jm) (b : Option Addr) (l : List Int) : Prop := 0 < l.length → ∃ a off cells, b = some ⟨a, off, none⟩ ∧ RowAt mo J a cells ∧ ∀ i : Int, 0 ≤ i → i < l.length → ∃ x, l[i.toNat]? = some x ∧ nth cells (off + i.toNat * 1) = some (.int .i64 x)
theorem IntsR.ri {J : Jm} {b : Option Addr} {n c : Nat} {l : List Int} (h : IntsR J (.slice b n c) l) (mo : Mm) : RI mo J b l := fun hp => by
  obtain ⟨_, _, h3⟩ := h.get; obtain ⟨a, off, cells, e, h4, h5, h6⟩ := h3 hp; exact ⟨a, off, cells, h4, .pub h5, h6⟩
theorem RI.own {a : Nat} {e : TypeId} {J : Jm} {l : List Int} {m : Mm} (h : (a, PB.row (l.map (Value.int .i64)) e) ∈ m) : RI m J (some ⟨a, 0, none⟩) l := fun hp =>
  ⟨a, 0, _, rfl, .own h, fun i i0 i1 => ⟨_, List.getElem?_eq_getElem (by omega), nth_ints i.toNat (List.getElem?_eq_getElem (by omega))⟩⟩
theorem RowAt.cons {m : Mm} {J : Jm} {a : Nat} {cells : List Value} {x : Nat × PB} (h : RowAt m J a cells) : RowAt (x :: m) J a cells := by
  cases h with
  | own h => exact .own (.tail _ h)
  | opn h => exact .opn (.tail _ h)
  | pub h => exact .pub h
theorem RowAt.sub {m m' : Mm} {J : Jm} {a : Nat} {cells : List Value} (h : RowAt m J a cells) (hs : ∀ x ∈ m, x ∈ m') : RowAt m' J a cells := by
  cases h with
  | own h => exact .own (hs _ h)
  | opn h => exact .opn (hs _ h)
  | pub h => exact .pub h
def NdR (J : Jm) (x : Nd) (cs : List Value) : Prop := ∃ b1 c1 b2 c2 b3 c3, cs = [.int .i64 x.k, .int .i64 x.p, .int .i64 x.i, .slice b1 x.nx.length c1, .slice b2 x.ws.length c2, .slice b3 x.py.length c3] ∧ IntsR J (.slice b1 x.nx.length c1) x.nx ∧ IntsR J (.slice b2 x.ws.length c2) x.ws ∧ IntsR J (.slice b3 x.py.length c3) x.py
theorem NdR.mono {J J' : Jm} (hle : J.le J') {x : Nd} {cs : List Value} (h : NdR J x cs) : NdR J' x cs := by
  obtain ⟨b1, c1, b2, c2, b3, c3, h1, h2, h3, h4⟩ := h; exact ⟨b1, c1, b2, c2, b3, c3, h1, h2.mono hle, h3.mono hle, h4.mono hle⟩
def InR (x : Int × Int) (cs : List Value) : Prop := cs = [.int .i64 x.1, .int .i64 x.2]
structure GmR (J : Jm) (g : Gm) (bn : Option Addr) (cn : Nat) (bi : Option Addr) (ci : Nat) : Prop where
  n : Elems J 40 6 (NdR J) (.slice bn g.ns.length cn) g.ns
  i : Elems J 51 2 InR (.slice bi g.is.length ci) g.is
theorem GmR.mono {J J' : Jm} (hle : J.le J') {g : Gm} {bn bi : Option Addr} {cn ci : Nat} (h : GmR J g bn cn bi ci) : GmR J' g bn cn bi ci := ⟨h.n.mono hle fun _ _ q => q.mono hle, h.i.mono hle fun _ _ q => q⟩
abbrev gC (g : Gm) (bn : Option Addr) (cn : Nat) (bi : Option Addr) (ci : Nat) : List Value := [.int .i64 g.pl, .slice bn g.ns.length cn, .slice bi g.is.length ci]
abbrev gV (g : Gm) (bn : Option Addr) (cn : Nat) (bi : Option Addr) (ci : Nat) : Value := .agg (gC g bn cn bi ci).toArray
/-- the answer is a value of its own -/
abbrev Ret (v : Value) (J : Jm) : Value → Mm → Jm → Prop := fun w m' J' => w = v ∧ m' = [] ∧ J' = J
/-- .. and more may be public -/
abbrev RetJ (v : Value) (J : Jm) : Value → Mm → Jm → Prop := fun w m' J' => w = v ∧ m' = [] ∧ J.le J'
section
variable {Q : Worlds Tryd.prog} {g0 : Nat} {J : Jm}
/-! ### Checksums -/
def ckG : Int → Int → List UInt8 → Int × Int
  | a, b, [] => (a, b)
  | a, b, x :: s => ckG ((IntKind.i64.wrap (a + x.toNat)).tmod 65521) ((IntKind.i64.wrap (b + (IntKind.i64.wrap (a + x.toNat)).tmod 65521)).tmod 65521) s
def ckS (s : List UInt8) : Int := IntKind.i64.wrap (IntKind.i64.wrap (65536 * (ckG 1 0 s).2) + (ckG 1 0 s).1)
theorem ckG_step {s : List UInt8} {i : Nat} {x : UInt8} {a b : Int} (hx : s[i]? = some x) : ckG a b (s.drop i) = ckG ((IntKind.i64.wrap (a + x.toNat)).tmod 65521) ((IntKind.i64.wrap (b + (IntKind.i64.wrap (a + x.toNat)).tmod 65521)).tmod 65521) (s.drop (i + 1)) := by
  have hi : i < s.length := (List.getElem?_eq_some_iff.1 hx).1; rw [List.drop_eq_getElem_cons hi]; have : s[i] = x := by rw [List.getElem?_eq_getElem hi] at hx; injection hx
  rw [this]; rfl
theorem checksum_fn {s : List UInt8} (hs : s.length ≤ 140737488355328) : Fn (kx Q g0) 10 [.string ⟨⟨s⟩⟩] [] J (Ret (.int .i64 (ckS s)) J) := by
  refine Fn.of_body (ftGet Tryd.func10) rfl rfl fun H => ?_; refine rg ?_; refine Sa V.asg ?_; refine nr ?_; refine Sa V.asg ?_; refine Sa V.asg ?_; refine nr ?_; refine Sa V.mv ?_; refine Sa V.lS ?_; refine Sa V.mv ?_; refine ns ?_; refine WC.block ?_; refine' WC.weak (l' := [(3, .int .i64 (1)), (4, .int .i64 (0)), (8, .int .i64 ((0) : Int)), (0, _), (7, _)]) ⟨?w3, ?w4, ?w8, rfl, rfl, trivial⟩ (List.Sublist.refl _) ?_; case w3 => exact nq
  case w4 => exact nq
  case w8 => exact nq
  refine sq ?_; refine' WC.loopC (α := Nat × Int × Int) (fun (i, a, b) => [(3, .int .i64 a), (4, .int .i64 b), (8, .int .i64 (i : Int))]) (fun (i, a, b) => i ≤ s.length ∧ ckG 1 0 s = ckG a b (s.drop i)) (fun (i, a, b) => s.length - i) ⟨0, 1, 0⟩ ?hs ?hstep; case hs => exact ⟨by omega, rfl⟩
  case hstep =>
   rintro ⟨i, a, b⟩ hinv; try simp only at hinv
   obtain ⟨hi, hck⟩ := hinv; refine rg ?_; refine Sa V.vi ?_; refine ns ?_; refine If (fun c9 => ?_) fun c9 => ?_
   ·
    obtain ⟨x, hxt, hx⟩ := get_at s i (by omega); have hx256 : x.toNat < 256 := x.toNat_lt; refine sk ?_; refine sq ?_; refine WC.block ?_; refine rg ?_; refine Sa V.mv ?_; refine Sa V.asg ?_; refine nr ?_; refine Sa V.mv ?_; refine Sa V.mv ?_; refine Sa V.mv ?_; refine Sa V.iS ?_; refine Sa V.cv ?_; refine Sa V.vi ?_; refine Sa V.dv ?_; refine Sa V.asg ?_; refine nr ?_; refine Sa V.mv ?_; refine Sa V.mv ?_; refine Sa V.vi ?_; refine Sa V.dv ?_; refine Sa V.asg ?_; refine nr ?_; refine Sa V.va ?_; refine Sa V.mv ?_; refine Wn ?_; refine' ⟨⟨i + 1, _, _⟩, _, ?hinv, ?hmeas, rfl, ⟨?m3, ?m4, ?m8, rfl, rfl, trivial⟩, List.Sublist.refl _, rfl⟩; case m3 => exact nq
    case m4 => exact nq
    case m8 => exact nq
    case hmeas => exact om
    case hinv => exact ⟨by omega, by rw [hck, ckG_step hx]⟩
   ·
    refine sq ?_; refine WC.exit ?_; refine rg ?_; refine Sa V.mv ?_; refine Sa V.vi ?_; refine Sa V.mv ?_; refine Sa V.vi ?_; refine Sa V.asg ?_; refine ns ?_; refine WC.ret ?_; refine Lf ?_; refine ⟨congrArg (Value.int .i64) ?_, rfl, rfl⟩; rw [List.drop_eq_nil_of_le (by omega)] at hck; unfold ckS; rw [hck]; rfl
theorem rchecksum_fn {s : List UInt8} (hs : s.length ≤ 140737488355328) : Fn (kx Q g0) 11 [.string ⟨⟨s⟩⟩] [] J (Ret (.int .i64 (ckS s)) J) := by
  refine Fn.of_body (ftGet Tryd.func11) rfl rfl fun H => ?_; refine rg ?_; refine Sa V.asg ?_; refine nr ?_; refine Sa V.asg ?_; refine Sa V.asg ?_; refine nr ?_; refine Sa V.asg ?_; refine ns ?_; refine WC.block ?_; refine' WC.weak (l' := [(3, .int .i64 (1)), (4, .int .i64 (0)), (5, .int .i64 ((0) : Int)), (0, _)]) ⟨?w3, ?w4, ?w5, rfl, trivial⟩ (List.Sublist.refl _) ?_; case w3 => exact nq
  case w4 => exact nq
  case w5 => exact nq
  refine sq ?_; refine' WC.loopC (α := Nat × Int × Int) (fun (i, a, b) => [(3, .int .i64 a), (4, .int .i64 b), (5, .int .i64 (i : Int))]) (fun (i, a, b) => i ≤ s.length ∧ ckG 1 0 s = ckG a b (s.drop i)) (fun (i, a, b) => s.length - i) ⟨0, 1, 0⟩ ?hs ?hstep; case hs => exact ⟨by omega, rfl⟩
  case hstep =>
   rintro ⟨i, a, b⟩ hinv; try simp only at hinv
   obtain ⟨hi, hck⟩ := hinv; refine rg ?_; refine Sa V.mv ?_; refine Sa V.mv ?_; refine Sa V.lS ?_; refine Sa V.vi ?_; refine ns ?_; refine If (fun c9 => ?_) fun c9 => ?_
   ·
    obtain ⟨x, hxt, hx⟩ := get_at s i (by omega); have hx256 : x.toNat < 256 := x.toNat_lt; refine sk ?_; refine sq ?_; refine WC.block ?_; refine rg ?_; refine Sa V.mv ?_; refine Sa V.mv ?_; refine Sa V.mv ?_; refine Sa V.iS ?_; refine Sa V.cv ?_; refine Sa V.vi ?_; refine Sa V.dv ?_; refine Sa V.asg ?_; refine nr ?_; refine Sa V.mv ?_; refine Sa V.mv ?_; refine Sa V.vi ?_; refine Sa V.dv ?_; refine Sa V.asg ?_; refine nr ?_; refine Sa V.mv ?_; refine Sa V.va ?_; refine Sa V.asg ?_; refine Wn ?_; refine' ⟨⟨i + 1, _, _⟩, _, ?hinv, ?hmeas, rfl, ⟨?m3, ?m4, ?m5, rfl, trivial⟩, List.Sublist.refl _, rfl⟩; case m3 => exact nq
    case m4 => exact nq
    case m5 => exact nq
    case hmeas => exact om
    case hinv => exact ⟨by omega, by rw [hck, ckG_step hx]⟩
   ·
    refine sq ?_; refine WC.exit ?_; refine rg ?_; refine Sa V.mv ?_; refine Sa V.vi ?_; refine Sa V.mv ?_; refine Sa V.vi ?_; refine Sa V.asg ?_; refine ns ?_; refine WC.ret ?_; refine Lf ?_; refine ⟨congrArg (Value.int .i64) ?_, rfl, rfl⟩; rw [List.drop_eq_nil_of_le (by omega)] at hck; unfold ckS; rw [hck]; rfl
end
section
variable {Q : Worlds Tryd.prog} {g0 : Nat} {J : Jm}
/-! ### Digests -/
def dgS (d n : Int) : Int := (IntKind.i64.wrap (IntKind.i64.wrap (IntKind.i64.wrap (31 * d) + n) + 1000001)).tmod 2147483647
def dg (d : Int) (l : List Int) : Int := l.foldl dgS d
theorem dg_app (d : Int) (l l' : List Int) : dg d (l ++ l') = dg (dg d l) l' := List.foldl_append
theorem dg_next {d : Int} {l : List Int} {i : Nat} {x : Int} (hx : l[((i : Nat) : Int).toNat]? = some x) : dgS (dg d (l.take i)) x = dg d (l.take (i + 1)) := by
  rw [Int.toNat_natCast] at hx; rw [List.take_add_one, hx]; simp [dg]
abbrev dgB (ad : Nat) (d : Int) : Nat × PB := (ad, .row [.int .i64 d] 47)
theorem add_fn {ad : Nat} {d : Int} {mo : Mm} {b : Option Addr} {c : Nat} {l : List Int} (hl : RI mo J b l) (hn : l.length ≤ 1000000) :
    Fn (kx Q g0) 15 [.pointer (some ⟨ad, 0, none⟩), .slice b l.length c] (dgB ad d :: mo) J (fun _ m' J' => m' = [dgB ad (dg d l)] ∧ J = J') := by
  refine Fn.of_body (ftGet Tryd.func15) rfl rfl fun H => ?_; refine rg ?_; refine Sa V.mv ?_; refine Sa V.ls ?_; refine Sa V.mv ?_; refine ns ?_; refine WC.block ?_; refine' WC.weak (l' := [(8, .int .i64 ((0) : Int)), (0, _), (6, _), (7, _)]) ⟨?w8, rfl, rfl, rfl, trivial⟩ (List.Sublist.refl _) ?_; case w8 => exact nq
  refine sq ?_; refine' WC.loopG (α := Nat × Int) (fun (i, x0) => [(8, .int .i64 (i : Int))]) (fun (i, x0) => dgB ad x0 :: mo) (fun (i, x0) => J) (fun (i, x0) => i ≤ l.length ∧ x0 = dg d (l.take i)) (fun (i, x0) => l.length - i) ⟨0, d⟩ ?hs ?hstep; case hs => exact ⟨Nat.zero_le _, rfl⟩
  case hstep =>
   rintro ⟨i, x0⟩ hinv; try simp only at hinv
   obtain ⟨hi, rfl⟩ := hinv; refine rg ?_; refine Sa V.vi ?_; refine ns ?_; refine If (fun c9 => ?_) fun c9 => ?_
   ·
    obtain ⟨a, off, cells, rfl, hro, hget⟩ := hl (by omega); obtain ⟨x, hx, hnx⟩ := hget i (by omega) (by omega); refine sk ?_; refine sq ?_; refine WC.block ?_; refine rg ?_; refine Sa V.ix ?_; refine' W.step rfl (Exec.val rfl rfl (v_load rfl rfl ?hr (part1 (tAg rfl) ?hv)) ?_); case hr => exact hro.cons
    case hv => first | rfl | assumption
    refine Sa V.asg ?_; refine nr ?_; refine Sa V.mv ?_; refine Sa V.mv ?_; refine Sa V.nc ?_; refine Sa V.ld ?_; refine Sa V.vi ?_; refine Sa V.mv ?_; refine Sa V.vi ?_; refine Sa V.vi ?_; refine Sa V.dv ?_; refine Sa V.nc ?_; refine Ss ?_; refine nr ?_; refine Sa V.va ?_; refine Sa V.mv ?_; refine Wn ?_; refine' ⟨⟨i + 1, _⟩, _, ?hinv, ?hmeas, rfl, ⟨?m8, rfl, rfl, rfl, trivial⟩, List.Sublist.refl _, rfl⟩; case m8 => exact nq
    case hmeas => exact om
    case hinv => exact ⟨by omega, dg_next hx⟩
   ·
    refine sq ?_; refine WC.exit ?_; refine' ⟨.inl rfl, rfl, _, _, .nil, .cons_cons _ (List.nil_sublist _), ?_⟩; refine ⟨?_, rfl⟩; rw [List.take_of_length_le (by omega)]
theorem list_fn {ad : Nat} {d : Int} {b : Option Addr} {c : Nat} {l : List Int} (hl : IntsR J (.slice b l.length c) l) (hn : l.length ≤ 1000000) :
    Fn (kx Q g0) 16 [.pointer (some ⟨ad, 0, none⟩), .slice b l.length c] [dgB ad d] J (fun _ m' J' => m' = [dgB ad (dg d ((l.length : Int) :: l))] ∧ J = J') := by
  refine Fn.of_body (ftGet Tryd.func16) rfl rfl fun H => ?_; refine rg ?_; refine Sa V.mv ?_; refine Sa V.mv ?_; refine Sa V.ls ?_; refine bsl (sb38 Q g0) fun a7 => ?_; refine' W.step rfl (Exec.call rfl rfl rfl rfl rfl rfl rfl (mi := [dgB ad d, (a7, _)]) (mr := []) (perm_pick 1 rfl (perm_pick 0 rfl .nil)) trivial (add_fn (mo := [(a7, _)]) (l := [(l.length : Int)]) (RI.own (.head _)) (by simp)) ?_); rintro v m' J' hle ⟨rfl, rfl⟩; refine nr ?_; refine Sa V.mv ?_; refine Sa V.mv ?_; refine' W.step rfl (Exec.call rfl rfl rfl rfl rfl rfl rfl (mi := [dgB ad _]) (mr := []) (.refl _) trivial (add_fn (mo := []) (hl.ri []) hn) ?_); rintro v m' J' hle ⟨rfl, rfl⟩; refine Wn ?_; refine' ⟨.inl rfl, rfl, _, _, .nil, List.Sublist.refl _, ⟨rfl, rfl⟩⟩
def digS (g : Gm) : Int := dg 1 (numsS g)
noncomputable def digV (g : Gm) : Value := .tuple #[.int .i64 (if formS g = 0 then digS g else 0), .int .i64 (formS g)]
theorem dg_nd {x : Nd} {d : Int} : dg (dg (dg (dg d [x.k, x.p, x.i]) ((x.nx.length : Int) :: x.nx)) ((x.ws.length : Int) :: x.ws)) ((x.py.length : Int) :: x.py) = dg d (ndN x) := by
  unfold ndN; rw [dg_app, dg_app, dg_app]
theorem digest_fn {g : Gm} {bn bi : Option Addr} {cn ci : Nat} (hF : ∀ J', J.le J' → Fn (kx Q g0) 14 [gV g bn cn bi ci] [] J' (RetJ (.int .i64 (formS g)) J')) (hg : GmR J g bn cn bi ci) :
    Fn (kx Q g0) 6 [gV g bn cn bi ci] [] J (RetJ (digV g) J) := by
  refine Fn.of_body (ftGet Tryd.func6) rfl rfl fun H => ?_; refine rg ?_; refine bx fun a1 => ?_; refine Sa V.asg ?_; refine Sa V.asg ?_; refine nr ?_; refine Sa V.ldA ?_; refine cl (G := hF _ (Jm.le.refl _)) (h := ?_); rintro v m' J1 hle1 ⟨rfl, rfl, _⟩; refine Sa V.asg ?_; refine nr ?_; refine Sa V.mv ?_; refine Sa V.vi ?_; refine ns ?_; refine If (fun c13 => ?_) fun c13 => ?_
  ·
   refine rg ?_; refine Sa V.mv ?_; refine Sa V.asg ?_; refine Sa V.asg ?_; refine ns ?_; refine WC.ret ?_; refine Lf ?_; first
     | (refine ⟨?_, rfl, hle1⟩
        unfold digV; rw [if_neg c13]; rfl)
     | (refine ⟨?_, rfl, hle1⟩
        unfold digV; rw [if_pos (Classical.not_not.1 c13), Classical.not_not.1 c13]; unfold digS numsS; rw [show j = g.is.length by omega, List.take_length]; rfl)
  ·
   have hok := formS_ok (Classical.not_not.1 c13); have hg1 := hg.mono hle1; obtain ⟨_, hgn⟩ := hg1.n.at; obtain ⟨_, hgi⟩ := hg1.i.at; have n2 := hok.n2; have i2 := hok.i2; refine kr ?_; refine' W.step rfl (.of (x_alloc rfl rfl rfl (ze47 Q g0) rfl rfl rfl fun a5 => ?_)); refine Ss ?_; refine nr ?_; refine Sa V.fa ?_; refine Sa V.ld ?_; refine Sa V.fa ?_; refine Sa V.ld ?_; refine Sa V.ls ?_; refine bsl (sb38 Q g0) fun a20 => ?_; refine' W.step rfl (Exec.call rfl rfl rfl rfl rfl rfl rfl (mi := [dgB a5 1, (a20, _)]) (mr := [_]) (perm_pick 1 rfl (perm_pick 0 rfl (perm_pick 0 rfl .nil))) trivial (add_fn (mo := [(a20, _)]) (l := [g.pl, (g.ns.length : Int)]) (RI.own (.head _)) (by simp)) ?_); rintro v m' J' hle ⟨rfl, rfl⟩; refine nr ?_; refine Sa V.fa ?_; refine Sa V.ld ?_; refine Sa V.ls ?_; refine Sa V.mv ?_; refine ns ?_; refine WC.block ?_; refine' WC.weak (l' := [(25, .int .i64 ((0) : Int)), (1, _), (5, _), (23, _), (24, _)]) ⟨?w25, rfl, rfl, rfl, rfl, trivial⟩ (List.Sublist.refl _) ?_; case w25 => exact nq
   refine sq ?_; refine' WC.loopG (α := Nat × Int) (fun (i, x0) => [(25, .int .i64 (i : Int))]) (fun (i, x0) => [dgB a5 x0, (a1, .row (gC g bn cn bi ci) 25)]) (fun (i, x0) => J1) (fun (i, x0) => i ≤ g.ns.length ∧ x0 = dg 1 ([g.pl, (g.ns.length : Int)] ++ (g.ns.take i).flatMap ndN)) (fun (i, x0) => g.ns.length - i) ⟨0, dg 1 [g.pl, (g.ns.length : Int)]⟩ ?hs ?hstep; case hs => exact ⟨Nat.zero_le _, by simp⟩
   case hstep =>
    rintro ⟨i, x0⟩ hinv; try simp only at hinv
    obtain ⟨hi, rfl⟩ := hinv; refine rg ?_; refine Sa V.vi ?_; refine ns ?_; refine If (fun c26 => ?_) fun c26 => ?_
    ·
     obtain ⟨a, off, cells, e', rfl, hJ, hget⟩ := hgn (by omega); obtain ⟨x, cs, hx, hcs, _, hR⟩ := hget i (by omega) (by omega); obtain ⟨b1, c1, b2, c2, b3, c3, rfl, hx1, hx2, hx3⟩ := hR; rw [Int.toNat_natCast] at hx; obtain ⟨l1, l2, l3⟩ := node_len (hok.nodes _ (List.mem_of_getElem? hx)) hok.p4; refine sk ?_; refine sq ?_; refine WC.block ?_; refine rg ?_; refine Sa V.ix ?_; refine Sa V.ldA ?_; refine' W.step rfl (.of (x_alloc rfl rfl rfl (ze40 Q g0) rfl rfl rfl fun a7 => ?_)); refine Ss ?_; refine nr ?_; refine Sa V.fa ?_; refine Sa V.ld ?_; refine Sa V.fa ?_; refine Sa V.ld ?_; refine Sa V.fa ?_; refine Sa V.ld ?_; refine bsl (sb38 Q g0) fun a35 => ?_; refine' W.step rfl (Exec.call rfl rfl rfl rfl rfl rfl rfl (mi := [dgB a5 _, (a35, _)]) (mr := [_, _]) (perm_pick 2 rfl (perm_pick 0 rfl (perm_pick 0 rfl (perm_pick 0 rfl .nil)))) trivial (add_fn (mo := [(a35, _)]) (l := [x.k, x.p, x.i]) (RI.own (.head _)) (by simp)) ?_); rintro v m' J' hle ⟨rfl, rfl⟩; refine nr ?_; refine Sa V.fa ?_; refine Sa V.ld ?_; refine' W.step rfl (Exec.call rfl rfl rfl rfl rfl rfl rfl (mi := [dgB a5 _]) (mr := [_, _]) (.refl _) trivial (list_fn hx1 (by omega)) ?_); rintro v m' J' hle ⟨rfl, rfl⟩; refine nr ?_; refine Sa V.fa ?_; refine Sa V.ld ?_; refine' W.step rfl (Exec.call rfl rfl rfl rfl rfl rfl rfl (mi := [dgB a5 _]) (mr := [_, _]) (.refl _) trivial (list_fn hx2 (by omega)) ?_); rintro v m' J' hle ⟨rfl, rfl⟩; refine nr ?_; refine Sa V.fa ?_; refine Sa V.ld ?_; refine' W.step rfl (Exec.call rfl rfl rfl rfl rfl rfl rfl (mi := [dgB a5 _]) (mr := [_, _]) (.refl _) trivial (list_fn hx3 (by omega)) ?_); rintro v m' J' hle ⟨rfl, rfl⟩; refine nr ?_; refine Sa V.va ?_; refine Sa V.mv ?_; refine Wn ?_; refine' ⟨⟨i + 1, _⟩, _, ?hinv, ?hmeas, rfl, ⟨?m25, rfl, rfl, rfl, rfl, trivial⟩, .cons_cons _ (.cons _ (.cons_cons _ .slnil)), rfl⟩
     case m25 => exact nq
     case hmeas => exact om
     case hinv => exact ⟨by omega, by rw [flat_next hx, ← List.append_assoc, dg_app _ _ (ndN _), dg_nd]⟩
    ·
     refine sq ?_; refine WC.exit ?_; refine rg ?_; refine Sa V.fa ?_; refine Sa V.ld ?_; refine Sa V.ls ?_; refine bsl (sb38 Q g0) fun a50 => ?_; refine' W.step rfl (Exec.call rfl rfl rfl rfl rfl rfl rfl (mi := [dgB a5 _, (a50, _)]) (mr := [_]) (perm_pick 1 rfl (perm_pick 0 rfl (perm_pick 0 rfl .nil))) trivial (add_fn (mo := [(a50, _)]) (l := [(g.is.length : Int)]) (RI.own (.head _)) (by simp)) ?_); rintro v m' J' hle ⟨rfl, rfl⟩; refine nr ?_; refine Sa V.fa ?_; refine Sa V.ld ?_; refine Sa V.ls ?_; refine Sa V.mv ?_; refine ns ?_; refine WC.block ?_; refine' WC.weak (l' := [(55, .int .i64 ((0) : Int)), (5, _), (53, _), (54, _)]) ⟨?w55, rfl, rfl, rfl, trivial⟩ (List.Sublist.refl _) ?_; case w55 => exact nq
     refine sq ?_; refine' WC.loopG (α := Nat × Int) (fun (j, x0) => [(55, .int .i64 (j : Int))]) (fun (j, x0) => [dgB a5 x0, (a1, .row (gC g bn cn bi ci) 25)]) (fun (j, x0) => J1) (fun (j, x0) => j ≤ g.is.length ∧ x0 = dg 1 ([g.pl, (g.ns.length : Int)] ++ g.ns.flatMap ndN ++ [(g.is.length : Int)] ++ (g.is.take j).flatMap inN)) (fun (j, x0) => g.is.length - j) ⟨0, dg (dg 1 ([g.pl, (g.ns.length : Int)] ++ (g.ns.take i).flatMap ndN)) [(g.is.length : Int)]⟩ ?hs ?hstep; case hs => exact ⟨Nat.zero_le _, by rw [show i = g.ns.length by omega, List.take_length, ← dg_app]; simp⟩
     case hstep =>
      rintro ⟨j, x0⟩ hinv; try simp only at hinv
      obtain ⟨hj, rfl⟩ := hinv; refine rg ?_; refine Sa V.vi ?_; refine ns ?_; refine If (fun c56 => ?_) fun c56 => ?_
      ·
       obtain ⟨a, off, cells, e', rfl, hJ, hget⟩ := hgi (by omega); obtain ⟨y, cs, hy, hcs, _, rfl⟩ := hget j (by omega) (by omega); rw [Int.toNat_natCast] at hy; refine sk ?_; refine sq ?_; refine WC.block ?_; refine rg ?_; refine Sa V.ix ?_; refine Sa V.ldA ?_; refine' W.step rfl (.of (x_alloc rfl rfl rfl (ze51 Q g0) rfl rfl rfl fun a9 => ?_)); refine Ss ?_; refine nr ?_; refine Sa V.fa ?_; refine Sa V.ld ?_; refine Sa V.fa ?_; refine Sa V.ld ?_; refine bsl (sb38 Q g0) fun a63 => ?_; refine' W.step rfl (Exec.call rfl rfl rfl rfl rfl rfl rfl (mi := [dgB a5 _, (a63, _)]) (mr := [_, _]) (perm_pick 2 rfl (perm_pick 0 rfl (perm_pick 0 rfl (perm_pick 0 rfl .nil)))) trivial (add_fn (mo := [(a63, _)]) (l := [y.1, y.2]) (RI.own (.head _)) (by simp)) ?_); rintro v m' J' hle ⟨rfl, rfl⟩; refine nr ?_; refine Sa V.va ?_; refine Sa V.mv ?_; refine Wn ?_; refine' ⟨⟨j + 1, _⟩, _, ?hinv, ?hmeas, rfl, ⟨?m55, rfl, rfl, rfl, trivial⟩, .cons_cons _ (.cons _ (.cons_cons _ .slnil)), rfl⟩; case m55 => exact nq
       case hmeas => exact om
       case hinv => exact ⟨by omega, by rw [flat_next hy, ← List.append_assoc, dg_app _ _ (inN _)]; rfl⟩
      ·
       refine sq ?_; refine WC.exit ?_; refine rg ?_; refine Sa V.ld ?_; refine Sa V.asg ?_; refine Sa V.asg ?_; refine ns ?_; refine WC.ret ?_; refine Lf ?_; first
         | (refine ⟨?_, rfl, hle1⟩
            unfold digV; rw [if_neg c13]; rfl)
         | (refine ⟨?_, rfl, hle1⟩
            unfold digV; rw [if_pos (Classical.not_not.1 c13), Classical.not_not.1 c13]; unfold digS numsS; rw [show j = g.is.length by omega, List.take_length]; rfl)
end
end Go.Opn
