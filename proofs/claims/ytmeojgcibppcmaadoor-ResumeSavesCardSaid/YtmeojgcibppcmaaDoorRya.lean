/- A part of the proof of ResumeSaves. -/
import Derived.Test.YtmeojgcibppcmaaDoorRx
import Derived.Test.YtmeojgcibppcmaaDoorK0
import Derived.Test.YtmeojgcibppcmaaDoorOpnW
set_option maxRecDepth 100000
set_option maxHeartbeats 4000000
set_option linter.unusedVariables false
set_option linter.unusedSimpArgs false
namespace Go.Opn
open Go.Cre Go.RowKit Go.Proofs
theorem tdiv_n (u : Nat) : (-(u : Int)).tdiv 10 = -((u / 10 : Nat) : Int) := by rw [Int.neg_tdiv]; rfl
theorem tmod_n (u : Nat) : (-(u : Int)).tmod 10 = -((u % 10 : Nat) : Int) := by rw [Int.neg_tmod]; rfl
section
variable {Q : Worlds Tryd.prog} {g0 : Nat} {J : Jm}
theorem decp_fn : ∀ (f u : Nat), u < f → u ≤ 9223372036854775807 → Fn (kx Q g0) 42 [.int .i64 (u : Int)] [] J (Ret (.string ⟨⟨Lib.decDigits u⟩⟩) J) := by
  intro f; induction f with
  | zero => intro u h; omega
  | succ f ih =>
  intro u hu hb; refine Fn.of_body (ftGet Tryd.func42) rfl rfl fun H => ?_; refine rg ?_; refine Sa V.asg ?_; refine nr ?_; refine Sa V.mv ?_; refine Sa V.vi ?_; refine ns ?_; refine If (fun c4 => ?_) fun c4 => ?_
  ·
   exfalso ; omega
  ·
   refine sq ?_; refine WC.skip ?_; refine rg ?_; refine Sa V.mv ?_; refine Sa V.vi ?_; refine ns ?_; refine If (fun c16 => ?_) fun c16 => ?_
   ·
    exfalso ; omega
   ·
    refine sq ?_; refine WC.skip ?_; refine rg ?_; refine Sa V.mv ?_; refine Sa V.vi ?_; refine ns ?_; refine If (fun c22 => ?_) fun c22 => ?_
    ·
     have hq : IntKind.i64.wrap ((u : Int).tdiv 10) = ((u / 10 : Nat) : Int) := by
       rw [show (u : Int).tdiv 10 = ((u / 10 : Nat) : Int) from rfl, wrap_i64 (by omega) (by omega)]
     have hr : (u : Int).tmod 10 = ((u % 10 : Nat) : Int) := rfl; have l1 := dec_len (u := u / 10) (by omega); have l2 := dec_len (u := u % 10) (by omega); refine rg ?_; refine Sa V.mv ?_; refine Sa V.dv ?_; rw [hq]; refine cl (G := ih (u / 10) (by omega) (by omega)) (h := ?_); rintro v m' J' hle ⟨rfl, rfl, rfl⟩; refine Sa V.mv ?_; refine Sa V.dv ?_; rw [hr]; refine cl (G := ih (u % 10) (by omega) (by omega)) (h := ?_); rintro v m' J' hle ⟨rfl, rfl, rfl⟩; refine' W.step rfl (Exec.val rfl rfl (v_str rfl rfl rfl rfl ?hl) ?_); case hl => exact om
     refine Sa V.asg ?_; refine ns ?_; refine WC.ret ?_; refine Lf ?_; first
       | (have c := hq; exact ⟨by rw [dec_more (u := u) (by omega)]; rfl, rfl, rfl⟩)
       | (rw [dec_one (u := u) (by omega)]; exact ⟨congrArg (fun k => Value.string ⟨⟨[UInt8.ofNat k]⟩⟩) (show (48 + (u : Int)).toNat = 48 + u by omega), rfl, rfl⟩)
    ·
     refine sq ?_; refine WC.skip ?_; refine rg ?_; refine Sa V.mv ?_; refine Sa V.va ?_; refine' W.step rfl (Exec.val rfl rfl (v_conv rfl rfl (tCv rfl rfl) ?hw) ?_); case hw => exact wrap_i32 (by omega) (by omega)
     refine' W.step rfl (Exec.val rfl rfl (v_runeStr rfl rfl (by kernel_rfl) ?h0 ?h1) ?_); case h0 => exact om
     case h1 => exact om
     refine Sa V.asg ?_; refine ns ?_; refine WC.ret ?_; refine Lf ?_; first
       | (have c := hq; exact ⟨by rw [dec_more (u := u) (by omega)]; rfl, rfl, rfl⟩)
       | (rw [dec_one (u := u) (by omega)]; exact ⟨congrArg (fun k => Value.string ⟨⟨[UInt8.ofNat k]⟩⟩) (show (48 + (u : Int)).toNat = 48 + u by omega), rfl, rfl⟩)
theorem decimal_fn {n : Int} (h0 : -9223372036854775808 ≤ n) (h1 : n ≤ 9223372036854775807) : Fn (kx Q g0) 42 [.int .i64 n] [] J (Ret (.string ⟨⟨Lib.itoa n⟩⟩) J) := by
  by_cases hn : 0 ≤ n
  · obtain ⟨u, rfl⟩ : ∃ u : Nat, n = (u : Int) := ⟨n.toNat, by omega⟩
    rw [Lib.itoa_nonneg]; exact decp_fn (u + 1) u (by omega) (by omega)
  obtain ⟨u, rfl⟩ : ∃ u : Nat, n = -(u : Int) := ⟨(-n).toNat, by omega⟩; have hu : 1 ≤ u := by omega
  rw [Lib.itoa_neg _ hu]; have hq : IntKind.i64.wrap (-(IntKind.i64.wrap ((-(u : Int)).tdiv 10))) = ((u / 10 : Nat) : Int) := by
    rw [tdiv_n, wrap_i64 (n := -((u / 10 : Nat) : Int)) (by omega) (by omega), Int.neg_neg, wrap_i64 (by omega) (by omega)]
  have hr : IntKind.i64.wrap (-((-(u : Int)).tmod 10)) = ((u % 10 : Nat) : Int) := by
    rw [tmod_n, Int.neg_neg, wrap_i64 (by omega) (by omega)]
  have l1 := dec_len (u := u / 10) (by omega); have l2 := dec_len (u := u % 10) (by omega); have l3 := dec_len' (u := u) (by omega); refine Fn.of_body (ftGet Tryd.func42) rfl rfl fun H => ?_; refine rg ?_; refine Sa V.asg ?_; refine nr ?_; refine Sa V.mv ?_; refine Sa V.vi ?_; refine ns ?_; refine If (fun c4 => ?_) fun c4 => ?_
  ·
   refine rg ?_; refine Sa V.mv ?_; refine Sa V.dv ?_; refine' W.step rfl (Exec.val rfl rfl (v_neg rfl rfl ?hw) ?_); case hw => exact hq
   refine cl (G := decp_fn (u / 10 + 1) (u / 10) (by omega) (by omega)) (h := ?_); rintro v m' J' hle ⟨rfl, rfl, rfl⟩; refine' W.step rfl (Exec.val rfl rfl (v_str rfl rfl rfl rfl ?hl) ?_); case hl => exact om
   refine Sa V.mv ?_; refine Sa V.dv ?_; refine' W.step rfl (Exec.val rfl rfl (v_neg rfl rfl ?hw) ?_); case hw => exact hr
   refine cl (G := decp_fn (u % 10 + 1) (u % 10) (by omega) (by omega)) (h := ?_); rintro v m' J' hle ⟨rfl, rfl, rfl⟩; refine' W.step rfl (Exec.val rfl rfl (v_str rfl rfl rfl rfl ?hl) ?_); case hl => exact om
   refine Sa V.asg ?_; refine ns ?_; refine WC.ret ?_; refine Lf ?_; first
     | exact ⟨by rw [dec_more (u := u) (by omega)]; rfl, rfl, rfl⟩
  ·
   refine sq ?_; refine WC.skip ?_; refine rg ?_; refine Sa V.mv ?_; refine Sa V.vi ?_; refine ns ?_; refine If (fun c16 => ?_) fun c16 => ?_
   ·
    refine rg ?_; refine Sa V.mv ?_; refine' W.step rfl (Exec.val rfl rfl (v_neg rfl rfl ?hw) ?_); case hw => exact (show IntKind.i64.wrap (-(-(u : Int))) = (u : Int) by rw [Int.neg_neg]; exact wrap_i64 (by omega) (by omega))
    refine cl (G := decp_fn (u + 1) u (by omega) (by omega)) (h := ?_); rintro v m' J' hle ⟨rfl, rfl, rfl⟩; refine' W.step rfl (Exec.val rfl rfl (v_str rfl rfl rfl rfl ?hl) ?_); case hl => exact om
    refine Sa V.asg ?_; refine ns ?_; refine WC.ret ?_; refine Lf ?_; first
      | (have c := c16; exact ⟨rfl, rfl, rfl⟩)
      | exact ⟨by rw [dec_more (u := u) (by omega)]; rfl, rfl, rfl⟩
   ·
    exfalso ; omega
theorem line_fn {w : List UInt8} {mo : Mm} {b : Option Addr} {c : Nat} {l : List Int} (hri : RI mo J b l) (hw : w.length ≤ 1000000) (hn : l.length ≤ 1000) (hx : ∀ x ∈ l, -9223372036854775808 ≤ x ∧ x ≤ 9223372036854775807) :
    Fn (kx Q g0) 41 [.string ⟨⟨w⟩⟩, .slice b l.length c] mo J (fun u m' J' => u = .string ⟨⟨w ++ numT l ++ [10]⟩⟩ ∧ m' = [] ∧ J = J') := by
  have hlen : ∀ i, (numT (l.take i)).length ≤ 22000 := fun i => by
    have := numT_len (l := l.take i) fun x h => hx x (List.mem_of_mem_take h); rw [List.length_take] at this; omega
  refine Fn.of_body (ftGet Tryd.func41) rfl rfl fun H => ?_; refine rg ?_; refine Sa V.asg ?_; refine nr ?_; refine Sa V.asg ?_; refine ns ?_; refine WC.block ?_; refine' WC.weak (l' := [(0, .string ⟨⟨(w)⟩⟩), (5, .int .i64 ((0) : Int)), (1, _)]) ⟨?w0, ?w5, rfl, trivial⟩ (List.Sublist.refl _) ?_; case w0 => exact nq
  case w5 => exact nq
  refine sq ?_; refine' WC.loopG (α := Nat × (List UInt8)) (fun (i, s) => [(0, .string ⟨⟨s⟩⟩), (5, .int .i64 (i : Int))]) (fun (i, s) => mo) (fun (i, s) => J) (fun (i, s) => i ≤ l.length ∧ s = w ++ numT (l.take i)) (fun (i, s) => l.length - i) ⟨0, w⟩ ?hs ?hstep; case hs => exact ⟨Nat.zero_le _, by simp [numT]⟩
  case hstep =>
   rintro ⟨i, s⟩ hinv; try simp only at hinv
   obtain ⟨hi, rfl⟩ := hinv; have hli := hlen i; refine rg ?_; refine Sa V.mv ?_; refine Sa V.mv ?_; refine Sa V.ls ?_; refine Sa V.vi ?_; refine ns ?_; refine If (fun c9 => ?_) fun c9 => ?_
   ·
    obtain ⟨a, off, cells, rfl, hro, hget⟩ := hri (by omega); obtain ⟨x, hxi, hnx⟩ := hget i (by omega) (by omega); rw [Int.toNat_natCast] at hxi; have hxb := hx x (List.mem_of_getElem? hxi); have hxl := Lib.itoa_length_le x hxb.1 hxb.2; refine sk ?_; refine sq ?_; refine WC.block ?_; refine rg ?_; refine Sa V.mv ?_; refine' W.step rfl (Exec.val rfl rfl (v_str rfl rfl rfl rfl ?hl) ?_); case hl => exact om
    refine Sa V.mv ?_; refine Sa V.mv ?_; refine Sa V.ix ?_; refine' W.step rfl (Exec.val rfl rfl (v_load rfl rfl ?hr (part1 (tAg rfl) ?hv)) ?_); case hr => exact hro
    case hv => first | rfl | assumption
    refine cl (G := decimal_fn hxb.1 hxb.2) (h := ?_); rintro v m' J' hle ⟨rfl, rfl, rfl⟩; refine' W.step rfl (Exec.val rfl rfl (v_str rfl rfl rfl rfl ?hl) ?_); case hl => exact om
    refine Sa V.asg ?_; refine nr ?_; refine Sa V.mv ?_; refine Sa V.va ?_; refine Sa V.asg ?_; refine Wn ?_; refine' ⟨⟨i + 1, _⟩, _, ?hinv, ?hmeas, rfl, ⟨?m0, ?m5, rfl, trivial⟩, List.Sublist.refl _, rfl⟩; case m0 => exact nq
    case m5 => exact nq
    case hmeas => exact om
    case hinv => exact ⟨by omega, by rw [numT_next hxi]; simp⟩
   ·
    refine sq ?_; refine WC.exit ?_; refine rg ?_; refine Sa V.mv ?_; refine' W.step rfl (Exec.val rfl rfl (v_str rfl rfl rfl rfl ?hl) ?_); case hl => exact om
    refine Sa V.asg ?_; refine ns ?_; refine WC.ret ?_; refine Lf ?_; exact ⟨by rw [List.take_of_length_le (by omega)]; rfl, rfl, rfl⟩
end
/-! ### A page -/
abbrev pgB (ap : Nat) (p : Option Addr) (w : Value) : Nat × PB := (ap, .row [.pointer p, w] 59)
/-- the page's memory, with what is written -/
def Pg (ap : Nat) (bs : List UInt8) (m : Mm) : Prop := ∃ p w mo, m = pgB ap p w :: mo ∧ (p = none ∨ p = some ⟨ap, 0, none⟩) ∧ Acc 5 1 w bs.length (bs.map byteV) mo ∧ nR mo
theorem bytes_one (s : List UInt8) : (s.map byteV).all oneCell = true := by
  induction s with
  | nil => rfl
  | cons x r ih => simp only [List.map_cons, List.all_cons, ih, Bool.and_true]; rfl
theorem bytes_len (s : List UInt8) : (s.map byteV).length = s.length * 1 := by simp
theorem nR_nil : nR [] := fun a c e q => by cases q
section
variable {Q : Worlds Tryd.prog} {g0 : Nat} {J : Jm}
theorem copycheck0_fn {ap : Nat} {w : Value} (hw : oneCell w = true) :
    Fn (kx Q g0) 53 [.pointer (some ⟨ap, 0, none⟩)] [pgB ap none w] J (fun _ m' J' => J = J' ∧ m' = [pgB ap (some ⟨ap, 0, none⟩) w]) := by
  refine Fn.of_body (ftGet Tryd.func53) rfl rfl fun H => ?_; refine rg ?_; refine Sa V.mv ?_; refine Sa V.nc ?_; refine Sa V.fa ?_; refine Sa V.ld ?_; refine' W.step rfl (Exec.val rfl rfl (v_ptrNil rfl rfl rfl (by kernel_rfl) (.inl ⟨rfl, rfl⟩)) ?_); refine ns ?_; refine If (fun c6 => ?_) fun c6 => ?_
  ·
   refine rg ?_; refine Sa V.mv ?_; refine Sa V.mv ?_; refine' W.step rfl (Exec.val rfl rfl (v_toUns rfl rfl (by kernel_rfl) ?hr ?hl) ?_); case hr => exact qr
   case hl => rfl
   refine cl (G := Fn.same (ftGet Tryd.func68) rfl rfl rfl rfl) (h := ?_); rintro v m' J' hle ⟨rfl, rfl, rfl⟩; refine' W.step rfl (Exec.val rfl rfl (v_ofUns rfl rfl ?hr (by kernel_rfl)) ?_); case hr => repeat first | exact .head _ | refine .tail _ ?_ | refine List.mem_append_right _ ?_
   refine Sa V.nc ?_; refine Sa V.fa ?_; refine Ss ?_; refine Wn ?_; refine' ⟨.inl rfl, rfl, _, _, .nil, List.Sublist.refl _, ⟨rfl, rfl⟩⟩
  ·
   exfalso ; simp at c6
theorem copycheck1_fn {ap : Nat} {w : Value} (hw : oneCell w = true) :
    Fn (kx Q g0) 53 [.pointer (some ⟨ap, 0, none⟩)] [pgB ap (some ⟨ap, 0, none⟩) w] J (fun _ m' J' => J = J' ∧ m' = [pgB ap (some ⟨ap, 0, none⟩) w]) := by
  refine Fn.of_body (ftGet Tryd.func53) rfl rfl fun H => ?_; refine rg ?_; refine Sa V.mv ?_; refine Sa V.nc ?_; refine Sa V.fa ?_; refine Sa V.ld ?_; refine' W.step rfl (Exec.val rfl rfl (v_ptrNil rfl rfl rfl (by kernel_rfl) (.inl ⟨rfl, rfl⟩)) ?_); refine ns ?_; refine If (fun c6 => ?_) fun c6 => ?_
  ·
   exfalso ; simp at c6
  ·
   refine rg ?_; refine Sa V.mv ?_; refine Sa V.nc ?_; refine Sa V.fa ?_; refine Sa V.ld ?_; refine Sa V.mv ?_; refine' W.step rfl (Exec.val rfl rfl (v_ptrSame rfl rfl rfl (by kernel_rfl) (.inr ⟨rfl, rfl⟩)) ?_); refine ns ?_; refine If (fun c19 => ?_) fun c19 => ?_
   ·
    exfalso ; simp at c19
   ·
    refine sq ?_; refine WC.skip ?_; refine' ⟨.inl rfl, rfl, _, _, .nil, List.Sublist.refl _, ⟨rfl, rfl⟩⟩
theorem copycheck_fn {ap : Nat} {p : Option Addr} {w : Value} (hp : p = none ∨ p = some ⟨ap, 0, none⟩) (hw : oneCell w = true) :
    Fn (kx Q g0) 53 [.pointer (some ⟨ap, 0, none⟩)] [pgB ap p w] J (fun _ m' J' => J = J' ∧ m' = [pgB ap (some ⟨ap, 0, none⟩) w]) := by
  rcases hp with rfl | rfl
  · exact copycheck0_fn hw
  · exact copycheck1_fn hw
theorem wstr_fn {ap : Nat} {bs s : List UInt8} {m : Mm} (hpg : Pg ap bs m) (hl : bs.length + s.length ≤ 1000000) :
    Fn (kx Q g0) 36 [.pointer (some ⟨ap, 0, none⟩), .string ⟨⟨s⟩⟩] m J (fun _ m' J' => J = J' ∧ Pg ap (bs ++ s) m') := by
  obtain ⟨p, w, mo, rfl, hp, hacc, hn⟩ := hpg; obtain ⟨b, c, rfl⟩ := hacc.form; refine Fn.of_body (ftGet Tryd.func36) rfl rfl fun H => ?_; refine rg ?_; refine Sa V.asg ?_; refine Sa V.asg ?_; refine nr ?_; refine Sa V.mv ?_; refine' W.step rfl (Exec.call rfl rfl rfl rfl rfl rfl rfl (mi := [pgB ap _ _]) (mr := mo) (.refl _) trivial (copycheck_fn hp rfl) ?_); rintro v m' J' hle ⟨rfl, rfl⟩; refine nr ?_; refine Sa V.mv ?_; refine Sa V.mv ?_; refine Sa V.nc ?_; refine Sa V.fa ?_; refine Sa V.ld ?_; refine Sa V.mv ?_; refine' W.step rfl (.of (x_accPZ rfl rfl rfl rfl rfl rfl (sb55 Q g0) (un9 Q g0) (fun i q => by cases q) ?hacc ?hm ?hx ?hnl ?hne ?hl fun w14 mo14 hacc14 hz14 => ?_)); case hacc => assumption
  case hm => exact List.perm_append_comm (l₁ := [_])
  case hx => exact qx
  case hnl => exact bytes_len _
  case hne => exact bytes_one _
  case hl => exact om
  obtain ⟨b14, c14, rfl⟩ := hacc14.form; refine Sa V.nc ?_; refine Sa V.fa ?_; refine Ss ?_; refine Wn ?_; refine WC.permM (List.perm_append_comm (l₁ := [_])) ?_; refine rg ?_; refine Sa V.mv ?_; refine Sa V.lS ?_; refine Sa V.asg ?_; refine Sa V.asg ?_; refine ns ?_; refine WC.ret ?_; refine' ⟨.inr rfl, rfl, _, _, .tmp rfl (.tmp rfl .nil), List.Sublist.refl _, ⟨rfl, _, _, _, rfl, .inr rfl, by rw [List.length_append, List.map_append]; exact hacc14, hz14.2 hn⟩⟩
theorem wbyte_fn {ap : Nat} {bs : List UInt8} {x : UInt8} {m : Mm} (hpg : Pg ap bs m) (hl : bs.length + 1 ≤ 1000000) :
    Fn (kx Q g0) 37 [.pointer (some ⟨ap, 0, none⟩), .int .u8 x.toNat] m J (fun _ m' J' => J = J' ∧ Pg ap (bs ++ [x]) m') := by
  obtain ⟨p, w, mo, rfl, hp, hacc, hn⟩ := hpg; obtain ⟨b, c, rfl⟩ := hacc.form; refine Fn.of_body (ftGet Tryd.func37) rfl rfl fun H => ?_; refine rg ?_; refine Sa V.asg ?_; refine nr ?_; refine Sa V.mv ?_; refine' W.step rfl (Exec.call rfl rfl rfl rfl rfl rfl rfl (mi := [pgB ap _ _]) (mr := mo) (.refl _) trivial (copycheck_fn hp rfl) ?_); rintro v m' J' hle ⟨rfl, rfl⟩; refine nr ?_; refine Sa V.mv ?_; refine Sa V.mv ?_; refine Sa V.nc ?_; refine Sa V.fa ?_; refine Sa V.ld ?_; refine Sa V.mv ?_; refine bsl (sb55 Q g0) fun a13 => ?_; refine' W.step rfl (.of (x_accPZ rfl rfl rfl rfl rfl rfl (sb55 Q g0) (un55 Q g0) (fun i q => by cases q) ?hacc ?hm ?hx ?hnl ?hne ?hl fun w14 mo14 hacc14 hz14 => ?_)); case hacc => assumption
  case hm => exact List.perm_append_comm (l₁ := [_, _])
  case hx => exact qx
  case hnl => first | rfl | (simp; done) | (simp; omega)
  case hne => first | rfl | exact ints_one _
  case hl => exact om
  obtain ⟨b14, c14, rfl⟩ := hacc14.form; refine Sa V.nc ?_; refine Sa V.fa ?_; refine Ss ?_; refine Wn ?_; refine WC.permM (m' := pgB ap _ _ :: (_, _) :: mo14) ((List.Perm.swap _ _ _).trans (List.perm_append_comm (l₁ := [_, _]))) ?_; refine rg ?_; refine Sa V.asg ?_; refine ns ?_; refine WC.ret ?_; refine' ⟨.inr rfl, rfl, _, pgB ap _ _ :: _, .tmp rfl .nil, .cons_cons _ (.cons _ (.refl _)), ⟨rfl, _, _, _, rfl, .inr rfl, by rw [List.length_append, List.map_append]; exact hacc14, hz14.2 hn⟩⟩
theorem words_fn {ap : Nat} {bs s : List UInt8} {m : Mm} (hpg : Pg ap bs m) (hl : bs.length + s.length ≤ 1000000) :
    Fn (kx Q g0) 20 [.pointer (some ⟨ap, 0, none⟩), .string ⟨⟨s⟩⟩] m J (fun u m' J' => u = .pointer (some ⟨ap, 0, none⟩) ∧ J = J' ∧ Pg ap (bs ++ s) m') := by
  refine Fn.of_body (ftGet Tryd.func20) rfl rfl fun H => ?_; refine rg ?_; refine Sa V.asg ?_; refine nr ?_; refine Sa V.mv ?_; refine Sa V.nc ?_; refine Sa V.fa ?_; refine Sa V.mv ?_; refine' W.step rfl (Exec.call rfl rfl rfl rfl rfl rfl rfl (mi := m) (mr := []) (by rw [List.append_nil]) trivial (wstr_fn hpg hl) ?_); rintro v m1 J' hle ⟨rfl, hpg1⟩; rw [List.append_nil]; refine nr ?_; refine Sa V.mv ?_; refine Sa V.asg ?_; refine ns ?_; refine WC.ret ?_; refine' ⟨.inr rfl, rfl, _, m1, .tmp rfl .nil, List.Sublist.refl _, ⟨rfl, rfl, hpg1⟩⟩
theorem endl_fn {ap : Nat} {bs : List UInt8} {m : Mm} (hpg : Pg ap bs m) (hl : bs.length + 1 ≤ 1000000) :
    Fn (kx Q g0) 21 [.pointer (some ⟨ap, 0, none⟩)] m J (fun _ m' J' => J = J' ∧ Pg ap (bs ++ [10]) m') := by
  refine Fn.of_body (ftGet Tryd.func21) rfl rfl fun H => ?_; refine rg ?_; refine Sa V.mv ?_; refine Sa V.nc ?_; refine Sa V.fa ?_; refine' W.step rfl (Exec.call rfl rfl rfl rfl rfl rfl rfl (mi := m) (mr := []) (by rw [List.append_nil]) trivial (wbyte_fn (x := 10) hpg hl) ?_); rintro v m1 J' hle ⟨rfl, hpg1⟩; rw [List.append_nil]; refine Wn ?_; refine' ⟨.inl rfl, rfl, _, m1, .nil, List.Sublist.refl _, ⟨rfl, hpg1⟩⟩
end
def ItoaOk (Q : Worlds Tryd.prog) (g0 : Nat) : Prop := ∀ (n : Int) (J : Jm), -9223372036854775808 ≤ n → n ≤ 9223372036854775807 → Fn (kx Q g0) 38 [.int .i64 n] [] J (Ret (.string ⟨⟨Lib.itoa n⟩⟩) J)
section
variable {Q : Worlds Tryd.prog} {g0 : Nat} {J : Jm}
theorem pnumbers_fn (hit : ItoaOk Q g0) {ap : Nat} {bs : List UInt8} {m mo : Mm} {b : Option Addr} {c : Nat} {l : List Int} (hpg : Pg ap bs m) (hl : RI mo J b l) (hn : l.length ≤ 1000) (hx : ∀ x ∈ l, -9223372036854775808 ≤ x ∧ x ≤ 9223372036854775807) (hb : bs.length + 22 * l.length ≤ 1000000) :
    Fn (kx Q g0) 22 [.pointer (some ⟨ap, 0, none⟩), .slice b l.length c] (m ++ mo) J (fun u m' J' => u = .pointer (some ⟨ap, 0, none⟩) ∧ J = J' ∧ Pg ap (bs ++ numT l) m') := by
  refine Fn.of_body (ftGet Tryd.func22) rfl rfl fun H => ?_; refine rg ?_; refine Sa V.asg ?_; refine nr ?_; refine Sa V.mv ?_; refine Sa V.ls ?_; refine Sa V.mv ?_; refine ns ?_; refine WC.block ?_; refine' WC.weak (l' := [(9, .int .i64 ((0) : Int)), (0, _), (7, _), (8, _)]) ⟨?w9, rfl, rfl, rfl, trivial⟩ (List.Sublist.refl _) ?_; case w9 => exact nq
  refine sq ?_; refine' WC.loopG (α := Nat × Mm) (fun (i, mi) => [(9, .int .i64 (i : Int))]) (fun (i, mi) => mi ++ mo) (fun (i, mi) => J) (fun (i, mi) => i ≤ l.length ∧ Pg ap (bs ++ numT (l.take i)) mi) (fun (i, mi) => l.length - i) ⟨0, m⟩ ?hs ?hstep; case hs => exact ⟨Nat.zero_le _, by simpa [numT] using hpg⟩
  case hstep =>
   rintro ⟨i, mi⟩ hinv; try simp only at hinv
   obtain ⟨hi, hpi⟩ := hinv; refine rg ?_; refine Sa V.vi ?_; refine ns ?_; refine If (fun c10 => ?_) fun c10 => ?_
   ·
    obtain ⟨a, off, cells, rfl, hro, hget⟩ := hl (by omega); obtain ⟨x, hxi, hnx⟩ := hget i (by omega) (by omega); rw [Int.toNat_natCast] at hxi; have hxb := hx x (List.mem_of_getElem? hxi); have hxl := Lib.itoa_length_le x hxb.1 hxb.2; have hlen : (numT (l.take i)).length ≤ 22 * i := by
      have := numT_len (l := l.take i) fun x h => hx x (List.mem_of_mem_take h); rw [List.length_take] at this; omega
    refine sk ?_; refine sq ?_; refine WC.block ?_; refine rg ?_; refine Sa V.ix ?_; refine' W.step rfl (Exec.val rfl rfl (v_load rfl rfl ?hr (part1 (tAg rfl) ?hv)) ?_); case hr => exact hro.sub (fun _ q => List.mem_append_right _ q)
    case hv => first | rfl | assumption
    refine Sa V.asg ?_; refine nr ?_; refine Sa V.mv ?_; refine Sa V.nc ?_; refine Sa V.fa ?_; refine' W.step rfl (Exec.call rfl rfl rfl rfl rfl rfl rfl (mi := mi) (mr := mo) (.refl _) trivial (wbyte_fn (x := 32) hpi (by rw [List.length_append]; omega)) ?_); rintro v m1 J' hle ⟨rfl, hpg1⟩; refine ns ?_; refine WC.draw rfl (by kernel_rfl) (plan := [.val 0, .val 1, .val 2, .val 3, .chn 4, .chk [2, 1, 0], .chn 5]) (by kernel_rfl) ?_; refine Da rfl V.mv ?_; refine Da rfl V.nc ?_; refine Da rfl V.fa ?_; refine Da rfl V.mv ?_; refine dl rfl (G := hit x _ hxb.1 hxb.2) (h := ?_); rintro v m' J' hle ⟨rfl, rfl, rfl⟩; refine WD.chk ck ?_; refine' WD.call rfl rfl rfl rfl rfl rfl rfl rfl rfl rfl (mi := m1) (mr := mo) (.refl _) trivial (wstr_fn hpg1 (by rw [List.length_append, List.length_append, List.length_singleton]; omega)) ?_; rintro v m2 J' hle ⟨rfl, hpg2⟩; refine WD.nil ?_; refine rg ?_; refine Sa V.va ?_; refine Sa V.mv ?_; refine Wn ?_; refine' ⟨⟨i + 1, m2⟩, _, ?hinv, ?hmeas, rfl, ⟨?m9, rfl, rfl, rfl, trivial⟩, List.Sublist.refl _, rfl⟩; case m9 => exact nq
    case hmeas => exact om
    case hinv => exact ⟨by omega, by rw [numT_next hxi]; simpa using hpg2⟩
   ·
    refine sq ?_; refine WC.exit ?_; rw [List.take_of_length_le (by omega)] at hpi; refine rg ?_; refine Sa V.mv ?_; refine Sa V.asg ?_; refine ns ?_; refine WC.ret ?_; refine' ⟨.inr rfl, rfl, _, mi, .tmp rfl .nil, List.sublist_append_left _ _, ⟨rfl, rfl, hpi⟩⟩
theorem Acc.pgform {e : TypeId} {sz k : Nat} {v : Value} {cells : List Value} {mo : Mm} (h : Acc e sz v k cells mo) (hn : nR mo) (hk : 0 < k) : ∃ a rest z, v = .slice (some ⟨a, 0, none⟩) k openCap ∧ mo = [(a, .opn cells e rest z)] ∧ z ≤ cells.length ∧ cells.length = k * sz := by
  cases h with
  | nil => omega
  | emp a => omega
  | opn h1 h2 => exact ⟨_, _, _, rfl, rfl, h2, h1⟩
  | cap => exact absurd (.head _) (hn _ _ _)
theorem bstring_fn {ap : Nat} {bs : List UInt8} {m : Mm} (hpg : Pg ap bs m) (h0 : 0 < bs.length) (h1 : bs.length ≤ 1000000) :
    Fn (kx Q g0) 23 [.pointer (some ⟨ap, 0, none⟩)] m J (fun u m' J' => u = .string ⟨⟨bs⟩⟩ ∧ J = J' ∧ Pg ap bs m') := by
  obtain ⟨p, w, mo, rfl, hp, hacc, hn⟩ := hpg; obtain ⟨a, rest, z, rfl, rfl, hz, hl⟩ := hacc.pgform hn h0; refine Fn.of_body (ftGet Tryd.func23) rfl rfl fun H => ?_; refine rg ?_; refine Sa V.asg ?_; refine ns ?_; refine WC.draw rfl (by kernel_rfl) (plan := [.val 0, .val 1, .val 2, .val 3, .val 5, .val 6, .val 7, .val 8, .val 9, .chn 4, .chk [9, 8, 7, 6, 5], .chn 10, .val 11]) (by kernel_rfl) ?_; refine Da rfl V.mv ?_; refine Da rfl V.nc ?_; refine Da rfl V.fa ?_; refine Da rfl V.ld ?_; refine Da rfl V.mv ?_; refine Da rfl V.nc ?_; refine Da rfl V.fa ?_; refine Da rfl V.ld ?_; refine Da rfl V.ls ?_; refine' WD.chnV rfl rfl rfl rfl (v_sliceData rfl rfl rfl ?h0 ?h1) ?_; case h0 => exact h0
  case h1 => (unfold openCap; omega)
  refine WD.chk ck ?_; refine' WD.chnX rfl rfl (x_unsafeStr rfl rfl rfl rfl rfl rfl (by kernel_rfl) (by kernel_rfl) ?hm ?hk ?h0 ?h1 ?_); case hm => exact List.Perm.swap _ _ _
  case hk => rfl
  case h0 => exact h0
  case h1 => exact h1
  refine Da rfl V.asg ?_; refine WD.nil ?_; refine WC.permM (List.Perm.swap _ _ _) ?_; refine sq ?_; refine WC.ret ?_; refine' ⟨.inr rfl, rfl, _, [pgB ap _ _, (a, _)], .tmp rfl .nil, List.Sublist.refl _, ⟨rfl, rfl, _, _, _, rfl, hp, .opn hl (Nat.max_le.2 ⟨hz, by rw [hl]; omega⟩), nR_opn⟩⟩
end
end Go.Opn
