/- A part of the proof of ResumeSaves. -/
import Derived.Test.YtmeojgcibppcmaaDoorRu
set_option maxRecDepth 100000
set_option maxHeartbeats 4000000
set_option linter.unusedVariables false
set_option linter.unusedSimpArgs false
namespace Go.Opn
open Go.Cre Go.RowKit Go.Proofs
/-! ### The reference's flaws -/
abbrev Fw := Int × Int × Int × Int
def fwC1 (x : Fw) : List Value := [.int .i64 x.1, .int .i64 x.2.1, .int .i64 x.2.2.1, .int .i64 x.2.2.2]
def fwC (s : List Fw) : List Value := s.flatMap fwC1
def FwR (x : Fw) (cs : List Value) : Prop := cs = [.int .i64 x.1, .int .i64 x.2.1, .int .i64 x.2.2.1, .int .i64 x.2.2.2]
theorem flat_drop {α : Type} {f : α → List Value} {k : Nat} (hf : ∀ x, (f x).length = k) : ∀ {s : List α} {i : Nat}, (s.flatMap f).drop (i * k) = (s.drop i).flatMap f := by
  intro s; induction s with
  | nil => intro i; simp
  | cons x r ih =>
    intro i; cases i with
    | zero => simp
    | succ i =>
      rw [List.flatMap_cons, List.drop_succ_cons, ← ih, List.drop_append, List.drop_of_length_le (by rw [hf, Nat.succ_mul]; omega), List.nil_append, hf]; congr 1
      rw [Nat.succ_mul]; omega
theorem fwC_len (s : List Fw) : (fwC s).length = s.length * 4 := by
  induction s with
  | nil => rfl
  | cons x r ih =>
    show (fwC1 x ++ fwC r).length = _; rw [List.length_append, ih, List.length_cons, Nat.succ_mul]; show 4 + _ = _; omega
theorem fwC_app (a b : List Fw) : fwC (a ++ b) = fwC a ++ fwC b := by unfold fwC; rw [List.flatMap_append]
theorem elems_fw {J : Jm} {e : TypeId} {v : Value} {s : List Fw} (h : SlC J e 4 v s.length (fwC s)) : Elems J e 4 FwR v s := by
  refine ⟨fwC s, h, fun i x hx => ?_⟩; have hi := (List.getElem?_eq_some_iff.1 hx).1; unfold fwC; rw [flat_drop (k := 4) (fun _ => rfl), List.drop_eq_getElem_cons hi]; have : s[i] = x := by rw [List.getElem?_eq_getElem hi] at hx; injection hx
  rw [this]; rfl
theorem setS_mem {i : Int} {x : Nd} : ∀ {l : List Nd} {n a : Nat}, l[a]? = some x → x.k = 2 ∧ x.i = i → ((n + a : Nat) : Int) ∈ setS i n l := by
  intro l; induction l with
  | nil => intro n a h; cases h
  | cons y r ih =>
    intro n a h hk; cases a with
    | zero =>
      simp at h; subst h; unfold setS; rw [if_pos hk]; exact .head _
    | succ a =>
      have := ih (n := n + 1) (a := a) (by simpa using h) hk; rw [show n + 1 + a = n + (a + 1) by omega] at this; unfold setS; split
      · exact .tail _ this
      · exact this
def plyS (g : Gm) (j : Nat) : Int := match g.is[j]? with | some y => y.1 | none => 0
def badS (g : Gm) (j : Nat) (x : Int) : Prop := Again g (parS g) j x.toNat ∨ wayS g (parS g) (plyS g j) x.toNat ≠ wayS g (parS g) (plyS g j) (hdS (setS (j : Int) 0 g.ns)).toNat
structure FwI (g : Gm) (L : List Fw) (i : Nat) (B : Prop) : Prop where
  lt : ∀ f ∈ L, 0 ≤ f.2.2.1 ∧ f.2.2.1 ≤ i
  old : ∀ j : Nat, j < i → ((∃ f ∈ L, f.2.2.1 = (j : Int)) ↔ ∃ x ∈ setS (j : Int) 0 g.ns, badS g j x)
  cur : (∃ f ∈ L, f.2.2.1 = (i : Int)) ↔ B
theorem FwI.nil {g : Gm} : FwI g [] 0 False := ⟨(fun f q => by cases q), (fun j h => by omega), ⟨(fun ⟨f, q, _⟩ => by cases q), False.elim⟩⟩
theorem FwI.iff {g : Gm} {L : List Fw} {i : Nat} {B B' : Prop} (h : FwI g L i B) (hb : B ↔ B') : FwI g L i B' := ⟨h.lt, h.old, h.cur.trans hb⟩
theorem FwI.add {g : Gm} {L : List Fw} {i : Nat} {B : Prop} (h : FwI g L i B) (k n o : Int) : FwI g (L ++ [(k, n, (i : Int), o)]) i True := by
  refine ⟨fun f hf => ?_, fun j hj => ?_, ⟨fun _ => trivial, fun _ => ⟨_, List.mem_append_right _ (.head _), rfl⟩⟩⟩
  · rcases List.mem_append.1 hf with q | q
    · exact h.lt f q
    · simp at q; subst q; exact ⟨by simp only; omega, by simp only; omega⟩
  · rw [← h.old j hj]
    constructor
    · rintro ⟨f, hf, e⟩
      rcases List.mem_append.1 hf with q | q
      · exact ⟨f, q, e⟩
      · simp at q; subst q; simp only at e; omega
    · rintro ⟨f, hf, e⟩; exact ⟨f, List.mem_append_left _ hf, e⟩
theorem FwI.next {g : Gm} {L : List Fw} {i : Nat} (h : FwI g L i (∃ x ∈ setS (i : Int) 0 g.ns, badS g i x)) : FwI g L (i + 1) False := by
  refine ⟨fun f hf => ⟨(h.lt f hf).1, by have := (h.lt f hf).2; omega⟩, fun j hj => ?_, ⟨fun ⟨f, hf, e⟩ => ?_, False.elim⟩⟩
  · by_cases q : j < i
    · exact h.old j q
    · obtain rfl : j = i := by omega
      exact h.cur
  · have := (h.lt f hf).2; omega
theorem FwI.step {g : Gm} {L : List Fw} {i k : Nat} {B : Prop} {s : List Int} {x : Int} (h : FwI g L i B) (hx : s[k]? = some x) (hb : B ↔ badS g i x ∨ ∃ y ∈ s.take k, badS g i y) : FwI g L i (∃ y ∈ s.take (k + 1), badS g i y) := by
  refine h.iff (hb.trans ?_); rw [List.take_add_one, hx]; constructor
  · rintro (q | ⟨y, hy, q⟩)
    · exact ⟨x, by simp, q⟩
    · exact ⟨y, List.mem_append_left _ hy, q⟩
  · rintro ⟨y, hy, q⟩
    rcases List.mem_append.1 hy with r | r
    · exact .inr ⟨y, r, q⟩
    · simp at r; subst r; exact .inl q
theorem bad_iff {g : Gm} (hok : FormOk g) {i : Nat} {y : Int × Int} (hy : g.is[i]? = some y) : (∃ x ∈ setS (i : Int) 0 g.ns, badS g i x) ↔ ¬ sameW g (parS g) y.1 (setS (i : Int) 0 g.ns) := by
  have hp : plyS g i = y.1 := by unfold plyS; rw [hy]
  constructor
  · rintro ⟨x, hx, q⟩ hs
    unfold badS at q; rw [hp] at q; rcases q with ⟨a, d, z, h1, h2, h3, h4⟩ | q
    · have hz := hok.types z (List.mem_of_getElem? h2) h3
      rw [h4, Int.toNat_natCast, hy] at hz; injection hz with hz
      have hm := setS_mem (n := 0) h2 ⟨h3, h4⟩; rw [Nat.zero_add] at hm; have e1 := hs x hx; have e2 := hs _ hm; rw [Int.toNat_natCast] at e2; exact way_longer h1 h2 ⟨h3, by rw [hz]⟩ (e1.trans e2.symm)
    · exact q (hs x hx)
  · intro h
    apply Classical.byContradiction
    intro q; apply h
    intro x hx; apply Classical.byContradiction
    intro r; exact q ⟨x, hx, .inr (by rw [hp]; exact r)⟩
theorem flaw_perf {g : Gm} (hok : FormOk g) {L : List Fw} (h : FwI g L g.is.length False) (p : Int) : (∃ f ∈ L, plyS g f.2.2.1.toNat = p) ↔ ¬ perfP g p := by
  constructor
  · rintro ⟨f, hf, e⟩ hp
    have hlt := h.lt f hf; obtain ⟨j, hj⟩ : ∃ j : Nat, f.2.2.1 = (j : Int) := ⟨f.2.2.1.toNat, by omega⟩; have hji : j < g.is.length := by
      by_cases q : j = g.is.length
      · subst q; exact absurd (h.cur.1 ⟨f, hf, hj⟩) id
      · omega
    have hy := List.getElem?_eq_getElem hji; have := (bad_iff hok hy).1 ((h.old j hji).1 ⟨f, hf, hj⟩); rw [hj, Int.toNat_natCast] at e; unfold plyS at e; rw [hy] at e; have e : (g.is[j]).1 = p := e; rw [e] at this; exact this (hp j _ _ (setsS_get hji) hy e)
  · intro hp
    apply Classical.byContradiction
    intro q; apply hp
    intro i s y h1 h2 h3; have hi := (List.getElem?_eq_some_iff.1 h2).1; rw [setsS_get hi] at h1; injection h1 with h1; subst h1
    apply Classical.byContradiction
    intro r; rw [← h3] at r; obtain ⟨f, hf, e⟩ := (h.old i hi).2 ((bad_iff hok h2).2 r); exact q ⟨f, hf, by rw [e, Int.toNat_natCast]; unfold plyS; rw [h2]; exact h3⟩
theorem RowAt.pubE {J : Jm} {a : Nat} {cells : List Value} (h : RowAt [] J a cells) : ∃ e, J a = some (cells, e) := by
  cases h with
  | own h => cases h
  | pub h => exact ⟨_, h⟩
  | opn h => cases h
section
variable {Q : Worlds Tryd.prog} {g0 : Nat} {J : Jm}
theorem ralike_fn {b1 b2 : Option Addr} {c1 c2 : Nat} {l1 l2 : List (Int × Int)} (h1 : Elems J 128 2 InR (.slice b1 l1.length c1) l1) (h2 : Elems J 128 2 InR (.slice b2 l2.length c2) l2) (hl : l1.length ≤ 1000000) :
    Fn (kx Q g0) 96 [.slice b1 l1.length c1, .slice b2 l2.length c2] [] J (fun u m' J' => u = .bool (decide (l1 = l2)) ∧ m' = [] ∧ J = J') := by
  obtain ⟨_, hat1⟩ := h1.at; obtain ⟨_, hat2⟩ := h2.at; refine Fn.of_body (ftGet Tryd.func96) rfl rfl fun H => ?_; refine rg ?_; refine Sa V.asg ?_; refine nr ?_; refine Sa V.mv ?_; refine Sa V.ls ?_; refine Sa V.mv ?_; refine Sa V.ls ?_; refine Sa V.vi ?_; refine ns ?_; refine If (fun c10 => ?_) fun c10 => ?_
  ·
   refine rg ?_; refine Sa V.asg ?_; refine ns ?_; refine WC.ret ?_; refine Lf ?_; refine ⟨congrArg Value.bool ?_, rfl, rfl⟩; first
     | (have c := hall; symm; rw [decide_eq_true_iff]
        apply List.ext_getElem?
        intro j; by_cases q : j < i
        · exact hall j q
        · rw [List.getElem?_eq_none (by omega), List.getElem?_eq_none (by omega)])
     | (symm; rw [decide_eq_false_iff_not]; intro q; rw [q] at c10; exact c10 rfl)
  ·
   refine sq ?_; refine WC.skip ?_; refine rg ?_; refine Sa V.asg ?_; refine ns ?_; refine WC.block ?_; refine' WC.weak (l' := [(5, .int .i64 ((0) : Int)), (0, _), (1, _)]) ⟨?w5, rfl, rfl, trivial⟩ (List.Sublist.refl _) ?_; case w5 => exact nq
   refine sq ?_; refine' WC.loopC (α := Nat) (fun (i : Nat) => [(5, .int .i64 (i : Int))]) (fun (i : Nat) => i ≤ l1.length ∧ ∀ j, j < i → l1[j]? = l2[j]?) (fun (i : Nat) => l1.length - i) (0) ?hs ?hstep; case hs => exact ⟨Nat.zero_le _, fun j hj => by omega⟩
   case hstep =>
    rintro i hinv; try simp only at hinv
    obtain ⟨hi, hall⟩ := hinv; refine rg ?_; refine Sa V.mv ?_; refine Sa V.mv ?_; refine Sa V.ls ?_; refine Sa V.vi ?_; refine ns ?_; refine If (fun c14 => ?_) fun c14 => ?_
    ·
     obtain ⟨a1, o1, cl1, e1, rfl, hJ1, hg1⟩ := hat1 (by omega); obtain ⟨a2, o2, cl2, e2, rfl, hJ2, hg2⟩ := hat2 (by omega); obtain ⟨x, cs, hx, hcx, _, rfl⟩ := hg1 i (by omega) (by omega); obtain ⟨y, cs, hy, hcy, _, rfl⟩ := hg2 i (by omega) (by omega); rw [Int.toNat_natCast] at hx hy; refine sk ?_; refine sq ?_; refine WC.block ?_; refine sq ?_; refine WC.draw rfl (by kernel_rfl) (plan := [.val 0, .val 1, .val 2, .val 3, .val 4, .val 5, .val 6, .val 7, .val 8]) (by kernel_rfl) ?_; refine Da rfl V.mv ?_; refine Da rfl V.mv ?_; refine Da rfl V.ix ?_; refine Da rfl V.ldA ?_; refine Da rfl V.mv ?_; refine Da rfl V.mv ?_; refine Da rfl V.ix ?_; refine Da rfl V.ldA ?_; refine' WD.val rfl rfl rfl rfl (v_int2 rfl (.inr ⟨rfl, rfl⟩) rfl rfl (by kernel_rfl)) ?_; refine WD.nil ?_; refine sq ?_; refine If (fun c25 => ?_) fun c25 => ?_
     ·
      refine rg ?_; refine Sa V.asg ?_; refine ns ?_; refine WC.ret ?_; refine Lf ?_; refine ⟨congrArg Value.bool ?_, rfl, rfl⟩; first
        | (have c := c25; symm; rw [decide_eq_false_iff_not]; intro q; subst q; rw [hx] at hy; injection hy with hy; subst hy; exact c25 ⟨rfl, rfl⟩)
        | (have c := hall; symm; rw [decide_eq_true_iff]
           apply List.ext_getElem?
           intro j; by_cases q : j < i
           · exact hall j q
           · rw [List.getElem?_eq_none (by omega), List.getElem?_eq_none (by omega)])
        | (symm; rw [decide_eq_false_iff_not]; intro q; rw [q] at c10; exact c10 rfl)
     ·
      refine sq ?_; refine WC.skip ?_; refine rg ?_; refine Sa V.mv ?_; refine Sa V.va ?_; refine Sa V.asg ?_; refine Wn ?_; refine' ⟨(i + 1), _, ?hinv, ?hmeas, rfl, ⟨?m5, rfl, rfl, trivial⟩, List.Sublist.refl _, rfl⟩; case m5 => exact nq
      case hmeas => exact om
      case hinv => refine ⟨by omega, fun j hj => ?_⟩; by_cases q : j < i; (exact hall j q); (obtain rfl : j = i := by omega); (rw [hx, hy]; have c := Classical.not_not.1 c25; exact congrArg some (Prod.ext c.1 c.2))
    ·
     refine sq ?_; refine WC.exit ?_; refine rg ?_; refine Sa V.asg ?_; refine ns ?_; refine WC.ret ?_; refine Lf ?_; refine ⟨congrArg Value.bool ?_, rfl, rfl⟩; first
       | (have c := hall; symm; rw [decide_eq_true_iff]
          apply List.ext_getElem?
          intro j; by_cases q : j < i
          · exact hall j q
          · rw [List.getElem?_eq_none (by omega), List.getElem?_eq_none (by omega)])
       | (symm; rw [decide_eq_false_iff_not]; intro q; rw [q] at c10; exact c10 rfl)
theorem flaws_fn {g : Gm} {bn bi : Option Addr} {cn ci : Nat} (hg : GmR J g bn cn bi ci) (hok : FormOk g) :
    Fn (kx Q g0) 84 [gV g bn cn bi ci] [] J (fun u m' J' => ∃ b c L, u = .slice b L.length c ∧ m' = [] ∧ J.le J' ∧ Elems J' 114 4 FwR (.slice b L.length c) L ∧ FwI g L g.is.length False ∧ L.length ≤ 1000000) := by
  have qi : addrEq bi bi = true := hg.i.addr; have qn : addrEq bn bn = true := hg.n.addr; have ht := parS_tree hok; have hpl := ht.len; have n2 := hok.n2; have i2 := hok.i2; have hget : ∀ c : Nat, c < g.ns.length → ∃ a, (parS g)[c]? = some a ∧ -1 ≤ a ∧ a < g.ns.length := fun c hc => by
    by_cases q : c = 0
    · subst q; exact ⟨-1, ht.root, by omega, by omega⟩
    · obtain ⟨a, h1, h2, _⟩ := ht.up c (by omega) hc
      exact ⟨a, h1, by omega, by omega⟩
  refine Fn.of_body (ftGet Tryd.func84) rfl rfl fun H => ?_; refine rg ?_; refine bx fun a1 => ?_; refine Sa V.asg ?_; refine nr ?_; refine Sa V.asg ?_; refine nr ?_; refine Sa V.ldA ?_; refine cl (G := rparents_fn hg hok) (h := ?_); rintro v m' J1 hle1 ⟨bp, cp, rfl, rfl, _, hP⟩; refine Sa V.asg ?_; refine Wn ?_; obtain ⟨ap, op, clp, rfl, hrop, hgtp⟩ := hP.ri [] (by have := hok.n1; omega); have hup : ∀ (c : Nat) (at_ : Int), c < g.ns.length → (parS g)[c]? = some at_ → nth clp (op + c * 1) = some (.int .i64 at_) := fun c at_ hc h => by
    obtain ⟨x, h1, h2⟩ := hgtp c (by omega) (by omega); rw [Int.toNat_natCast] at h1 h2; rw [h1] at h; injection h with h; subst h; exact h2
  refine rg ?_; refine Sa V.ldA ?_; refine cl (G := setsof_fn (hg.mono hle1) n2 i2 hok.nodes) (h := ?_); rintro v m' J2 hle2 ⟨bs, cs, rfl, rfl, _, hel⟩; refine Sa V.asg ?_; refine Wn ?_; obtain ⟨_, hge⟩ := hel.at; have hsl : (setsS g).length = g.is.length := setsS_len; have hle12 := hle1.trans hle2; refine rg ?_; obtain ⟨ep, hJp⟩ := hrop.pubE; have hJp := hle2 _ _ hJp; refine Sa V.asg ?_; refine ns ?_; refine WC.block ?_; refine' WC.weak (l' := [(3, (.slice none 0 0)), (6, .int .i64 ((0) : Int)), (1, _), (4, _), (5, _)]) ⟨?w3, ?w6, rfl, rfl, rfl, trivial⟩ (List.Sublist.refl _) ?_; case w3 => exact nq
  case w6 => exact nq
  refine sq ?_; refine' WC.loopG (α := Nat × (List Fw) × Value × Mm × Jm) (fun (i, L, v, mo, Jc) => [(3, v), (6, .int .i64 (i : Int))]) (fun (i, L, v, mo, Jc) => mo ++ [(a1, .row (gC g bn cn bi ci) 25)]) (fun (i, L, v, mo, Jc) => Jc) (fun (i, L, v, mo, Jc) => i ≤ g.is.length ∧ FwI g L i False ∧ L.length ≤ 4000 * i ∧ Acc 114 4 v L.length (fwC L) mo ∧ J2.le Jc) (fun (i, L, v, mo, Jc) => g.is.length - i) ⟨0, [], .slice none 0 0, [], J2⟩ ?hs ?hstep; case hs => exact ⟨Nat.zero_le _, FwI.nil, Nat.le_refl _, .nil, Jm.le.refl _⟩
  case hstep =>
   rintro ⟨i, L, v, mo, Jc⟩ hinv; try simp only at hinv
   obtain ⟨hi, hfw, hLl, hacc, hJc⟩ := hinv; refine rg ?_; refine Sa V.mv ?_; refine Sa V.mv ?_; refine Sa V.ls ?_; refine Sa V.vi ?_; refine ns ?_; refine If (fun c18 => ?_) fun c18 => ?_
   ·
    have hgc := hg.mono (hle12.trans hJc); obtain ⟨_, hgi⟩ := hgc.i.at; obtain ⟨ae, oe, cle, ee, rfl, hJe, hgte⟩ := hge (by omega); obtain ⟨s, css, hs, hcss, hkss, bss, cs0, rfl, hsI⟩ := hgte i (by omega) (by omega); have hks0 := hkss 0 _ (by decide) rfl; obtain ⟨ai, oi, cli, ei, rfl, hJi, hgti⟩ := hgi (by omega); obtain ⟨y, csi, hy, hcsi, hksi, rfl⟩ := hgti i (by omega) (by omega); have hki0 := hksi 0 _ (by decide) rfl; rw [Int.toNat_natCast] at hs hy; have hset : s = setS (i : Int) 0 g.ns := by rw [setsS_get (by omega)] at hs; injection hs with hs; exact hs.symm
    have hsn : s ≠ [] := hok.sets s (List.mem_of_getElem? hs); have hsl0 : 0 < s.length := List.length_pos_iff.2 hsn; have hslen : s.length ≤ 2000 := by have := setS_len (j := (i : Int)) (l := g.ns) (n := 0); rw [hset]; omega
    have hin : ∀ x ∈ s, ∃ c : Nat, x = (c : Int) ∧ c < g.ns.length := fun x hx => by
      rw [hset] at hx; obtain ⟨c, h1, z, h2, _⟩ := setS_in hx; exact ⟨c, h1, (List.getElem?_eq_some_iff.1 h2).1⟩
    have hply : plyS g i = y.1 := by unfold plyS; rw [hy]
    have hJe := hJc _ _ hJe; have hri := hsI.ri []; obtain ⟨asl, offs, cls, rfl, hros, hgts⟩ := hri hsl0; obtain ⟨es, hJs⟩ := hros.pubE; have hJs := hJc _ _ hJs; have hJp := hJc _ _ hJp; obtain ⟨x0, hx0, hnx0⟩ := hgts 0 (by omega) (by omega); have hx0' : s[0]? = some x0 := hx0; have hhd := hdS_get hx0'; obtain ⟨c0, hc0, hc0n⟩ := hin x0 (List.mem_of_getElem? hx0'); subst hc0; refine sk ?_; refine sq ?_; refine WC.block ?_; refine rg ?_; refine Sa V.fa ?_; refine Sa V.ld ?_; refine Sa V.mv ?_; refine Sa V.ix ?_; refine Sa V.fa ?_; refine Sa V.ld ?_; refine Sa V.asg ?_; refine nr ?_; refine Sa V.asg ?_; refine ns ?_; refine WC.block ?_; refine' WC.weak (l' := [(3, (v)), (8, .int .i64 ((0) : Int)), (1, _), (4, _), (5, _), (6, _), (7, _)]) ⟨?w3, ?w8, rfl, rfl, rfl, rfl, rfl, trivial⟩ (List.Sublist.refl _) ?_; case w3 => exact nq
    case w8 => exact nq
    refine sq ?_; refine' WC.loopG (α := Nat × (List Fw) × Value × Mm × Jm) (fun (k, L1, v1, mo1, Jd) => [(3, v1), (8, .int .i64 (k : Int))]) (fun (k, L1, v1, mo1, Jd) => mo1 ++ [(a1, .row (gC g bn cn (some ⟨ai, oi, none⟩) ci) 25)]) (fun (k, L1, v1, mo1, Jd) => Jd) (fun (k, L1, v1, mo1, Jd) => k ≤ s.length ∧ FwI g L1 i (∃ z ∈ s.take k, badS g i z) ∧ L1.length ≤ 4000 * i + 2 * k ∧ Acc 114 4 v1 L1.length (fwC L1) mo1 ∧ Jc.le Jd) (fun (k, L1, v1, mo1, Jd) => s.length - k) ⟨0, L, v, mo, Jc⟩ ?hs ?hstep; case hs => exact ⟨Nat.zero_le _, hfw.iff ⟨False.elim, fun ⟨z, hz, _⟩ => by simp at hz⟩, by omega, hacc, Jm.le.refl _⟩
    case hstep =>
     rintro ⟨k, L1, v1, mo1, Jd⟩ hinv; try simp only at hinv
     obtain ⟨hk, hfw1, hLl1, hacc1, hJd⟩ := hinv; have hJe := hJd _ _ hJe; have hJi := hJd _ _ hJi; have hJs := hJd _ _ hJs; have hJp := hJd _ _ hJp; refine rg ?_; refine Sa V.mv ?_; refine Sa V.mv ?_; refine Sa V.mv ?_; refine Sa V.ix ?_; refine Sa V.ld ?_; refine Sa V.ls ?_; refine Sa V.vi ?_; refine ns ?_; refine If (fun c33 => ?_) fun c33 => ?_
     ·
      obtain ⟨x, hx, hnx⟩ := hgts k (by omega) (by omega); rw [Int.toNat_natCast] at hx; obtain ⟨cx, hcx, hcxn⟩ := hin x (List.mem_of_getElem? hx); subst hcx; have hgd := hg.mono (hle12.trans (hJc.trans hJd)); obtain ⟨_, hgn⟩ := hgd.n.at; obtain ⟨at0, hat0, hat01, hat02⟩ := hget cx hcxn; have hnv0 := hup cx _ hcxn hat0; refine sk ?_; refine sq ?_; refine WC.block ?_; refine rg ?_; refine Sa V.mv ?_; refine Sa V.mv ?_; refine Sa V.ix ?_; refine Sa V.ld ?_; refine Sa V.mv ?_; refine Sa V.ix ?_; refine Sa V.ld ?_; refine Sa V.asg ?_; refine nr ?_; refine Sa V.mv ?_; refine Sa V.mv ?_; refine Sa V.ix ?_; refine Sa V.ld ?_; refine Sa V.asg ?_; refine ns ?_; refine WC.block ?_; refine' WC.weak (l' := [(10, .int .i64 (at0)), (1, _), (3, _), (4, _), (5, _), (6, _), (7, _), (8, _), (9, _)]) ⟨?w10, rfl, rfl, rfl, rfl, rfl, rfl, rfl, rfl, trivial⟩ (List.Sublist.refl _) ?_; case w10 => exact nq
      refine sq ?_; refine' WC.loopG (α := Nat × Int) (fun (c, at_) => [(10, .int .i64 at_)]) (fun (c, at_) => mo1 ++ [(a1, .row (gC g bn cn (some ⟨ai, oi, none⟩) ci) 25)]) (fun (c, at_) => Jd) (fun (c, at_) => c < g.ns.length ∧ (parS g)[c]? = some at_ ∧ (Again g (parS g) i cx ↔ Again g (parS g) i c)) (fun (c, at_) => c) ⟨cx, at0⟩ ?hs ?hstep; case hs => exact ⟨hcxn, hat0, Iff.rfl⟩
      case hstep =>
       rintro ⟨c, at_⟩ hinv; try simp only at hinv
       obtain ⟨hc, hat, hag⟩ := hinv; refine rg ?_; refine Sa V.mv ?_; refine Sa V.vi ?_; refine ns ?_; refine If (fun c48 => ?_) fun c48 => ?_
       ·
        obtain ⟨a, hca, hac, z, hz, hmem⟩ := ht.up c (by by_cases q : c = 0; (subst q; rw [ht.root] at hat; injection hat with hat; omega); omega) hc; rw [hat] at hca; injection hca with hca; subst hca
        obtain ⟨an, off, cells, e', rfl, hJ, hgt⟩ := hgn (by omega); obtain ⟨z', csz, hz', hcs, hks, hR⟩ := hgt a (by omega) (by omega); obtain ⟨b1, c1, b2, c2, b3, c3, rfl, hx1, hx2, hx3⟩ := hR; rw [Int.toNat_natCast, hz] at hz'; injection hz' with hz'; subst hz'
        obtain ⟨at2, hat2, hat21, hat22⟩ := hget a (by omega); have hnv2 := hup a _ (by omega) hat2; have hk0 := hks 0 _ (by decide) rfl; have hk2 := hks 2 _ (by decide) rfl; refine sk ?_; refine sq ?_; refine WC.block ?_; refine wk [1, 3, 4, 5, 6, 7, 8, 9, 10] ?_; refine sq ?_; refine' WC.cutK 0 [(69, .bool (decide ((z.k = 2 ∧ z.i = (i : Int)))))] ?cr15 ?dr15; case cr15 =>
         refine WC.region ?_; refine Sa V.fa ?_; refine Sa V.ld ?_; refine Sa V.mv ?_; refine Sa V.ix ?_; refine Sa V.fa ?_; refine Sa V.ld ?_; refine Sa V.vi ?_; refine Sa V.mv ?_; refine Wp 60 (fun gr15_7 => ?_) fun gr15_7 => ?_
         ·
          refine Sb V.fa ?_; refine Sb V.ld ?_; refine Sb V.mv ?_; refine Sb V.ix ?_; refine Sb V.fa ?_; refine Sb V.ld ?_; refine Sb V.mv ?_; refine Sb V.vi ?_; refine Sa V.pk ?_; refine Wn ?_; exact ce
         ·
          refine Sn ?_; refine Sn ?_; refine Sn ?_; refine Sn ?_; refine Sn ?_; refine Sn ?_; refine Sn ?_; refine Sn ?_; refine Sa V.pk ?_; refine Wn ?_; exact ce
        case dr15 =>
         refine sq ?_; refine If (fun c69 => ?_) fun c69 => ?_
         ·
          have hyes : Again g (parS g) i cx := hag.2 ((again_up hat hac hz).2 (.inl c69)); refine rg ?_; refine Sa V.mv ?_; refine Sa V.mv ?_; refine Sa V.mv ?_; refine Sa V.mv ?_; refine Sa V.bd ?_; refine bsl (sb142 Q g0) fun a75 => ?_; refine' W.step rfl (.of (x_accP rfl rfl rfl rfl rfl rfl (sb142 Q g0) (un142 Q g0) (fun i q => by cases q) ?hacc ?hm ?hx ?hnl ?hne ?hl fun w76 mo76 hacc76 => ?_)); case hacc => assumption
          case hm => exact pq
          case hx => exact qx
          case hnl => first | rfl | (simp; done) | (simp; omega)
          case hne => first | rfl | exact ints_one _
          case hl => exact om
          refine Sa V.asg ?_; refine ns ?_; refine WC.exit ?_; refine sq ?_; refine WC.drawN rfl (by kernel_rfl) (plan := [.val 0, .val 1, .val 2, .val 4, .val 5, .val 6, .val 7, .val 8, .val 9, .val 10, .val 11, .chn 3, .chk [11, 10, 9, 8, 7, 6, 5, 4], .chn 12, .chn 13, .val 14]) (by kernel_rfl) ?_; refine WN.val rfl rfl rfl rfl V.ldA ?_; refine WN.val rfl rfl rfl rfl V.mv ?_; refine WN.val rfl rfl rfl rfl V.mv ?_; refine WN.val rfl rfl rfl rfl V.ldA ?_; refine WN.val rfl rfl rfl rfl V.mv ?_; refine WN.val rfl rfl rfl rfl V.mv ?_; refine WN.val rfl rfl rfl rfl V.ix ?_; refine WN.val rfl rfl rfl rfl V.ld ?_; refine WN.val rfl rfl rfl rfl V.ix ?_; refine WN.val rfl rfl rfl rfl V.ld ?_; refine WN.val rfl rfl rfl rfl V.mv ?_; refine' WN.call rfl rfl rfl rfl rfl rfl rfl rfl rfl (rway_fn hgd hok hcxn) ((fun v m' J' ⟨b, c, a3, _, h, _⟩ => ⟨a3, _, by rw [h]; exact .head _⟩)) ?_; rintro v m' J3 hle3 ⟨bw1, cw1, aw1, rfl, rfl, _, hw1⟩; have hJe := hle3 _ _ hJe; have hJs := hle3 _ _ hJs; refine WN.chk ck ?_; refine' WN.call rfl rfl rfl rfl rfl rfl rfl rfl rfl (rway_fn (hgd.mono hle3) hok hc0n) ((fun v m' J' ⟨b, c, a3, _, h, _⟩ => ⟨a3, _, by rw [h]; exact .head _⟩)) ?_; rintro v m' J4 hle4 ⟨bw2, cw2, aw2, rfl, rfl, _, hw2⟩; refine' WN.callL rfl rfl rfl rfl rfl rfl rfl rfl rfl (ralike_fn (hw1.mono hle4 fun _ _ q => q) hw2 (by have := mvL_len (g := g) (P := parS g) (p := y.1) cx cx (Nat.le_refl _); unfold wayS wayL; rw [List.length_reverse, List.length_map]; omega)) ?_; rintro v m' J5 hle5 ⟨rfl, rfl, rfl⟩; refine WZ.val rfl rfl rfl rfl V.nt ?_; refine WZ.nil ?_; refine sq ?_; refine If (fun c91 => ?_) fun c91 => ?_
          ·
           have hJe := hle4 _ _ hJe; have hJs := hle4 _ _ hJs; first
             | refine WC.permM (m' := (aw2, _) :: (aw1, _) :: (mo76 ++ _)) (.refl _) ?_
             | refine WC.permM (m' := (aw2, _) :: (aw1, _) :: (mo1 ++ _)) (.refl _) ?_
           refine rg ?_; refine Sa V.mv ?_; refine Sa V.mv ?_; refine Sa V.mv ?_; refine Sa V.mv ?_; refine Sa V.mv ?_; refine Sa V.ix ?_; refine Sa V.ld ?_; refine Sa V.ix ?_; refine Sa V.ld ?_; refine Sa V.bd ?_; refine bsl (sb142 Q g0) fun a102 => ?_; refine' W.step rfl (.of (x_accP rfl rfl rfl rfl rfl rfl (sb142 Q g0) (un142 Q g0) (fun i q => by cases q) ?hacc ?hm ?hx ?hnl ?hne ?hl fun w103 mo103 hacc103 => ?_)); case hacc => assumption
           case hm => exact pq
           case hx => exact qx
           case hnl => first | rfl | (simp; done) | (simp; omega)
           case hne => first | rfl | exact ints_one _
           case hl => exact om
           refine Sa V.asg ?_; refine nr ?_; refine Sa V.mv ?_; refine Sa V.va ?_; refine Sa V.asg ?_; refine Wn ?_; refine' ⟨⟨k + 1, (L1 ++ [(1, (cx : Int), (i : Int), (a : Int))]) ++ [(2, (cx : Int), (i : Int), (c0 : Int))], w103, mo103, J4⟩, _, ?hinv, ?hmeas, rfl, ⟨?m3, ?m8, rfl, rfl, rfl, rfl, rfl, trivial⟩, List.Sublist.append (.refl _) (.cons _ (.cons _ (.cons _ (.cons _ (.refl _))))), rfl⟩; case m3 => exact nq
           case m8 => exact nq
           case hmeas => exact om
           case hinv => exact ⟨by omega, ((hfw1.add 1 cx a).add 2 cx c0).step hx ⟨fun _ => .inl (.inl hyes), fun _ => trivial⟩, by simp; omega, hacc103.to (by simp) (by rw [fwC_app, fwC_app]; rfl), hJd.trans (hle3.trans hle4)⟩
          ·
           refine sq ?_; refine WC.skip ?_; refine rg ?_; refine Sa V.mv ?_; refine Sa V.va ?_; refine Sa V.asg ?_; refine Wn ?_; refine' ⟨⟨k + 1, L1 ++ [(1, (cx : Int), (i : Int), (a : Int))], w76, mo76, J4⟩, _, ?hinv, ?hmeas, rfl, ⟨?m3, ?m8, rfl, rfl, rfl, rfl, rfl, trivial⟩, .cons _ (.cons _ (List.Sublist.append (l₁ := mo76) (l₂ := mo76) (.refl _) (.cons _ (.refl _)))), rfl⟩; case m3 => exact nq
           case m8 => exact nq
           case hmeas => exact om
           case hinv => exact ⟨by omega, (hfw1.add 1 cx a).step hx ⟨fun _ => .inl (.inl hyes), fun _ => trivial⟩, by simp; omega, hacc76.to (by simp) (by rw [fwC_app]; rfl), hJd.trans (hle3.trans hle4)⟩
         ·
          refine sq ?_; refine WC.skip ?_; refine rg ?_; refine Sa V.mv ?_; refine Sa V.mv ?_; refine Sa V.ix ?_; refine Sa V.ld ?_; refine Sa V.asg ?_; refine Wn ?_; refine' ⟨⟨a, at2⟩, _, ?hinv, ?hmeas, rfl, ⟨?m10, rfl, rfl, rfl, rfl, rfl, rfl, rfl, rfl, trivial⟩, List.Sublist.refl _, rfl⟩; case m10 => exact nq
          case hmeas => exact om
          case hinv => exact ⟨by omega, hat2, hag.trans ((again_up hat hac hz).trans ⟨fun q => q.resolve_left c69, .inr⟩)⟩
       ·
        have hno : ¬ Again g (parS g) i cx := fun q => again_root hat (by omega) (hag.1 q); refine sq ?_; refine WC.exit ?_; refine sq ?_; refine WC.drawN rfl (by kernel_rfl) (plan := [.val 0, .val 1, .val 2, .val 4, .val 5, .val 6, .val 7, .val 8, .val 9, .val 10, .val 11, .chn 3, .chk [11, 10, 9, 8, 7, 6, 5, 4], .chn 12, .chn 13, .val 14]) (by kernel_rfl) ?_; refine WN.val rfl rfl rfl rfl V.ldA ?_; refine WN.val rfl rfl rfl rfl V.mv ?_; refine WN.val rfl rfl rfl rfl V.mv ?_; refine WN.val rfl rfl rfl rfl V.ldA ?_; refine WN.val rfl rfl rfl rfl V.mv ?_; refine WN.val rfl rfl rfl rfl V.mv ?_; refine WN.val rfl rfl rfl rfl V.ix ?_; refine WN.val rfl rfl rfl rfl V.ld ?_; refine WN.val rfl rfl rfl rfl V.ix ?_; refine WN.val rfl rfl rfl rfl V.ld ?_; refine WN.val rfl rfl rfl rfl V.mv ?_; refine' WN.call rfl rfl rfl rfl rfl rfl rfl rfl rfl (rway_fn hgd hok hcxn) ((fun v m' J' ⟨b, c, a3, _, h, _⟩ => ⟨a3, _, by rw [h]; exact .head _⟩)) ?_; rintro v m' J3 hle3 ⟨bw1, cw1, aw1, rfl, rfl, _, hw1⟩; have hJe := hle3 _ _ hJe; have hJs := hle3 _ _ hJs; refine WN.chk ck ?_; refine' WN.call rfl rfl rfl rfl rfl rfl rfl rfl rfl (rway_fn (hgd.mono hle3) hok hc0n) ((fun v m' J' ⟨b, c, a3, _, h, _⟩ => ⟨a3, _, by rw [h]; exact .head _⟩)) ?_; rintro v m' J4 hle4 ⟨bw2, cw2, aw2, rfl, rfl, _, hw2⟩; refine' WN.callL rfl rfl rfl rfl rfl rfl rfl rfl rfl (ralike_fn (hw1.mono hle4 fun _ _ q => q) hw2 (by have := mvL_len (g := g) (P := parS g) (p := y.1) cx cx (Nat.le_refl _); unfold wayS wayL; rw [List.length_reverse, List.length_map]; omega)) ?_; rintro v m' J5 hle5 ⟨rfl, rfl, rfl⟩; refine WZ.val rfl rfl rfl rfl V.nt ?_; refine WZ.nil ?_; refine sq ?_; refine If (fun c91 => ?_) fun c91 => ?_
        ·
         have hJe := hle4 _ _ hJe; have hJs := hle4 _ _ hJs; first
           | refine WC.permM (m' := (aw2, _) :: (aw1, _) :: (mo76 ++ _)) (.refl _) ?_
           | refine WC.permM (m' := (aw2, _) :: (aw1, _) :: (mo1 ++ _)) (.refl _) ?_
         refine rg ?_; refine Sa V.mv ?_; refine Sa V.mv ?_; refine Sa V.mv ?_; refine Sa V.mv ?_; refine Sa V.mv ?_; refine Sa V.ix ?_; refine Sa V.ld ?_; refine Sa V.ix ?_; refine Sa V.ld ?_; refine Sa V.bd ?_; refine bsl (sb142 Q g0) fun a102 => ?_; refine' W.step rfl (.of (x_accP rfl rfl rfl rfl rfl rfl (sb142 Q g0) (un142 Q g0) (fun i q => by cases q) ?hacc ?hm ?hx ?hnl ?hne ?hl fun w103 mo103 hacc103 => ?_)); case hacc => assumption
         case hm => exact pq
         case hx => exact qx
         case hnl => first | rfl | (simp; done) | (simp; omega)
         case hne => first | rfl | exact ints_one _
         case hl => exact om
         refine Sa V.asg ?_; refine nr ?_; refine Sa V.mv ?_; refine Sa V.va ?_; refine Sa V.asg ?_; refine Wn ?_; refine' ⟨⟨k + 1, L1 ++ [(2, (cx : Int), (i : Int), (c0 : Int))], w103, mo103, J4⟩, _, ?hinv, ?hmeas, rfl, ⟨?m3, ?m8, rfl, rfl, rfl, rfl, rfl, trivial⟩, List.Sublist.append (.refl _) (.cons _ (.cons _ (.cons _ (.refl _)))), rfl⟩; case m3 => exact nq
         case m8 => exact nq
         case hmeas => exact om
         case hinv => exact ⟨by omega, (hfw1.add 2 cx c0).step hx ⟨fun _ => .inl (.inr (by rw [hply, ← hset, hhd]; exact c91)), fun _ => trivial⟩, by simp; omega, hacc103.to (by simp) (by rw [fwC_app]; rfl), hJd.trans (hle3.trans hle4)⟩
        ·
         refine sq ?_; refine WC.skip ?_; refine rg ?_; refine Sa V.mv ?_; refine Sa V.va ?_; refine Sa V.asg ?_; refine Wn ?_; refine' ⟨⟨k + 1, L1, v1, mo1, J4⟩, _, ?hinv, ?hmeas, rfl, ⟨?m3, ?m8, rfl, rfl, rfl, rfl, rfl, trivial⟩, .cons _ (.cons _ (.refl _)), rfl⟩; case m3 => exact nq
         case m8 => exact nq
         case hmeas => exact om
         case hinv => exact ⟨by omega, hfw1.step hx ⟨fun q => .inr q, fun q => q.resolve_left (fun q => q.elim hno (fun q => q (by rw [hply, ← hset, hhd]; exact Classical.not_not.1 c91)))⟩, by omega, hacc1, hJd.trans (hle3.trans hle4)⟩
     ·
      refine sq ?_; refine WC.exit ?_; refine rg ?_; refine Sa V.mv ?_; refine Sa V.va ?_; refine Sa V.asg ?_; refine Wn ?_; refine' ⟨⟨i + 1, L1, v1, mo1, Jd⟩, _, ?hinv, ?hmeas, rfl, ⟨?m3, ?m6, rfl, rfl, rfl, trivial⟩, List.Sublist.refl _, rfl⟩; case m3 => exact nq
      case m6 => exact nq
      case hmeas => exact om
      case hinv => exact ⟨by omega, (by rw [List.take_of_length_le (by omega), hset] at hfw1; exact hfw1.next), by omega, hacc1, hJc.trans hJd⟩
   ·
    refine sq ?_; refine WC.exit ?_; obtain ⟨bv, cv, rfl⟩ := hacc.form; refine hacc.pubP (.refl _) fun J3 hle3 hsl3 => ?_; refine rg ?_; refine Sa V.mv ?_; refine Sa V.asg ?_; refine ns ?_; refine WC.ret ?_; refine Lf ?_; exact ⟨_, _, L, rfl, rfl, hle12.trans (hJc.trans hle3), elems_fw hsl3, by rw [show i = g.is.length by omega] at hfw; exact hfw, by omega⟩
end
end Go.Opn
