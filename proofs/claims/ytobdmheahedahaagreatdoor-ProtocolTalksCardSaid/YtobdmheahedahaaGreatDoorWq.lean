/- A part of the proof of ProtocolTalks. -/
import Derived.Test.YtobdmheahedahaaGreatDoorWo
import Derived.Test.YtobdmheahedahaaGreatDoorOpnP
set_option maxRecDepth 100000
set_option linter.unusedVariables false
set_option linter.unusedSimpArgs false
namespace Go.Opn
open Go.Cre Go.RowKit Go.Proofs
noncomputable def kd70 : TypeDesc := match Tryz.prog.underlying 70 with | some d => d | none => .bool
section
variable (Q : Worlds Tryz.prog) (g0 : Nat)
theorem un47 : (kx Q g0).P.underlying 47 = some (.map 70 67) := by kernel_rfl
theorem keyPlace (p k : Int) (b : Bool) : keyOk (kx Q g0).P 70 (keyV [p, k]) b = true := by cases b <;> kernel_rfl
end
section
variable {Q : Worlds Tryz.prog} {g0 : Nat} {J : Jm}
theorem to_fn {x : Int} : Fn (kx Q g0) 27 [.int .i64 x] [] J (fun w m' J' => ∃ a, w = .func (.func 48) #[] #[.pointer (some ⟨a, 0, none⟩)] ∧ m' = [(a, .row [.int .i64 x] 3)] ∧ J' = J) := by
  refine Fn.of_body (ftGet Tryz.func27) rfl rfl fun H => ?_
  refine rg ?_
  refine' W.step rfl (.of (x_box rfl rfl rfl rfl rfl rfl fun a1 => ?_))
  refine Sa V.asg ?_
  refine Wn ?_
  refine rg ?_
  refine Sa V.fn ?_
  refine Sa V.asg ?_
  refine Wn ?_
  refine sq ?_
  refine WC.ret ?_
  refine' ⟨.inr rfl, rfl, _, _, .tmp rfl .nil, List.Sublist.refl _, ⟨_, rfl, rfl, rfl⟩⟩
theorem counted_fn {g : FuncId} {x y : Array Value} : Fn (kx Q g0) 31 [.func (.func g) x y] [] J (fun w m' J' => ∃ a, w = .func (.func 49) #[] #[.pointer (some ⟨a, 0, none⟩)] ∧ m' = [(a, .row [.func (.func g) x y] 67)] ∧ J' = J) := by
  refine Fn.of_body (ftGet Tryz.func31) rfl rfl fun H => ?_
  refine rg ?_
  refine' W.step rfl (.of (x_box rfl rfl rfl rfl rfl rfl fun a1 => ?_))
  refine Sa V.asg ?_
  refine Wn ?_
  refine rg ?_
  refine Sa V.fn ?_
  refine Sa V.asg ?_
  refine Wn ?_
  refine sq ?_
  refine WC.ret ?_
  refine' ⟨.inr rfl, rfl, _, _, .tmp rfl .nil, List.Sublist.refl _, ⟨_, rfl, rfl, rfl⟩⟩
def fnV (f : Nat) : Value := .func (.func f) #[] #[]
def clV (f a : Nat) : Value := .func (.func f) #[] #[.pointer (some ⟨a, 0, none⟩)]
/-- what may come, and what happens then: the literal's entries, and those behind it -/
def conv0 (a1 a2 c1 c2 c3 : Nat) : List (List Int × Value × Nat) := [([0, 1], clV 48 a1, 0), ([1, 9], clV 48 a2, 0), ([2, 2], fnV 28, 0), ([3, 3], fnV 29, 0), ([4, 4], fnV 30, 0), ([4, 6], clV 49 c1, 0), ([5, 6], clV 49 c2, 0), ([4, 5], fnV 33, 0), ([5, 10], fnV 34, 0), ([4, 7], clV 49 c3, 0)]
def convX : Nat → List (List Int × Value × Nat)
  | 0 => []
  | i + 1 => convX i ++ [([(i : Int), 8], fnV 35, 10 + 2 * i), ([(i : Int), 11], fnV 35, 10 + 2 * i + 1)]
structure Cv (a1 a2 c1 c2 a6 c3 : Nat) (J : Jm) : Prop where
  h1 : J a1 = some ([.int .i64 1], 3)
  h2 : J a2 = some ([.int .i64 2], 3)
  h3 : J c1 = some ([fnV 32], 67)
  h4 : J c2 = some ([fnV 32], 67)
  h5 : J a6 = some ([.int .i64 6], 3)
  h6 : J c3 = some ([clV 48 a6], 67)
theorem Cv.mono {J' : Jm} {a1 a2 c1 c2 a6 c3 : Nat} (h : Cv a1 a2 c1 c2 a6 c3 J) (hle : J.le J') : Cv a1 a2 c1 c2 a6 c3 J' := ⟨hle _ _ h.h1, hle _ _ h.h2, hle _ _ h.h3, hle _ _ h.h4, hle _ _ h.h5, hle _ _ h.h6⟩
def ConvP (J : Jm) : Value → Mm → Jm → Prop := fun w m' J' => ∃ b a1 a2 c1 c2 a6 c3, w = .map (some b) ∧ m' = [(b, .map ((conv0 a1 a2 c1 c2 c3 ++ convX 6).map entOf) 22)] ∧ Cv a1 a2 c1 c2 a6 c3 J' ∧ J.le J'
theorem convX_len : ∀ i, ∀ x ∈ convX i, x.1.length = 2 := by
  intro i
  induction i with
  | zero => intro x hx; cases hx
  | succ i ih =>
    intro x hx
    rcases List.mem_append.1 hx with h | h
    · exact ih x h
    · simp at h; rcases h with rfl | rfl <;> rfl
theorem conv_len {a1 a2 c1 c2 c3 i : Nat} : ∀ x ∈ conv0 a1 a2 c1 c2 c3 ++ convX i, x.1.length = 2 := by
  intro x hx
  rcases List.mem_append.1 hx with h | h
  · simp [conv0] at h; rcases h with rfl | rfl | rfl | rfl | rfl | rfl | rfl | rfl | rfl | rfl <;> rfl
  · exact convX_len i x h
theorem conv_len8 {a1 a2 c1 c2 c3 i k : Nat} : ∀ x ∈ (conv0 a1 a2 c1 c2 c3 ++ convX i) ++ [([(i : Int), 8], fnV 35, k)], x.1.length = 2 := by
  intro x hx
  rcases List.mem_append.1 hx with h | h
  · exact conv_len x h
  · simp at h; rw [h]; rfl
theorem conv_step {a1 a2 c1 c2 c3 i : Nat} : conv0 a1 a2 c1 c2 c3 ++ convX (i + 1) = ((conv0 a1 a2 c1 c2 c3 ++ convX i) ++ [([(i : Int), 8], fnV 35, 10 + 2 * i)]) ++ [([(i : Int), 11], fnV 35, 10 + 2 * i + 1)] := by
  rw [convX]; simp
theorem WC.gen {K : Kx} {B : Bs} {c : Code} {E : En} {m : Mm} {J : Jm} {Θ : Exit → En → Mm → Jm → Prop} (p : Jm → Prop) (hp : p J) (h : ∀ J, p J → WC K B c E m J Θ) : WC K B c E m J Θ := h J hp
def keys0 : List (List Int) := [[0, 1], [1, 9], [2, 2], [3, 3], [4, 4], [4, 6], [5, 6], [4, 5], [5, 10], [4, 7]]
def keysX : Nat → List (List Int)
  | 0 => []
  | i + 1 => keysX i ++ [[(i : Int), 8], [(i : Int), 11]]
theorem convX_keys (i : Nat) : (convX i).map Prod.fst = keysX i := by
  induction i with
  | zero => rfl
  | succ i ih => rw [convX, List.map_append, ih]; rfl
theorem conv_keys {a1 a2 c1 c2 c3 i : Nat} : (conv0 a1 a2 c1 c2 c3 ++ convX i).map Prod.fst = keys0 ++ keysX i := by
  rw [List.map_append, convX_keys]; rfl
theorem nd8 : ∀ i : Nat, i < 6 → ([(i : Int), 8] :: (keys0 ++ keysX i)).Nodup := by decide
theorem nd11 : ∀ i : Nat, i < 6 → ([(i : Int), 11] :: (keys0 ++ keysX i ++ [[(i : Int), 8]])).Nodup := by decide
theorem nd6 : (keys0 ++ keysX 6).Nodup := by decide
theorem conv_fn : Fn (kx Q g0) 18 [] [] J (ConvP J) := by
  refine Fn.of_body (ftGet Tryz.func18) rfl rfl fun H => ?_
  refine rg ?_
  refine Sa V.asg ?_
  refine Wn ?_
  repeat refine WC.seq ?_
  refine WC.lit (L := ⟨3, 0, 47, 27⟩) (key := 70) (elem := 67) (kd := kd70) (by kernel_rfl) (by kernel_rfl) (un47 Q g0) (by kernel_rfl) (plan := [.alc 0, .val 1, .val 4, .val 7, .val 8, .val 9, .val 10, .val 11, .val 12, .val 13, .val 16, .val 19, .val 20, .val 21, .val 22, .val 23, .chn 2, .val 3, .chk [23, 22, 21, 20, 19, 16, 13, 12, 11, 10, 9, 8, 7, 4, 1], .chn 5, .val 6, .chk [23, 22, 21, 20, 19, 16, 13, 12, 11, 10, 9, 8, 7, 4, 3, 1], .chn 14, .val 15, .chk [23, 22, 21, 20, 19, 16, 13, 12, 11, 10, 9, 8, 7, 6, 4, 3, 1], .chn 17, .val 18, .chk [23, 22, 21, 20, 19, 16, 15, 13, 12, 11, 10, 9, 8, 7, 6, 4, 3, 1], .chn 24, .chk [23, 22, 21, 20, 19, 18, 16, 15, 13, 12, 11, 10, 9, 8, 7, 6, 4, 3, 1], .chn 25, .val 26, .chk [23, 22, 21, 20, 19, 18, 16, 15, 13, 12, 11, 10, 9, 8, 7, 6, 4, 3, 1]]) (by kernel_rfl) ?_
  refine WN.litMap rfl rfl rfl (by kernel_rfl) rfl rfl (fun a3 => ?_)
  refine' WN.val rfl rfl rfl rfl (v_build rfl rfl (tBu rfl) rfl) ?_
  refine' WN.val rfl rfl rfl rfl (v_build rfl rfl (tBu rfl) rfl) ?_
  refine' WN.val rfl rfl rfl rfl (v_build rfl rfl (tBu rfl) rfl) ?_
  refine' WN.val0 rfl rfl rfl (v_func rfl rfl rfl) ?_
  refine' WN.val rfl rfl rfl rfl (v_build rfl rfl (tBu rfl) rfl) ?_
  refine' WN.val0 rfl rfl rfl (v_func rfl rfl rfl) ?_
  refine' WN.val rfl rfl rfl rfl (v_build rfl rfl (tBu rfl) rfl) ?_
  refine' WN.val0 rfl rfl rfl (v_func rfl rfl rfl) ?_
  refine' WN.val rfl rfl rfl rfl (v_build rfl rfl (tBu rfl) rfl) ?_
  refine' WN.val rfl rfl rfl rfl (v_build rfl rfl (tBu rfl) rfl) ?_
  refine' WN.val rfl rfl rfl rfl (v_build rfl rfl (tBu rfl) rfl) ?_
  refine' WN.val0 rfl rfl rfl (v_func rfl rfl rfl) ?_
  refine' WN.val rfl rfl rfl rfl (v_build rfl rfl (tBu rfl) rfl) ?_
  refine' WN.val0 rfl rfl rfl (v_func rfl rfl rfl) ?_
  refine' WN.val rfl rfl rfl rfl (v_build rfl rfl (tBu rfl) rfl) ?_
  refine WN.call rfl rfl rfl rfl rfl rfl rfl rfl rfl to_fn (fun v m' J' h => by obtain ⟨a, _, rfl, _⟩ := h; exact ⟨_, _, .head _⟩) ?_
  rintro v m' Ja5 hlea5 ⟨a5, rfl, rfl, rfl⟩
  refine WN.pub rfl (fun hpa5 hja5 => ?_)
  refine' WN.val0 rfl rfl rfl (v_func rfl rfl rfl) ?_
  refine WN.chk ⟨?k0, ?k1, ?k2, ?k3, ?k4, ?k5, ?k6, ?k7, ?k8, ?k9, ?k10, ?k11, ?k12, ?k13, ?k14, trivial⟩ ?_
  case k0 => exact Chk.val rfl rfl rfl (v_build rfl rfl (tBu rfl) rfl) rfl rfl
  case k1 => exact Chk.val0 rfl rfl rfl (v_func rfl rfl rfl)
  case k2 => exact Chk.val rfl rfl rfl (v_build rfl rfl (tBu rfl) rfl) rfl rfl
  case k3 => exact Chk.val0 rfl rfl rfl (v_func rfl rfl rfl)
  case k4 => exact Chk.val rfl rfl rfl (v_build rfl rfl (tBu rfl) rfl) rfl rfl
  case k5 => exact Chk.val rfl rfl rfl (v_build rfl rfl (tBu rfl) rfl) rfl rfl
  case k6 => exact Chk.val rfl rfl rfl (v_build rfl rfl (tBu rfl) rfl) rfl rfl
  case k7 => exact Chk.val0 rfl rfl rfl (v_func rfl rfl rfl)
  case k8 => exact Chk.val rfl rfl rfl (v_build rfl rfl (tBu rfl) rfl) rfl rfl
  case k9 => exact Chk.val0 rfl rfl rfl (v_func rfl rfl rfl)
  case k10 => exact Chk.val rfl rfl rfl (v_build rfl rfl (tBu rfl) rfl) rfl rfl
  case k11 => exact Chk.val0 rfl rfl rfl (v_func rfl rfl rfl)
  case k12 => exact Chk.val rfl rfl rfl (v_build rfl rfl (tBu rfl) rfl) rfl rfl
  case k13 => exact Chk.val rfl rfl rfl (v_build rfl rfl (tBu rfl) rfl) rfl rfl
  case k14 => exact Chk.val rfl rfl rfl (v_build rfl rfl (tBu rfl) rfl) rfl rfl
  refine WN.call rfl rfl rfl rfl rfl rfl rfl rfl rfl to_fn (fun v m' J' h => by obtain ⟨a, _, rfl, _⟩ := h; exact ⟨_, _, .head _⟩) ?_
  rintro v m' Ja7 hlea7 ⟨a7, rfl, rfl, rfl⟩
  refine WN.pub rfl (fun hpa7 hja7 => ?_)
  refine' WN.val0 rfl rfl rfl (v_func rfl rfl rfl) ?_
  refine WN.chk ⟨?k0, ?k1, ?k2, ?k3, ?k4, ?k5, ?k6, ?k7, ?k8, ?k9, ?k10, ?k11, ?k12, ?k13, ?k14, ?k15, trivial⟩ ?_
  case k0 => exact Chk.val rfl rfl rfl (v_build rfl rfl (tBu rfl) rfl) rfl rfl
  case k1 => exact Chk.val0 rfl rfl rfl (v_func rfl rfl rfl)
  case k2 => exact Chk.val rfl rfl rfl (v_build rfl rfl (tBu rfl) rfl) rfl rfl
  case k3 => exact Chk.val0 rfl rfl rfl (v_func rfl rfl rfl)
  case k4 => exact Chk.val rfl rfl rfl (v_build rfl rfl (tBu rfl) rfl) rfl rfl
  case k5 => exact Chk.val rfl rfl rfl (v_build rfl rfl (tBu rfl) rfl) rfl rfl
  case k6 => exact Chk.val rfl rfl rfl (v_build rfl rfl (tBu rfl) rfl) rfl rfl
  case k7 => exact Chk.val0 rfl rfl rfl (v_func rfl rfl rfl)
  case k8 => exact Chk.val rfl rfl rfl (v_build rfl rfl (tBu rfl) rfl) rfl rfl
  case k9 => exact Chk.val0 rfl rfl rfl (v_func rfl rfl rfl)
  case k10 => exact Chk.val rfl rfl rfl (v_build rfl rfl (tBu rfl) rfl) rfl rfl
  case k11 => exact Chk.val0 rfl rfl rfl (v_func rfl rfl rfl)
  case k12 => exact Chk.val rfl rfl rfl (v_build rfl rfl (tBu rfl) rfl) rfl rfl
  case k13 => exact Chk.val rfl rfl rfl (v_build rfl rfl (tBu rfl) rfl) rfl rfl
  case k14 => exact Chk.val0 rfl rfl rfl (v_func rfl rfl rfl)
  case k15 => exact Chk.val rfl rfl rfl (v_build rfl rfl (tBu rfl) rfl) rfl rfl
  refine WN.call rfl rfl rfl rfl rfl rfl rfl rfl rfl counted_fn (fun v m' J' h => by obtain ⟨a, _, rfl, _⟩ := h; exact ⟨_, _, .head _⟩) ?_
  rintro v m' Ja12 hlea12 ⟨a12, rfl, rfl, rfl⟩
  refine WN.pub rfl (fun hpa12 hja12 => ?_)
  refine' WN.val0 rfl rfl rfl (v_func rfl rfl rfl) ?_
  refine WN.chk ⟨?k0, ?k1, ?k2, ?k3, ?k4, ?k5, ?k6, ?k7, ?k8, ?k9, ?k10, ?k11, ?k12, ?k13, ?k14, ?k15, ?k16, trivial⟩ ?_
  case k0 => exact Chk.val rfl rfl rfl (v_build rfl rfl (tBu rfl) rfl) rfl rfl
  case k1 => exact Chk.val0 rfl rfl rfl (v_func rfl rfl rfl)
  case k2 => exact Chk.val rfl rfl rfl (v_build rfl rfl (tBu rfl) rfl) rfl rfl
  case k3 => exact Chk.val0 rfl rfl rfl (v_func rfl rfl rfl)
  case k4 => exact Chk.val rfl rfl rfl (v_build rfl rfl (tBu rfl) rfl) rfl rfl
  case k5 => exact Chk.val rfl rfl rfl (v_build rfl rfl (tBu rfl) rfl) rfl rfl
  case k6 => exact Chk.val rfl rfl rfl (v_build rfl rfl (tBu rfl) rfl) rfl rfl
  case k7 => exact Chk.val0 rfl rfl rfl (v_func rfl rfl rfl)
  case k8 => exact Chk.val rfl rfl rfl (v_build rfl rfl (tBu rfl) rfl) rfl rfl
  case k9 => exact Chk.val0 rfl rfl rfl (v_func rfl rfl rfl)
  case k10 => exact Chk.val rfl rfl rfl (v_build rfl rfl (tBu rfl) rfl) rfl rfl
  case k11 => exact Chk.val0 rfl rfl rfl (v_func rfl rfl rfl)
  case k12 => exact Chk.val rfl rfl rfl (v_build rfl rfl (tBu rfl) rfl) rfl rfl
  case k13 => exact Chk.val0 rfl rfl rfl (v_func rfl rfl rfl)
  case k14 => exact Chk.val rfl rfl rfl (v_build rfl rfl (tBu rfl) rfl) rfl rfl
  case k15 => exact Chk.val0 rfl rfl rfl (v_func rfl rfl rfl)
  case k16 => exact Chk.val rfl rfl rfl (v_build rfl rfl (tBu rfl) rfl) rfl rfl
  refine WN.call rfl rfl rfl rfl rfl rfl rfl rfl rfl counted_fn (fun v m' J' h => by obtain ⟨a, _, rfl, _⟩ := h; exact ⟨_, _, .head _⟩) ?_
  rintro v m' Ja14 hlea14 ⟨a14, rfl, rfl, rfl⟩
  refine WN.pub rfl (fun hpa14 hja14 => ?_)
  refine' WN.val0 rfl rfl rfl (v_func rfl rfl rfl) ?_
  refine WN.chk ⟨?k0, ?k1, ?k2, ?k3, ?k4, ?k5, ?k6, ?k7, ?k8, ?k9, ?k10, ?k11, ?k12, ?k13, ?k14, ?k15, ?k16, ?k17, trivial⟩ ?_
  case k0 => exact Chk.val rfl rfl rfl (v_build rfl rfl (tBu rfl) rfl) rfl rfl
  case k1 => exact Chk.val0 rfl rfl rfl (v_func rfl rfl rfl)
  case k2 => exact Chk.val rfl rfl rfl (v_build rfl rfl (tBu rfl) rfl) rfl rfl
  case k3 => exact Chk.val0 rfl rfl rfl (v_func rfl rfl rfl)
  case k4 => exact Chk.val rfl rfl rfl (v_build rfl rfl (tBu rfl) rfl) rfl rfl
  case k5 => exact Chk.val rfl rfl rfl (v_build rfl rfl (tBu rfl) rfl) rfl rfl
  case k6 => exact Chk.val0 rfl rfl rfl (v_func rfl rfl rfl)
  case k7 => exact Chk.val rfl rfl rfl (v_build rfl rfl (tBu rfl) rfl) rfl rfl
  case k8 => exact Chk.val0 rfl rfl rfl (v_func rfl rfl rfl)
  case k9 => exact Chk.val rfl rfl rfl (v_build rfl rfl (tBu rfl) rfl) rfl rfl
  case k10 => exact Chk.val0 rfl rfl rfl (v_func rfl rfl rfl)
  case k11 => exact Chk.val rfl rfl rfl (v_build rfl rfl (tBu rfl) rfl) rfl rfl
  case k12 => exact Chk.val0 rfl rfl rfl (v_func rfl rfl rfl)
  case k13 => exact Chk.val rfl rfl rfl (v_build rfl rfl (tBu rfl) rfl) rfl rfl
  case k14 => exact Chk.val0 rfl rfl rfl (v_func rfl rfl rfl)
  case k15 => exact Chk.val rfl rfl rfl (v_build rfl rfl (tBu rfl) rfl) rfl rfl
  case k16 => exact Chk.val0 rfl rfl rfl (v_func rfl rfl rfl)
  case k17 => exact Chk.val rfl rfl rfl (v_build rfl rfl (tBu rfl) rfl) rfl rfl
  refine WN.call rfl rfl rfl rfl rfl rfl rfl rfl rfl to_fn (fun v m' J' h => by obtain ⟨a, _, rfl, _⟩ := h; exact ⟨_, _, .head _⟩) ?_
  rintro v m' Ja18 hlea18 ⟨a18, rfl, rfl, rfl⟩
  refine WN.pub rfl (fun hpa18 hja18 => ?_)
  refine WN.chk ⟨?k0, ?k1, ?k2, ?k3, ?k4, ?k5, ?k6, ?k7, ?k8, ?k9, ?k10, ?k11, ?k12, ?k13, ?k14, ?k15, ?k16, ?k17, ?k18, trivial⟩ ?_
  case k0 => exact Chk.val rfl rfl rfl (v_build rfl rfl (tBu rfl) rfl) rfl rfl
  case k1 => exact Chk.val0 rfl rfl rfl (v_func rfl rfl rfl)
  case k2 => exact Chk.val rfl rfl rfl (v_build rfl rfl (tBu rfl) rfl) rfl rfl
  case k3 => exact Chk.val0 rfl rfl rfl (v_func rfl rfl rfl)
  case k4 => exact Chk.val rfl rfl rfl (v_build rfl rfl (tBu rfl) rfl) rfl rfl
  case k5 => exact Chk.val0 rfl rfl rfl (v_func rfl rfl rfl)
  case k6 => exact Chk.val rfl rfl rfl (v_build rfl rfl (tBu rfl) rfl) rfl rfl
  case k7 => exact Chk.val0 rfl rfl rfl (v_func rfl rfl rfl)
  case k8 => exact Chk.val rfl rfl rfl (v_build rfl rfl (tBu rfl) rfl) rfl rfl
  case k9 => exact Chk.val0 rfl rfl rfl (v_func rfl rfl rfl)
  case k10 => exact Chk.val rfl rfl rfl (v_build rfl rfl (tBu rfl) rfl) rfl rfl
  case k11 => exact Chk.val0 rfl rfl rfl (v_func rfl rfl rfl)
  case k12 => exact Chk.val rfl rfl rfl (v_build rfl rfl (tBu rfl) rfl) rfl rfl
  case k13 => exact Chk.val0 rfl rfl rfl (v_func rfl rfl rfl)
  case k14 => exact Chk.val rfl rfl rfl (v_build rfl rfl (tBu rfl) rfl) rfl rfl
  case k15 => exact Chk.val0 rfl rfl rfl (v_func rfl rfl rfl)
  case k16 => exact Chk.val rfl rfl rfl (v_build rfl rfl (tBu rfl) rfl) rfl rfl
  case k17 => exact Chk.val0 rfl rfl rfl (v_func rfl rfl rfl)
  case k18 => exact Chk.val rfl rfl rfl (v_build rfl rfl (tBu rfl) rfl) rfl rfl
  refine WN.call rfl rfl rfl rfl rfl rfl rfl rfl rfl counted_fn (fun v m' J' h => by obtain ⟨a, _, rfl, _⟩ := h; exact ⟨_, _, .head _⟩) ?_
  rintro v m' Ja19 hlea19 ⟨a19, rfl, rfl, rfl⟩
  refine WN.pub rfl (fun hpa19 hja19 => ?_)
  refine' WN.val0 rfl rfl rfl (v_func rfl rfl rfl) ?_
  refine WN.chk ⟨?k0, ?k1, ?k2, ?k3, ?k4, ?k5, ?k6, ?k7, ?k8, ?k9, ?k10, ?k11, ?k12, ?k13, ?k14, ?k15, ?k16, ?k17, ?k18, trivial⟩ ?_
  case k0 => exact Chk.val rfl rfl rfl (v_build rfl rfl (tBu rfl) rfl) rfl rfl
  case k1 => exact Chk.val0 rfl rfl rfl (v_func rfl rfl rfl)
  case k2 => exact Chk.val rfl rfl rfl (v_build rfl rfl (tBu rfl) rfl) rfl rfl
  case k3 => exact Chk.val0 rfl rfl rfl (v_func rfl rfl rfl)
  case k4 => exact Chk.val rfl rfl rfl (v_build rfl rfl (tBu rfl) rfl) rfl rfl
  case k5 => exact Chk.val0 rfl rfl rfl (v_func rfl rfl rfl)
  case k6 => exact Chk.val rfl rfl rfl (v_build rfl rfl (tBu rfl) rfl) rfl rfl
  case k7 => exact Chk.val0 rfl rfl rfl (v_func rfl rfl rfl)
  case k8 => exact Chk.val rfl rfl rfl (v_build rfl rfl (tBu rfl) rfl) rfl rfl
  case k9 => exact Chk.val0 rfl rfl rfl (v_func rfl rfl rfl)
  case k10 => exact Chk.val rfl rfl rfl (v_build rfl rfl (tBu rfl) rfl) rfl rfl
  case k11 => exact Chk.val0 rfl rfl rfl (v_func rfl rfl rfl)
  case k12 => exact Chk.val rfl rfl rfl (v_build rfl rfl (tBu rfl) rfl) rfl rfl
  case k13 => exact Chk.val0 rfl rfl rfl (v_func rfl rfl rfl)
  case k14 => exact Chk.val rfl rfl rfl (v_build rfl rfl (tBu rfl) rfl) rfl rfl
  case k15 => exact Chk.val0 rfl rfl rfl (v_func rfl rfl rfl)
  case k16 => exact Chk.val rfl rfl rfl (v_build rfl rfl (tBu rfl) rfl) rfl rfl
  case k17 => exact Chk.val0 rfl rfl rfl (v_func rfl rfl rfl)
  case k18 => exact Chk.val rfl rfl rfl (v_build rfl rfl (tBu rfl) rfl) rfl rfl
  refine WN.nil ?_
  refine ⟨_, _, [(3, keyV [0, 1], clV 48 a5), (6, keyV [1, 9], clV 48 a7), (8, keyV [2, 2], fnV 28), (10, keyV [3, 3], fnV 29), (12, keyV [4, 4], fnV 30), (15, keyV [4, 6], clV 49 a12), (18, keyV [5, 6], clV 49 a14), (20, keyV [4, 5], fnV 33), (22, keyV [5, 10], fnV 34), (26, keyV [4, 7], clV 49 a19)], rfl, rfl, by kernel_rfl, by kernel_rfl, rfl, fun b => ?_⟩
  refine WA.val rfl rfl rfl (v_move rfl rfl) ?_
  refine WA.val rfl rfl rfl (v_assign rfl rfl) ?_
  refine WA.nil ?_
  refine WC.gen (fun Jf => Cv a5 a7 a12 a14 a18 a19 Jf ∧ Ja5.le Jf) ⟨⟨hpa19 _ _ (hpa18 _ _ (hpa14 _ _ (hpa12 _ _ (hpa7 _ _ hja5)))), hpa19 _ _ (hpa18 _ _ (hpa14 _ _ (hpa12 _ _ hja7))), hpa19 _ _ (hpa18 _ _ (hpa14 _ _ hja12)), hpa19 _ _ (hpa18 _ _ hja14), hpa19 _ _ hja18, hja19⟩, hpa5.trans (hpa7.trans (hpa12.trans (hpa14.trans (hpa18.trans hpa19))))⟩ ?_
  rintro Jf ⟨hcv, hleF⟩
  refine rg ?_
  refine Sa V.asg ?_
  refine Wn ?_
  refine sq ?_
  refine WC.block ?_
  refine' WC.weak (l' := [(2, .int .i64 ((0) : Int)), (1, _)]) ⟨?w2, rfl, trivial⟩ (List.Sublist.refl _) ?_
  case w2 => first | rfl | exact congrArg some (congrArg (Value.int .i64) (by omega))
  refine sq ?_
  refine' WC.loopG (α := (Nat)) (fun (i : Nat) => [(2, .int .i64 (i : Int))]) (fun (i : Nat) => [(b, PB.map ((conv0 a5 a7 a12 a14 a19 ++ convX i).map entOf) (10 + 2 * i))]) (fun (i : Nat) => Jf) (fun (i : Nat) => i ≤ 6) (fun (i : Nat) => 6 - i) (0) ?hs ?hstep
  case hs => omega
  case hstep =>
   rintro i hinv
   try simp only at hinv
   refine rg ?_
   refine Sa V.mv ?_
   refine Sa V.vi ?_
   refine Wn ?_
   refine sq ?_
   first | refine WC.if rfl (fun c22 => ?_) (fun c22 => ?_) | refine WC.cond rfl (fun c22 => ?_) (fun c22 => ?_)
   ·
    have hlt : i < 6 := by omega
    refine sq ?_
    refine WC.skip ?_
    refine sq ?_
    refine WC.block ?_
    refine rg ?_
    refine Sa V.mv ?_
    refine Sa V.mv ?_
    refine Sa V.bd ?_
    refine' W.step rfl (.of (x_mapAddK [(i : Int), 8] (conv0 a5 a7 a12 a14 a19 ++ convX i) rfl rfl rfl rfl rfl rfl (mp47 Q g0) rfl rfl conv_len (by rw [List.map_cons, conv_keys]; exact nd8 i hlt) (keyPlace Q g0 _ _ _) (.head _ _ _ _) ?_))
    refine Wn ?_
    refine rg ?_
    refine Sa V.mv ?_
    refine Sa V.mv ?_
    refine Sa V.bd ?_
    refine' W.step rfl (.of (x_mapAddK [(i : Int), 11] ((conv0 a5 a7 a12 a14 a19 ++ convX i) ++ [([(i : Int), 8], fnV 35, 10 + 2 * i)]) rfl rfl rfl rfl rfl rfl (mp47 Q g0) rfl rfl conv_len8 (by rw [List.map_cons, List.map_append, conv_keys]; exact nd11 i hlt) (keyPlace Q g0 _ _ _) (.head _ _ _ _) ?_))
    refine Wn ?_
    refine rg ?_
    refine Sa V.mv ?_
    refine Sa V.va ?_
    refine Sa V.asg ?_
    refine Wn ?_
    refine' ⟨(i + 1), _, ?hinv, ?hmeas, rfl, ⟨?m2, rfl, trivial⟩, (by rw [conv_step]; exact List.Sublist.refl _), rfl⟩
    case m2 => first | rfl | exact congrArg some (congrArg (Value.int .i64) (by omega))
    case hmeas => first | omega | (simp only; omega)
    case hinv => omega
   ·
    obtain rfl : i = 6 := by omega
    refine sq ?_
    refine WC.exit ?_
    refine rg ?_
    refine Sa V.mv ?_
    refine Sa V.asg ?_
    refine Wn ?_
    refine sq ?_
    refine WC.ret ?_
    refine' ⟨.inr rfl, rfl, _, _, .tmp rfl .nil, List.Sublist.refl _, ⟨b, a5, a7, a12, a14, a18, a19, rfl, rfl, hcv, hleF⟩⟩
end
end Go.Opn
set_option maxRecDepth 100000
set_option linter.unusedVariables false
set_option linter.unusedSimpArgs false
namespace Go.Opn
open Go.Cre Go.RowKit Go.Proofs
/-- the conversation behind a valid line -/
def stepOK (t : Tk) (k : Int) (N : List Int) : Tk × Int :=
  if (0 ≤ t.ph ∧ t.ph < 6) ∧ (k = 8 ∨ k = 11) then (⟨6, t.pl, t.st, []⟩, 0)
  else if t.ph = 0 ∧ k = 1 then (⟨1, t.pl, t.st, t.off⟩, 0)
  else if t.ph = 1 ∧ k = 9 then (⟨2, t.pl, t.st, t.off⟩, 0)
  else if t.ph = 2 ∧ k = 2 then (⟨3, N[0]?.getD 0, t.st, t.off⟩, 0)
  else if t.ph = 3 ∧ k = 3 then (if N[0]?.getD 0 ≥ t.pl then (tk0, 2) else (⟨4, t.pl, N[0]?.getD 0, t.off⟩, 0))
  else if t.ph = 4 ∧ k = 4 then (if N[2]?.getD 0 ≥ t.pl then (tk0, 2) else (⟨t.ph, t.pl, t.st, t.off⟩, 0))
  else if (t.ph = 4 ∨ t.ph = 5) ∧ k = 6 then (if (N.length : Int) ≠ t.pl then (tk0, 2) else (⟨t.ph, t.pl, t.st, t.off⟩, 0))
  else if t.ph = 4 ∧ k = 5 then (⟨5, t.pl, t.st, N⟩, 0)
  else if t.ph = 5 ∧ k = 10 then (if N[0]?.getD 0 ∉ t.off then (tk0, 18) else (⟨4, t.pl, t.st, []⟩, 0))
  else if t.ph = 4 ∧ k = 7 then (if (N.length : Int) ≠ t.pl then (tk0, 2) else (⟨6, t.pl, t.st, t.off⟩, 0))
  else (tk0, 13)
noncomputable def stepS (t : Tk) (k : Int) (tx : List UInt8) (N : List Int) : Tk × Int := if chk k tx N ≠ 0 then (tk0, chk k tx N) else stepOK t k N
/-- at least so many numbers -/
theorem form_len {k : Int} {tx : List UInt8} {N : List Int} (h : ¬ FormBad k tx N) : (counts k).1 ≤ N.length := by
  rcases Nat.lt_or_ge 0 0 with q | q
  · cases q
  · have : ¬ (N.length : Int) < (counts k).1 := fun q => h (.inr (.inr (.inl q)))
    omega
theorem get0 {N : List Int} {i : Nat} (h : i < N.length) : N[i]? = some (N[i]?.getD 0) := by
  rw [List.getElem?_eq_getElem h]; rfl
theorem none_step {ph pl st k : Int} {O N : List Int} (hno : ∀ ks ∈ keys0 ++ keysX 6, ks ≠ [ph, k]) : stepOK ⟨ph, pl, st, O⟩ k N = (tk0, 13) := by
  unfold stepOK
  simp only
  have h1 : ¬ ((0 ≤ ph ∧ ph < 6) ∧ (k = 8 ∨ k = 11)) := by
    rintro ⟨⟨q1, q2⟩, q3⟩
    have : ph = 0 ∨ ph = 1 ∨ ph = 2 ∨ ph = 3 ∨ ph = 4 ∨ ph = 5 := by omega
    rcases this with rfl | rfl | rfl | rfl | rfl | rfl <;> rcases q3 with rfl | rfl <;> exact hno _ (by decide) rfl
  rw [if_neg h1, if_neg (by rintro ⟨rfl, rfl⟩; exact hno _ (by decide) rfl), if_neg (by rintro ⟨rfl, rfl⟩; exact hno _ (by decide) rfl), if_neg (by rintro ⟨rfl, rfl⟩; exact hno _ (by decide) rfl), if_neg (by rintro ⟨rfl, rfl⟩; exact hno _ (by decide) rfl), if_neg (by rintro ⟨rfl, rfl⟩; exact hno _ (by decide) rfl),
    if_neg (by rintro ⟨rfl | rfl, rfl⟩ <;> exact hno _ (by decide) rfl), if_neg (by rintro ⟨rfl, rfl⟩; exact hno _ (by decide) rfl), if_neg (by rintro ⟨rfl, rfl⟩; exact hno _ (by decide) rfl), if_neg (by rintro ⟨rfl, rfl⟩; exact hno _ (by decide) rfl)]
section
variable {Q : Worlds Tryz.prog} {g0 : Nat} {J : Jm}
variable {ph pl st k : Int} {tx : List UInt8} {O N : List Int} {bo bv : Option Addr} {no co nv cv : Nat}
/-- what the map holds for a place -/
theorem conv_get {a1 a2 c1 c2 a6 c3 : Nat} (hcv : Cv a1 a2 c1 c2 a6 c3 J) (hO : IntsR J (.slice bo no co) O) (hN : IntsR J (.slice bv nv cv) N) (hc : chk k tx N = 0) (hlO : O.length ≤ 1000000) (hlN : N.length ≤ 1000000) :
    (mapB (conv0 a1 a2 c1 c2 c3 ++ convX 6) [ph, k] = false ∧ stepOK ⟨ph, pl, st, O⟩ k N = (tk0, 13)) ∨
    (mapB (conv0 a1 a2 c1 c2 c3 ++ convX 6) [ph, k] = true ∧ ∃ f cap, mapX (conv0 a1 a2 c1 c2 c3 ++ convX 6) .nilFunc [ph, k] = .func (.func f) #[] cap ∧
      Fn (kx Q g0) f ([talkV ph pl st (.slice bo no co), lineV k tx (.slice bv nv cv)] ++ cap.toList) [] J (FolP (stepOK ⟨ph, pl, st, O⟩ k N) J)) := by
  obtain ⟨hk, hf, hr, ho⟩ := chk_ok hc
  have hlen := form_len hf
  unfold mapB mapX
  cases hfd : (conv0 a1 a2 c1 c2 c3 ++ convX 6).find? (fun x => decide (x.1 = [ph, k])) with
  | none =>
    left
    refine ⟨rfl, ?_⟩
    rw [List.find?_eq_none] at hfd
    refine none_step fun ks hks => ?_
    rw [← conv_keys (a1 := a1) (a2 := a2) (c1 := c1) (c2 := c2) (c3 := c3)] at hks
    obtain ⟨x, hx, rfl⟩ := List.mem_map.1 hks
    simpa using hfd x hx
  | some x =>
    right
    refine ⟨rfl, ?_⟩
    have hx1 : x.1 = [ph, k] := by simpa using List.find?_some hfd
    have hx2 := List.mem_of_find?_eq_some hfd
    simp [conv0, convX] at hx2
    rcases hx2 with rfl | rfl | rfl | rfl | rfl | rfl | rfl | rfl | rfl | rfl | rfl | rfl | rfl | rfl | rfl | rfl | rfl | rfl | rfl | rfl | rfl | rfl
    · simp at hx1; obtain ⟨rfl, rfl⟩ := hx1
      exact ⟨_, _, rfl, to1_fn hO hN hcv.h1⟩
    · simp at hx1; obtain ⟨rfl, rfl⟩ := hx1
      exact ⟨_, _, rfl, to1_fn hO hN hcv.h2⟩
    · simp at hx1; obtain ⟨rfl, rfl⟩ := hx1
      exact ⟨_, _, rfl, game_fn hO hN (get0 (i := 0) (by have : (counts 2).1 = 1 := rfl; omega))⟩
    · simp at hx1; obtain ⟨rfl, rfl⟩ := hx1
      exact ⟨_, _, rfl, seat_fn hO hN (get0 (i := 0) (by have : (counts 3).1 = 1 := rfl; omega))⟩
    · simp at hx1; obtain ⟨rfl, rfl⟩ := hx1
      exact ⟨_, _, rfl, sight_fn hO hN (get0 (i := 2) (by have : (counts 4).1 = 4 := rfl; omega))⟩
    · simp at hx1; obtain ⟨rfl, rfl⟩ := hx1
      exact ⟨_, _, rfl, countedS_fn hO hN hcv.h3⟩
    · simp at hx1; obtain ⟨rfl, rfl⟩ := hx1
      exact ⟨_, _, rfl, countedS_fn hO hN hcv.h4⟩
    · simp at hx1; obtain ⟨rfl, rfl⟩ := hx1
      exact ⟨_, _, rfl, move_fn hO hN hlN⟩
    · simp at hx1; obtain ⟨rfl, rfl⟩ := hx1
      exact ⟨_, _, rfl, choose_fn hO hN (get0 (i := 0) (by have : (counts 10).1 = 1 := rfl; omega)) hlO⟩
    · simp at hx1; obtain ⟨rfl, rfl⟩ := hx1
      exact ⟨_, _, rfl, countedT_fn hO hN hcv.h6 hcv.h5⟩
    · simp at hx1; obtain ⟨rfl, rfl⟩ := hx1
      exact ⟨_, _, rfl, over_fn hO hN⟩
    · simp at hx1; obtain ⟨rfl, rfl⟩ := hx1
      exact ⟨_, _, rfl, over_fn hO hN⟩
    · simp at hx1; obtain ⟨rfl, rfl⟩ := hx1
      exact ⟨_, _, rfl, over_fn hO hN⟩
    · simp at hx1; obtain ⟨rfl, rfl⟩ := hx1
      exact ⟨_, _, rfl, over_fn hO hN⟩
    · simp at hx1; obtain ⟨rfl, rfl⟩ := hx1
      exact ⟨_, _, rfl, over_fn hO hN⟩
    · simp at hx1; obtain ⟨rfl, rfl⟩ := hx1
      exact ⟨_, _, rfl, over_fn hO hN⟩
    · simp at hx1; obtain ⟨rfl, rfl⟩ := hx1
      exact ⟨_, _, rfl, over_fn hO hN⟩
    · simp at hx1; obtain ⟨rfl, rfl⟩ := hx1
      exact ⟨_, _, rfl, over_fn hO hN⟩
    · simp at hx1; obtain ⟨rfl, rfl⟩ := hx1
      exact ⟨_, _, rfl, over_fn hO hN⟩
    · simp at hx1; obtain ⟨rfl, rfl⟩ := hx1
      exact ⟨_, _, rfl, over_fn hO hN⟩
    · simp at hx1; obtain ⟨rfl, rfl⟩ := hx1
      exact ⟨_, _, rfl, over_fn hO hN⟩
    · simp at hx1; obtain ⟨rfl, rfl⟩ := hx1
      exact ⟨_, _, rfl, over_fn hO hN⟩
end
end Go.Opn
