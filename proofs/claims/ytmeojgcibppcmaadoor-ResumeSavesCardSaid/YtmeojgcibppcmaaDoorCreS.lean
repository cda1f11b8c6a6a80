/- A part of the proof of ResumeSaves. -/
import Derived.Test.YtmeojgcibppcmaaDoorCreR
import Derived.Laws.Build
set_option linter.unusedVariables false
set_option linter.unusedSimpArgs false
namespace Go.Cre
open Go.RowKit
section
variable {P : Program} {B : Nat → Prop} {w0 w : World} {μ : Mp} {H H' : Hp} {n : Nat} {tmps : Array Value}
variable {call : CallEv} {yld : YieldEv} {o : Oper} {S : St}
theorem atom_ok (h : HRel P B w0 μ H w) {s : Sem Next} {v v' : Value} {r : OpRes} (hr : some (OpRes.val v H) = some r) (hrun : s.run P w = .ok (.value v') w) (hv : VRel μ v v') : OpOk P B w0 call yld μ H w s r := by
 injection hr with hr; subst hr
 exact .inl ⟨v', w, μ, hrun, h, Step.refl _ _, hv⟩
theorem eqNil_ops {t : TypeId} {a a' b b' : Value} {r : Bool} {x y : Operand} (ha : VRel μ a a') (hb : VRel μ b b') (he : evEqNil P t a b = some r) (w : World) :
  (∀ op, (eqGuard op t x y a' b').run P w = .ok () w) ∧ (binOp .eql t a' b').run P w = .ok (.bool r) w ∧ (binOp .neq t a' b').run P w = .ok (.bool (!r)) w := by
 have heq : (Op.equal t a' b').run P w = .ok r w := evEqNil_sound ha hb he 9999 w; unfold evEqNil at he; cases hu : P.underlying t with
 | none => rw [hu] at he; simp at he
 | some d =>
  rw [hu] at he
  have fin : (∀ op, (eqGuard op t x y a' b').run P w = .ok () w) → (binOp .eql t a' b' = (do pure (.bool (← Op.equal t a' b')))) → (binOp .neq t a' b' = (do pure (.bool (!(← Op.equal t a' b'))))) →
    (∀ op, (eqGuard op t x y a' b').run P w = .ok () w) ∧ (binOp .eql t a' b').run P w = .ok (.bool r) w ∧ (binOp .neq t a' b').run P w = .ok (.bool (!r)) w := fun g e1 e2 => by
   rw [e1, e2]; exact ⟨g, by simp [heq], by simp [heq]⟩
  cases a with
  | pointer p =>
   have hf : ∃ p', a' = .pointer p' := by
    cases p with
    | none => exact ⟨_, ha.pnil⟩
    | some p => obtain ⟨_, _, _, _, _, q⟩ := ha.ptr_inv; exact ⟨_, q⟩
   obtain ⟨p', rfl⟩ := hf; cases b with
   | pointer q =>
    have hf : ∃ q', b' = .pointer q' := by
     cases q with
     | none => exact ⟨_, hb.pnil⟩
     | some q => obtain ⟨_, _, _, _, _, q⟩ := hb.ptr_inv; exact ⟨_, q⟩
    obtain ⟨q', rfl⟩ := hf; exact fin (fun op => by cases op <;> simp [eqGuard]) rfl rfl
   | _ => cases d <;> cases p <;> cases he
  | slice p l c =>
   have hf : ∃ p' l' c', a' = .slice p' l' c' := by
    cases p with
    | none => exact ⟨_, _, _, ha.slice_nil⟩
    | some p => obtain ⟨_, _, q⟩ := ha.slice_some; exact ⟨_, _, _, q⟩
   obtain ⟨p', l', c', rfl⟩ := hf; cases b with
   | slice q l2 c2 =>
    have hf : ∃ p' l' c', b' = .slice p' l' c' := by
     cases q with
     | none => exact ⟨_, _, _, hb.slice_nil⟩
     | some p => obtain ⟨_, _, q⟩ := hb.slice_some; exact ⟨_, _, _, q⟩
    obtain ⟨p'', l'', c'', rfl⟩ := hf; exact fin (fun op => by cases op <;> simp [eqGuard]) rfl rfl
   | _ => cases d <;> cases p <;> cases he
  | map p =>
   have hf : ∃ p', a' = .map p' := by
    cases p with
    | none => exact ⟨_, ha.mnil⟩
    | some p => obtain ⟨_, _, q⟩ := ha.map_inv; exact ⟨_, q⟩
   obtain ⟨p', rfl⟩ := hf; cases b with
   | map q =>
    have hf : ∃ p', b' = .map p' := by
     cases q with
     | none => exact ⟨_, hb.mnil⟩
     | some p => obtain ⟨_, _, q⟩ := hb.map_inv; exact ⟨_, q⟩
    obtain ⟨q', rfl⟩ := hf; exact fin (fun op => by cases op <;> simp [eqGuard]) rfl rfl
   | _ => cases d <;> cases p <;> cases he
  | nilFunc =>
   obtain rfl := ha.nilFunc_inv; cases b with
   | func fn u v =>
    have hf : ∃ f u v, b' = .func f u v := by
     rcases hb.func_inv with ⟨_, _, q, _⟩ | ⟨_, _, _, _, _, _, q⟩
     ·
      exact ⟨_, _, _, q⟩
     ·
      exact ⟨_, _, _, q⟩
    obtain ⟨_, _, _, rfl⟩ := hf; exact fin (fun op => by cases op <;> simp [eqGuard]) rfl rfl
   | _ => cases d <;> cases he
  | func fn u v =>
   have hf : ∃ f u v, a' = .func f u v := by
    rcases ha.func_inv with ⟨_, _, q, _⟩ | ⟨_, _, _, _, _, _, q⟩
    ·
     exact ⟨_, _, _, q⟩
    ·
     exact ⟨_, _, _, q⟩
   obtain ⟨_, _, _, rfl⟩ := hf; cases b with
   | nilFunc =>
    obtain rfl := hb.nilFunc_inv; exact fin (fun op => by cases op <;> simp [eqGuard]) rfl rfl
   | _ => cases d <;> cases he
  | nilIface =>
   obtain rfl := ha.nilIface_inv; cases b with
   | iface tt v =>
    obtain ⟨_, rfl, _⟩ := hb.iface_inv; exact fin (fun op => by cases op <;> simp [eqGuard]) rfl rfl
   | _ => cases d <;> cases he
  | iface tt v =>
   obtain ⟨_, rfl, _⟩ := ha.iface_inv; cases b with
   | nilIface =>
    obtain rfl := hb.nilIface_inv; exact fin (fun op => by cases op <;> simp [eqGuard]) rfl rfl
   | _ => cases d <;> cases he
  | _ => cases d <;> cases he
theorem evOp_sound (h : HRel P B w0 μ H w) (ht : TRel μ S.T n tmps) {r : OpRes} (he : evOp P call yld S H o = some r) : OpOk P B w0 call yld μ H w (execOp (rho tmps) o) r := by
 have hop : ∀ x v, opd S.T H x = some v → VRel μ v (rho tmps x) := fun x v q => opd_sound h ht q; unfold evOp evOpX at he; simp only at he; cases ho : o.op with
 | move x =>
  rw [ho] at he; have he : vRes (opd S.T H x) H = some r := he; have := opOk_val (call := call) (yld := yld) (s := pure (rho tmps x)) h (fun v q => ⟨_, rfl, hop x v q⟩) he; simpa [execOp, ho] using this
 | assign x =>
  rw [ho] at he; have he : vRes (opd S.T H x) H = some r := he; have := opOk_val (call := call) (yld := yld) (s := pure (rho tmps x)) h (fun v q => ⟨_, rfl, hop x v q⟩) he; simpa [execOp, ho] using this
 | load t a =>
  rw [ho] at he; have he : opLoad2 P ⟨call, yld, S, H, o⟩ t (opd S.T H a) = some r := he; cases ha : opd S.T H a with
  | none => rw [ha] at he; cases he
  | some p =>
   rw [ha] at he; have := opOk_val (call := call) (yld := yld) h (fun v q => evLoad_sound h (hop a p ha) q) he; simpa [execOp, ho] using this
 | pick c a b =>
  rw [ho] at he; have he : opPick2 P ⟨call, yld, S, H, o⟩ a b (opd S.T H c) = some r := he; cases hc : opd S.T H c with
  | none => rw [hc] at he; cases he
  | some cv =>
   rw [hc] at he; have hcr := hop c cv hc; cases cv with
   | bool bb =>
    have hcv := hcr.bool_inv; cases bb with
    | true =>
     have he : vRes (opd S.T H a) H = some r := he; have := opOk_val (call := call) (yld := yld) (s := pure (rho tmps a)) h (fun v q => ⟨_, rfl, hop a v q⟩) he; simpa [execOp, ho, hcv, asBool] using this
    | false =>
     have he : vRes (opd S.T H b) H = some r := he; have := opOk_val (call := call) (yld := yld) (s := pure (rho tmps b)) h (fun v q => ⟨_, rfl, hop b v q⟩) he; simpa [execOp, ho, hcv, asBool] using this
   | _ => cases he
 | alloc elem =>
  rw [ho] at he; have he : opAlloc2 P ⟨call, yld, S, H, o⟩ elem (zeroT P elem) = some r := he; cases hz : zeroT P elem with
  | none => rw [hz] at he; cases he
  | some z =>
   rw [hz] at he; have he : (bif plain z then vhRes (evBox H elem z) else none) = some r := he; cases hp : plain z with
   | false => rw [hp] at he; cases he
   | true =>
    rw [hp, cond_true] at he; have := opOk_vh (call := call) (yld := yld) (s := Instr.alloc elem true (.tuple #[])) (fun v H' q => by
     obtain ⟨a1, a2, a3, a4, a5, a6, a7⟩ := evBox_sound h (plain_rel hp) q; refine ⟨a1, a2, a3, ?_, a5, a6, a7⟩; simpa [Instr.alloc, Instr.box, zeroT_run hz] using a4) he
    simpa [execOp, ho] using this
 | box elem x =>
  rw [ho] at he; have he : opBox2 P ⟨call, yld, S, H, o⟩ elem (opd S.T H x) = some r := he; cases hx : opd S.T H x with
  | none => rw [hx] at he; cases he
  | some v =>
   rw [hx] at he; have := opOk_vh (call := call) (yld := yld) (fun v H' q => evBox_sound h (hop x _ hx) q) he; simpa [execOp, ho] using this
 | build t parts =>
  rw [ho] at he; have he : opBuild2 P ⟨call, yld, S, H, o⟩ t (pairs S.T H parts.toList) = some r := he; cases hp : pairs S.T H parts.toList with
  | none => rw [hp] at he; cases he
  | some ps =>
   rw [hp] at he; have hpr := pairs_sound h ht hp; have := opOk_val (call := call) (yld := yld) h (fun v q => evBuild_sound hpr q w) he; have e1 : (parts.toList.map fun (i, x) => (i, rho tmps x)).toArray = parts.map fun (i, x) => (i, rho tmps x) := by apply Array.ext'; simp
   rw [e1] at this; simpa [execOp, ho] using this
 | buildSlice t len parts =>
  rw [ho] at he; have he : opBuildSlice2 P ⟨call, yld, S, H, o⟩ t len (pairs S.T H parts.toList) = some r := he; cases hp : pairs S.T H parts.toList with
  | none => rw [hp] at he; cases he
  | some ps =>
   rw [hp] at he; have hpr := pairs_sound h ht hp; have := opOk_vh (call := call) (yld := yld) (fun v H' q => evBuildSlice_sound h hpr q) he; have e1 : (parts.toList.map fun (i, x) => (i, rho tmps x)).toArray = parts.map fun (i, x) => (i, rho tmps x) := by apply Array.ext'; simp
   rw [e1] at this; simpa [execOp, ho] using this
 | store t a x =>
  rw [ho] at he; have he : opStore2 P ⟨call, yld, S, H, o⟩ t (opd S.T H a) (opd S.T H x) = some r := he; cases ha : opd S.T H a with
  | none => rw [ha] at he; cases he
  | some p =>
   cases hx : opd S.T H x with
   | none => rw [ha, hx] at he; cases he
   | some v =>
    rw [ha, hx] at he; have := opOk_h (call := call) (yld := yld) (fun H' q => evStore_sound h (hop a p ha) (hop x v hx) q) he; simpa [execOp, ho] using this
 | nilCheck x =>
  rw [ho] at he; have he : opNilCheck2 P ⟨call, yld, S, H, o⟩ (opd S.T H x) = some r := he; cases hx : opd S.T H x with
  | none => rw [hx] at he; cases he
  | some v =>
   rw [hx] at he; have hr := hop x v hx; cases v with
   | pointer a =>
    cases a with
    | none => cases he
    | some a =>
     obtain ⟨id, off, L, rfl, hL, hv⟩ := hr.ptr_inv; exact atom_ok h he (v' := rho tmps x) (by simp [execOp, ho, hv]) hr
   | func fn a b =>
    cases fn with
    | func f =>
     rcases hr.func_inv with ⟨a', b', hv, _⟩ | ⟨l, L, q, _⟩
     ·
      exact atom_ok h he (v' := rho tmps x) (by simp [execOp, ho, hv]) hr
     ·
      cases q
    | _ => cases he
   | iface t v =>
    obtain ⟨x', hv, _⟩ := hr.iface_inv; exact atom_ok h he (v' := rho tmps x) (by simp [execOp, ho, hv]) hr
   | _ => cases he
 | unOp op t x =>
  rw [ho] at he; exact evPlain_sound h ht (fun cs b q => by rw [ho] at q; cases q) he
 | makeInterface t x =>
  rw [ho] at he; have he : opMakeInterface2 P ⟨call, yld, S, H, o⟩ t (opd S.T H x) (P.underlying t) = some r := he; cases hx : opd S.T H x with
  | none => rw [hx] at he; cases P.underlying t <;> cases he
  | some v =>
   cases hu : P.underlying t with
   | none => rw [hx, hu] at he; cases he
   | some d =>
    rw [hx, hu] at he; have hconc : P.concrete t = true ∧ some (OpRes.val (.iface t v) H) = some r := by
     cases d <;> first | (cases he; done) | exact ⟨by simp [Program.concrete, hu], he⟩
    exact atom_ok h hconc.2 (by simp [execOp, ho, run_makeInterface w t _ hconc.1]) (.iface t v _ (hop x v hx))
 | makeFunc fn first captured =>
  rw [ho] at he; have he : opMakeFunc2 P ⟨call, yld, S, H, o⟩ fn (opds S.T H first.toList) (opds S.T H captured.toList) = some r := he; cases h1 : opds S.T H first.toList with
  | none => rw [h1] at he; cases he
  | some a =>
   cases h2 : opds S.T H captured.toList with
   | none => rw [h1, h2] at he; cases he
   | some b =>
    rw [h1, h2] at he; have l1 := opds_sound h ht h1; have l2 := opds_sound h ht h2; have hny : notYield fn = true ∧ some (OpRes.val (.func fn a.toArray b.toArray) H) = some r := by
     cases fn <;> first | (cases he; done) | exact ⟨rfl, he⟩
    refine atom_ok h hny.2 (v' := .func fn (first.map (rho tmps)) (captured.map (rho tmps))) (by simp [execOp, ho, Instr.makeFunc]) ?_; exact .func _ _ _ _ _ hny.1 (by simpa using l1.1) (by simpa using l2.1) (fun i v v' q q' => l1.2 i v v' (by simpa using q) (by simpa using q')) (fun i v v' q q' => l2.2 i v v' (by simpa using q) (by simpa using q'))
 | makeMap t rs =>
  rw [ho] at he; cases rs with
  | some x => cases he
  | none =>
   have he : (match H.new (.map [] 0) with | some (id, H) => some (OpRes.val (.map (some id)) H) | none => none) = some r := he
   cases hn : H.new (.map [] 0) with
   | none => rw [hn] at he; cases he
   | some p =>
    obtain ⟨id, H1⟩ := p; rw [hn] at he; simp only [Option.some.injEq] at he; subst he; obtain ⟨a1, a2, rfl⟩ := h.made (o := .map #[] 0) (L := ⟨w.heap.size, 0, 0⟩) hn rfl rfl (ERel.nil _); exact .inl ⟨.map (some w.heap.size), _, _, by simp [execOp, ho, Instr.makeMap, newObj, Sem.run], a1, a2, .map _ ⟨w.heap.size, 0, 0⟩ (Mp.put_self _ _ _)⟩
 | makeSlice t l c =>
  rw [ho] at he; have he : opMakeSlice2 P ⟨call, yld, S, H, o⟩ t (opd S.T H l) (opd S.T H c) = some r := he; cases h1 : opd S.T H l with
  | none => rw [h1] at he; cases he
  | some lv =>
   cases h2 : opd S.T H c with
   | none => rw [h1, h2] at he; cases he
   | some cv =>
    rw [h1, h2] at he; have := opOk_vh (call := call) (yld := yld) (fun v H' q => evMakeSlice_sound h (hop l lv h1) (hop c cv h2) q) he; simpa [execOp, ho] using this
 | slice t x lo hi mx =>
  rw [ho] at he; cases mx with
  | some m => cases he
  | none =>
   have he : opSlice2 P ⟨call, yld, S, H, o⟩ t (opd S.T H x) (optOpd S.T H lo) (optOpd S.T H hi) = some r := he; cases h1 : opd S.T H x with
   | none => rw [h1] at he; cases he
   | some xv =>
    cases h2 : optOpd S.T H lo with
    | none => rw [h1, h2] at he; cases he
    | some lov =>
     cases h3 : optOpd S.T H hi with
     | none => rw [h1, h2, h3] at he; cases he
     | some hiv =>
      rw [h1, h2, h3] at he; have he : orElse (vRes (evSlice P H t xv lov hiv) H) (evPlain P S.T H o) = some r := he; cases hv : vRes (evSlice P H t xv lov hiv) H with
      | none => rw [hv] at he; exact evPlain_sound h ht (fun cs b q => by rw [ho] at q; cases q) he
      | some r' =>
       rw [hv] at he; have he : some r' = some r := he; injection he with he; subst he
       have := opOk_val (call := call) (yld := yld) h (fun v q => evSlice_sound h (hop x xv h1) (optOpd_sound h ht h2) (optOpd_sound h ht h3) q) hv; simpa [execOp, ho] using this
 | fieldAddr s x f =>
  rw [ho] at he; have he : opFieldAddr2 P ⟨call, yld, S, H, o⟩ s f (opd S.T H x) = some r := he; cases hx : opd S.T H x with
  | none => rw [hx] at he; cases he
  | some p =>
   rw [hx] at he; have := opOk_val (call := call) (yld := yld) h (fun v q => evFieldAddr_sound (hop x p hx) q w) he; simpa [execOp, ho] using this
 | indexAddr t x ix =>
  rw [ho] at he; have he : opIndexAddr2 P ⟨call, yld, S, H, o⟩ t (opd S.T H x) (opd S.T H ix) = some r := he; cases h1 : opd S.T H x with
  | none => rw [h1] at he; cases he
  | some xv =>
   cases h2 : opd S.T H ix with
   | none => rw [h1, h2] at he; cases he
   | some iv =>
    rw [h1, h2] at he; have := opOk_val (call := call) (yld := yld) h (fun v q => evIndexAddr_sound (hop x xv h1) (hop ix iv h2) q w) he; simpa [execOp, ho] using this
 | lookup t x k ok =>
  rw [ho] at he; have he : opLookup2 P ⟨call, yld, S, H, o⟩ t ok (opd S.T H x) (opd S.T H k) = some r := he; cases h1 : opd S.T H x with
  | none => rw [h1] at he; cases he
  | some xv =>
   cases h2 : opd S.T H k with
   | none => rw [h1, h2] at he; cases he
   | some kv =>
    rw [h1, h2] at he; have := opOk_val (call := call) (yld := yld) h (fun v q => evLookup_sound h (hop x xv h1) (hop k kv h2) q) he; simpa [execOp, ho] using this
 | mapUpdate t m k x =>
  rw [ho] at he; have he : opMapUpdate2 P ⟨call, yld, S, H, o⟩ t (opd S.T H m) (opd S.T H k) (opd S.T H x) = some r := he; cases h1 : opd S.T H m with
  | none => rw [h1] at he; cases he
  | some mv =>
   cases h2 : opd S.T H k with
   | none => rw [h1, h2] at he; cases he
   | some kv =>
    cases h3 : opd S.T H x with
    | none => rw [h1, h2, h3] at he; cases he
    | some xv =>
     rw [h1, h2, h3] at he; have := opOk_h (call := call) (yld := yld) (fun H' q => evMapUpdate_sound h (hop m mv h1) (hop k kv h2) (hop x xv h3) q) he; simpa [execOp, ho] using this
 | insert t m k x =>
  rw [ho] at he; have he : opMapUpdate2 P ⟨call, yld, S, H, o⟩ t (opd S.T H m) (opd S.T H k) (opd S.T H x) = some r := he; cases h1 : opd S.T H m with
  | none => rw [h1] at he; cases he
  | some mv =>
   cases h2 : opd S.T H k with
   | none => rw [h1, h2] at he; cases he
   | some kv =>
    cases h3 : opd S.T H x with
    | none => rw [h1, h2, h3] at he; cases he
    | some xv =>
     rw [h1, h2, h3] at he; have := opOk_h (call := call) (yld := yld) (fun H' q => evMapUpdate_sound h (hop m mv h1) (hop k kv h2) (hop x xv h3) q) he; simpa [execOp, ho] using this
 | typeAssert x xt asserted ok =>
  rw [ho] at he; have he : opTypeAssert2 P ⟨call, yld, S, H, o⟩ asserted ok (opd S.T H x) = some r := he; cases hx : opd S.T H x with
  | none => rw [hx] at he; cases he
  | some v =>
   rw [hx] at he; have := opOk_val (call := call) (yld := yld) h (fun u q => evTypeAssert_sound (xt := xt) (hop x v hx) q w) he; simpa [execOp, ho] using this
 | extract t ix =>
  rw [ho] at he; have he : opExtract2 P ⟨call, yld, S, H, o⟩ ix (opd S.T H t) = some r := he; cases hx : opd S.T H t with
  | none => rw [hx] at he; cases he
  | some v =>
   rw [hx] at he; cases v with
   | tuple vs =>
    obtain ⟨a', hv, hl⟩ := (hop t _ hx).tuple_inv; have he : vRes (nth vs.toList ix) H = some r := he; have := opOk_val (call := call) (yld := yld) (s := Instr.extract (rho tmps t) ix) h (fun v q => by
     rw [nth_eq] at q; obtain ⟨v', q1, q2⟩ := hl.get q; refine ⟨v', ?_, q2⟩; have q1 : a'[ix]? = some v' := by simpa using q1
     simp [Instr.extract, hv, q1]) he
    simpa [execOp, ho] using this
   | _ => cases he
 | panic x =>
  rw [ho] at he; have he : opPanic2 P ⟨call, yld, S, H, o⟩ (opd S.T H x) = some r := he; cases hx : opd S.T H x with
  | none => rw [hx] at he; cases he
  | some v =>
   rw [hx] at he; cases v with
   | iface t v =>
    obtain ⟨x', hv, hr⟩ := (hop x _ hx).iface_inv; have he : some (OpRes.pan [{ v := .iface t v, recovered := false }] H) = some r := he; injection he with he; subst he
    refine .inl ⟨.iface t v, .iface t x', rfl, rfl, ?_, .iface t v x' hr⟩; simp [execOp, ho, hv, Instr.panic, goPanic, Sem.run]
   | _ => cases he
 | call c =>
  rw [ho] at he; have he : opCall P ⟨call, yld, S, H, o⟩ c = some r := he; unfold opCall at he; cases hcal : c.callee with
  | builtin b =>
   rw [hcal] at he; exact evBuiltin_sound h ht ho hcal he
  | value f =>
   rw [hcal] at he; exact evCallee_sound h ht ho (fun b q => by rw [hcal] at q; cases q) he
  | invoke rc nm =>
   rw [hcal] at he; exact evCallee_sound h ht ho (fun b q => by rw [hcal] at q; cases q) he
 | defer c =>
  rw [ho] at he; have he : opDefer P ⟨call, yld, S, H, o⟩ c = some r := he; unfold opDefer at he; cases hr : S.rnd with
  | some l => simp only [hr] at he; cases he
  | none => simp only [hr] at he; exact evDefer_sound h ht ho he
 | field t x f =>
  rw [ho] at he; have he : opField2 P ⟨call, yld, S, H, o⟩ f (opd S.T H x) (P.underlying t) = some r := he; cases hx : opd S.T H x with
  | none => rw [hx] at he; cases he
  | some v =>
   rw [hx] at he; cases v with
   | agg cs =>
    obtain ⟨a', hv, hl⟩ := (hop x _ hx).agg_inv; cases hu : P.underlying t with
    | none => rw [hu] at he; cases he
    | some d =>
     rw [hu] at he; cases d with
     | struct fields =>
      have he : (match fields[f]? with | some f => vRes (evPart P f.type cs.toList f.offset) H | none => none) = some r := he
      cases hf : fields[f]? with
      | none => rw [hf] at he; cases he
      | some fd =>
       rw [hf] at he; have := opOk_val (call := call) (yld := yld) (s := Instr.field t (rho tmps x) f) h (fun v q => by
        obtain ⟨v', q1, q2⟩ := evPart_sound hl q w; refine ⟨v', ?_, q2⟩; have q1 : (part fd.type a' fd.offset).run P w = .ok v' w := by simpa using q1
        simp [Instr.field, und_run hu, hf, hv, asAgg, q1]) he
       simpa [execOp, ho] using this
     | _ => cases he
   | _ => cases he
 | index t x ix =>
  rw [ho] at he; have he : opIndex2 P ⟨call, yld, S, H, o⟩ (opd S.T H x) (opd S.T H ix) (P.underlying t) = some r := he; cases hx : opd S.T H x with
  | none => rw [hx] at he; cases he
  | some v =>
   cases hi : opd S.T H ix with
   | none => rw [hx, hi] at he; cases v <;> cases he
   | some iv =>
    rw [hx, hi] at he; have hxr := hop x v hx; have hir := hop ix iv hi; cases v with
    | agg cs =>
     obtain ⟨a', hv, hl⟩ := hxr.agg_inv; cases iv with
     | int k i =>
      have hiv := hir.int_inv; cases hu : P.underlying t with
      | none => rw [hu] at he; cases he
      | some d =>
       rw [hu] at he; cases d with
       | array len elem =>
        have he2 : (match intIn i len, sizeT P elem with | some n, some sz => vRes (evPart P elem cs.toList (n * sz)) H | _, _ => none) = some r := he
        cases hn : intIn i len with
        | none => rw [hn] at he2; cases he2
        | some m =>
         rw [hn] at he2; cases hs : sizeT P elem with
         | none => rw [hs] at he2; cases he2
         | some sz =>
          rw [hs] at he2; obtain ⟨rfl, hlt⟩ := intIn_spec hn; have := opOk_val (call := call) (yld := yld) (s := Instr.index t (rho tmps x) (rho tmps ix)) h (fun v q => by
           obtain ⟨v', q1, q2⟩ := evPart_sound hl q w; refine ⟨v', ?_, q2⟩; have q1 : (part elem a' (m * sz)).run P w = .ok v' w := by simpa using q1
           simp [Instr.index, hiv, asIntOf, und_run hu, hv, hlt, sizeT_run hs, q1]) he2
          simpa [execOp, ho] using this
       | _ => cases he
     | _ => cases he
    | string s =>
     have hv := hxr.string_inv; cases iv with
     | int k i =>
      have hiv := hir.int_inv; cases hu : P.underlying t with
      | none => rw [hu] at he; cases he
      | some d =>
       rw [hu] at he; cases d with
       | string =>
        cases i with
        | negSucc m => cases he
        | ofNat m =>
         have he : (match nth s.data.toList m with | some b => forceInt (.ofNat b.toNat) (retInt H .u8) | none => none) = some r := he
         cases hb : nth s.data.toList m with
         | none => rw [hb] at he; cases he
         | some b =>
          rw [hb] at he; have he : forceInt (.ofNat b.toNat) (retInt H .u8) = some r := he; rw [forceInt_eq] at he; have hsm : s[m]? = some b := by
           rw [nth_eq] at hb; have hlt : m < s.size := by have := (List.getElem?_eq_some_iff.1 hb).1; simpa using this
           rw [getElem?_pos s m hlt]; have h2 : s.data[m]? = some b := by simpa using hb
           rw [Array.getElem?_eq_getElem hlt] at h2; injection h2 with h2; rw [← h2]; rfl
          refine atom_ok h he (v' := .int .u8 b.toNat) ?_ (.atom _ rfl); simp [execOp, ho, Instr.index, hiv, asIntOf, und_run hu, hv, hsm]
       | _ => cases he
     | _ => cases he
    | _ => cases he
 | convert src dst x =>
  rw [ho] at he; have hpl : evPlain P S.T H o = some r → OpOk P B w0 call yld μ H w (execOp (rho tmps) o) r := evPlain_sound h ht (fun cs b q => by rw [ho] at q; cases q); have he : opConvert2 P ⟨call, yld, S, H, o⟩ src dst (opd S.T H x) = some r := he; cases hx : opd S.T H x with
  | none => rw [hx] at he; cases he
  | some v =>
   rw [hx] at he; have hxr := hop x v hx; cases v with
   | string s =>
    have he : orElse (vhRes (evStrBytes P H src dst s)) (evPlain P S.T H o) = some r := he; cases hv : evStrBytes P H src dst s with
    | none => rw [hv] at he; exact hpl he
    | some p =>
     have he : vhRes (evStrBytes P H src dst s) = some r := by rw [hv] at he ⊢; obtain ⟨a, b⟩ := p; exact he
     have := opOk_vh (call := call) (yld := yld) (fun v H' q => evStrBytes_sound h q) he; simpa [execOp, ho, hxr.string_inv] using this
   | pointer a =>
    cases a with
    | none => exact hpl he
    | some a =>
     have := opOk_val (call := call) (yld := yld) h (fun v q => evConvPtr_sound h hxr q) he; simpa [execOp, ho] using this
   | slice a l c =>
    have := opOk_val (call := call) (yld := yld) h (fun v q => evToString_sound h hxr (evToStringD_spec q)) he; simpa [execOp, ho] using this
   | int k i =>
    have he : (match P.underlying src, P.underlying dst with | some _, some (.int k) => forceInt (wrapF k i) (retInt H k) | _, _ => evPlain P S.T H o) = some r := he
    cases hs : P.underlying src with
    | none => rw [hs] at he; exact hpl he
    | some ds =>
    cases hd : P.underlying dst with
    | none => rw [hs, hd] at he; exact hpl he
    | some d =>
     rw [hs, hd] at he; cases d with
     | int k' =>
      have he : forceInt (wrapF k' i) (retInt H k') = some r := he; rw [forceInt_eq, wrapF_eq] at he; refine atom_ok h he (v' := .int k' (k'.wrap i)) ?_ (.atom _ rfl); simp [execOp, ho, hxr.int_inv, convert, und_run hs, und_run hd, Conv.intToInt]
     | _ => exact hpl he
   | _ => exact hpl he
 | binOp op t x y yt =>
  rw [ho] at he; have hpl : evPlain P S.T H o = some r → OpOk P B w0 call yld μ H w (execOp (rho tmps) o) r := evPlain_sound h ht (fun cs b q => by rw [ho] at q; cases q); have he : opBin2 P ⟨call, yld, S, H, o⟩ op t (opd S.T H x) (opd S.T H y) = some r := he; cases hx : opd S.T H x with
  | none => rw [hx] at he; cases he
  | some a =>
   cases hy : opd S.T H y with
   | none => rw [hx, hy] at he; cases a <;> cases he
   | some b =>
    rw [hx, hy] at he; have hxr := hop x a hx; have hyr := hop y b hy; have slow : opBinSlow P ⟨call, yld, S, H, o⟩ op t a b = some r → OpOk P B w0 call yld μ H w (execOp (rho tmps) o) r := by
     intro he; have he : orElse (evPlain P S.T H o) (opBinEq P ⟨call, yld, S, H, o⟩ t a b op) = some r := he; cases hp : evPlain P S.T H o with
     | some r' =>
      rw [hp] at he; have he : some r' = some r := he; injection he with he; subst he
      exact hpl hp
     | none =>
      rw [hp] at he; have he : opBinEq P ⟨call, yld, S, H, o⟩ t a b op = some r := he; cases hq : evEqNil P t a b with
      | none =>
       unfold opBinEq at he; simp only [hq] at he; cases op <;> cases he
      | some rb =>
       obtain ⟨e1, e2, e3⟩ := eqNil_ops (x := x) (y := y) hxr hyr hq w; unfold opBinEq at he; simp only [hq] at he; cases op with
       | eql => exact atom_ok h he (v' := .bool rb) (by simp [execOp, ho, e1 .eql, e2]) (.atom _ rfl)
       | neq => exact atom_ok h he (v' := .bool (!rb)) (by simp [execOp, ho, e1 .neq, e3]) (.atom _ rfl)
       | _ => cases he
    cases a with
    | int k i =>
     cases b with
     | int l j =>
      have he2 : (bif kindEq k l then intBin H k i j (evPlain P S.T H o) op else opBinSlow P ⟨call, yld, S, H, o⟩ op t (.int k i) (.int l j)) = some r := he; cases hk : kindEq k l with
      | false => rw [hk, cond_false] at he2; exact slow he2
      | true =>
       rw [hk, cond_true] at he2; have := kindEq_eq hk; subst this; exact intBin_sound h hxr.int_inv hyr.int_inv ⟨yt, ho⟩ hpl he2
     | _ => exact slow he
    | _ => exact slow (by cases b <;> exact he)
 | ready g => rw [ho] at he; cases he
 | waits g => rw [ho] at he; cases he
 | sliceToArrayPointer d x => rw [ho] at he; cases he
 | makeChan t s => rw [ho] at he; cases he
 | mapEntry t m k => rw [ho] at he; cases he
 | entryStore t m s x => rw [ho] at he; cases he
 | range t x => rw [ho] at he; cases he
 | next it b => rw [ho] at he; cases he
 | entry it => rw [ho] at he; cases he
 | go c => rw [ho] at he; cases he
 | send a b => rw [ho] at he; cases he
 | recv a b c => rw [ho] at he; cases he
 | select a b => rw [ho] at he; cases he
end
end Go.Cre
