/- A part of the proof of ResumeSaves. -/
import Derived.Test.YtmeojgcibppcmaaDoorOpnI
set_option linter.unusedVariables false
set_option linter.unusedSimpArgs false
namespace Go.Opn
open Go.Cre Go.RowKit
open Classical
section
variable {K : Kx} {B : Bs} {o : Oper} {n : Nat} {ds : Dx} {l : List (Nat × Value)} {m m' : Mm} {J : Jm} {Ψ : En → Mm → Jm → Prop} {d : Nat} {Θ : Exit → En → Mm → Jm → Prop}
def Yd (K : Kx) (lp : Nat) (args : List Value) (mi : Mm) (J : Jm) (Post : Value → Mm → Jm → Prop) : Prop :=
 ∀ H, Inv K.g0 (mkB mi H J) J mi H → ∃ v H' J' m' pc pk, (EΩ K.Q pc pk).yld lp args H = some (.returned v, H') ∧ Inv K.g0 (mkB mi H J) J' m' H' ∧ Post v m' J'
theorem Exec.yield {c : Call} {x : Operand} {lp : Nat} {args : List Value} {mi mr : Mm} {Post : Value → Mm → Jm → Prop}
  (ho : o.op = .call c) (hd : o.dst = some d) (hn : Nat.blt d n = true) (hc : c.callee = .value x) (hx : eo l x = some (.func (.yield lp) #[] #[])) (ha : eos l c.args.toList = some args)
  (hp : (mi ++ mr).Perm m) (hno : noOpn mi) (hF : Yd K lp args mi J Post) (h : ∀ v m' J', J.le J' → Post v m' J' → Ψ ⟨n, ds, (d, v) :: l⟩ (m' ++ mr) J') : Exec K B o ⟨n, ds, l⟩ m J Ψ := by
 intro S H hS hI; obtain ⟨v, H', J', m', pc, pk, k1, k2, k3⟩ := hF H (hI.enter hp hno); obtain ⟨k4, k5⟩ := hI.leave hp k2; obtain ⟨S1, s1, s2⟩ := hS.put (dst := some d) hn v; refine ⟨pc, pk, S1, H', _, m' ++ mr, J', ?_, s2, k4, h v m' J' k5 k3⟩; have he : evOp K.P (callΩ K.Q pk) (EΩ K.Q pc pk).yld S H o = some (.val v H') := by
  unfold evOp evOpX; simp only [ho]; show opCall K.P _ c = _; unfold opCall; rw [hc]; show evCallee K.P _ _ S.T H c = _; unfold evCallee; rw [eos_opds hS H ha]; simp only [hc]; rw [eo_opd hS H hx]; simp only
  show (bif (#[] : Array Value).isEmpty && (#[] : Array Value).isEmpty then yldRes ((EΩ K.Q pc pk).yld lp args H) else none) = _; rw [k1]; rfl
 rw [he, hd]; show regOk H' (S.put (some d) v) = _; rw [s1]; rfl
def dxl (lp : Nat) : Dx := ⟨[], some lp, false, .run⟩
noncomputable def zipL : List Tmp → List Value → List (Nat × Value) → List (Nat × Value)
 | t :: ts, v :: vs, l => zipL ts vs ((t, v) :: l)
 | _, _, l => l
theorem putAll_sat {dx : Dx} : ∀ {ts : List Tmp} {vs : List Value} {l : List (Nat × Value)} {T : Tr Value}, allBelow n ts = true → ts.length = vs.length → Sat ⟨n, dx, l⟩ ⟨T, n, dx.ds, dx.dfd, dx.um, dx.rnd⟩ → ∃ T', putAll T ts vs = some T' ∧ Sat ⟨n, dx, zipL ts vs l⟩ ⟨T', n, dx.ds, dx.dfd, dx.um, dx.rnd⟩ := by
 intro ts; induction ts with
 | nil => intro vs l T _ h hS; cases vs with
  | nil => exact ⟨T, rfl, hS⟩
  | cons => cases h
 | cons t ts ih =>
  intro vs l T hb h hS; cases vs with
  | nil => cases h
  | cons v vs =>
   simp only [allBelow, Bool.and_eq_true] at hb; obtain ⟨S1, s1, s2⟩ := hS.put (dst := some t) hb.1 v; have hT : ∃ T1, Tr.put v T t = some T1 ∧ S1 = ⟨T1, n, dx.ds, dx.dfd, dx.um, dx.rnd⟩ := by
    have s1 : Bool.rec (motive := fun _ => Option St) none (St.put3 n dx.ds dx.dfd dx.um dx.rnd (Tr.put v T t)) (Nat.ble (Nat.succ t) n) = some S1 := s1; have hb1 : Nat.ble (Nat.succ t) n = true := by simpa [Nat.blt] using hb.1
    rw [hb1] at s1; cases hp : Tr.put v T t with
    | none => rw [hp] at s1; cases s1
    | some T1 => rw [hp] at s1; injection s1 with s1; exact ⟨T1, rfl, s1.symm⟩
   obtain ⟨T1, t1, rfl⟩ := hT; obtain ⟨T', e1, e2⟩ := ih (l := (t, v) :: l) hb.2 (by simpa using h) s2; refine ⟨T', ?_, e2⟩; simp only [putAll, Tr.set]; rw [t1]; exact e1
theorem Yd.of {lp : Nat} {r : ALoop} {L : List (Nat × Value)} {args : List Value} {mi : Mm} {Post : Value → Mm → Jm → Prop} (hr : r.state = .ready) (hlp : (lp, .loop r) ∈ mi) (hT : Sat ⟨r.n, dxl lp, L⟩ ⟨r.T, r.n, [], false, .run, some lp⟩) (hpar : allBelow r.n r.params = true) (hlen : r.params.length = args.length)
  (h : ∀ H, WC K (mkB mi H J) r.assign ⟨r.n, dxl lp, zipL r.params args L⟩ mi J fun e E m J1 => e = .normal ∧ ∃ m1, Put m lp (.loop r) (.loop { r with state := .busy }) m1 ∧
   WC K (mkB mi H J) r.body E m1 J1 fun e E m J2 => ∃ j r2 m2 m3, jumpOf e = some j ∧ Put m lp (.loop r2) (.loop { r2 with state := if j.isNone then .ready else .done, pending := j }) m2 ∧ m3.Sublist m2 ∧ Post (.bool j.isNone) m3 J2) : Yd K lp args mi J Post := by
 intro H hI; obtain ⟨T', p1, p2⟩ := putAll_sat (dx := dxl lp) hpar hlen hT; obtain ⟨e, S1, H1, E1, m1, J1, c1, c2, c3, rfl, m2, c5, c6⟩ := h H _ H p2 hI; have c1 : CodeR K.Q r.assign ⟨T', r.n, [], false, .run, some lp⟩ H .normal S1 H1 := c1; have g1 : H1.mem.get lp = some (.loop r) := (c3.own _ _ c5.mem).1; obtain ⟨H2, u1⟩ := c3.wf.upd (.loop { r with state := .busy }) (c3.lt c5.mem); have hI2 := c3.upd c5 u1 (by show H2.mem.get lp = _; rw [(Hp.upd_eq u1).2.2.2.2, if_pos rfl]); obtain ⟨e2, S3, H3, E3, m3, J3, d1, d2, d3, j, r2, m4, m5, d4, d5, d6, d7⟩ := c6 S1 H2 c2 hI2; have g3 : H3.mem.get lp = some (.loop r2) := (d3.own _ _ d5.mem).1; obtain ⟨H4, u2⟩ := d3.wf.upd (.loop { r2 with state := if j.isNone then .ready else .done, pending := j }) (d3.lt d5.mem); have hI4 := d3.upd d5 u2 (by show H4.mem.get lp = _; rw [(Hp.upd_eq u2).2.2.2.2, if_pos rfl]); have hg : H.mem.get lp = some (.loop r) := (hI.own _ _ hlp).1; have hglo : Nat.ble H.glo lp = true := Nat.ble_eq_true_of_le (by have := (hI.own _ _ hlp).2.2.2; have := hI.glo; omega); refine ⟨.bool j.isNone, H4, J3, m5, pick2 r.assign ⟨T', r.n, [], false, .run, some lp⟩ H (.normal, S1, H1) r.body S1 H2 (e2, S3, H3), noCall, ?_, hI4.sub d6, d7⟩
 show (match H.mem.get lp with
  | some (.loop r) => bif Nat.ble H.glo lp && allBelow r.n r.params then yldPut _ lp r H (putAll r.T r.params args) else none
  | _ => none) = _
 rw [hg]; simp only
 rw [hglo, hpar, Bool.and_self, cond_true, p1]; show yldAssign _ lp r.body (codeΩ K.Q _ r.assign ⟨T', r.n, [], false, .run, some lp⟩ H) = _; rw [codeΩ_at c1 (by unfold pick2; rw [if_pos ⟨rfl, rfl, rfl⟩])]; show yldBegin _ lp r.body S1 H1 = _; unfold yldBegin; rw [g1]; simp only [hr]; rw [u1]; show yldBody lp (codeΩ K.Q _ r.body S1 H2) = _; rw [codeΩ_at d1 (by
  unfold pick2; split
  ·
   rename_i q; obtain ⟨q1, q2, q3⟩ := q; subst q3; rw [(Hp.upd_eq u1).2.2.2.2, if_pos rfl] at hg; injection hg with hg; injection hg with hg
   have := congrArg ALoop.state hg; rw [hr] at this; cases this
  ·
   rw [if_pos ⟨rfl, rfl, rfl⟩])]
 show (match jumpOf e2 with | some j => yldEnd H3 lp j | none => none) = _
 rw [d4]; show yldEnd H3 lp j = _; unfold yldEnd; rw [g3]; simp only [u2]; rfl
def pendPost (Θ : Exit → En → Mm → Jm → Prop) (E : En) (m : Mm) (J : Jm) : Option Code → Prop
 | none => Θ .normal E m J
 | some .ret => Θ .ret E m J
 | some (.exit id) => Θ (.exit id) E m J
 | some _ => False
def Dx.plus (dx : Dx) (r : Nat) : Dx := ⟨{ target := .collected r, args := #[] } :: dx.ds, dx.rnd, dx.dfd, dx.um⟩
theorem WC.range {f : Operand} {params : Array Tmp} {assign body : Code} {g : FuncId} {first cap : Array Value} (hrnd : ds.rnd = none) (hf : eo l f = some (.func (.func g) first cap))
  (h : ∀ dr lp (T : Tr Value), Sat ⟨n, dxl lp, l⟩ ⟨T, n, [], false, .run, some lp⟩ → ∃ mi mr Post, (mi ++ mr).Perm ((lp, .loop ⟨.ready, none, T, n, params.toList, assign, body, dr⟩) :: (dr, .dfr) :: m) ∧ noOpn mi ∧
   Fn K g ((first.toList ++ [.func (.yield lp) #[] #[]]) ++ cap.toList) mi J Post ∧ ∀ v m' J', J.le J' → Post v m' J' → ∃ r' m'', Put (m' ++ mr) lp (.loop r') (.loop { r' with state := .exhausted }) m'' ∧ r'.state ≠ .busy ∧ pendPost Θ ⟨n, ds.plus dr, l⟩ m'' J' r'.pending) :
  WC K B (.rangeFunc f params assign body) ⟨n, ds, l⟩ m J Θ := by
 intro S H hS hI; obtain ⟨H1, e1⟩ := hI.wf.new (.dfr (some [])); have hI1 := hI.new (p := .dfr) e1 (by show H1.mem.get H.nx = _; rw [(Hp.new_eq e1).2.2.2.2.2, if_pos rfl]); obtain ⟨H2, e2⟩ := hI1.wf.new (.loop ⟨.ready, none, S.T, S.n, params.toList, assign, body, H.nx⟩); have hn : S.n = n := hS.n; have hI2 := hI1.new (p := .loop ⟨.ready, none, S.T, n, params.toList, assign, body, H.nx⟩) e2 (by show H2.mem.get H1.nx = _; rw [(Hp.new_eq e2).2.2.2.2.2, if_pos rfl, hn]); have hsat : Sat ⟨n, dxl H1.nx, l⟩ ⟨S.T, n, [], false, .run, some H1.nx⟩ := ⟨rfl, rfl, rfl, rfl, rfl, hS.has, hS.get⟩; obtain ⟨mi, mr, Post, p1, p2, p3, p4⟩ := h H.nx H1.nx S.T hsat; obtain ⟨v, H3, J3, m3, q1, q2, q3⟩ := p3 H2 (hI2.enter p1 p2); obtain ⟨q4, q5⟩ := hI2.leave p1 q2; obtain ⟨r', m4, s1, s2, s3⟩ := p4 v m3 J3 q5 q3; have g3 : H3.mem.get H1.nx = some (.loop r') := (q4.own _ _ s1.mem).1; obtain ⟨H4, u2⟩ := q4.wf.upd (.loop { r' with state := .exhausted }) (q4.lt s1.mem); have hI4 := q4.upd s1 u2 (by show H4.mem.get H1.nx = _; rw [(Hp.upd_eq u2).2.2.2.2, if_pos rfl]); have hS' : Sat ⟨n, ds.plus H.nx, l⟩ { S with ds := { target := .collected H.nx, args := #[] } :: S.ds } := ⟨hS.n, by show _ :: _ = _ :: _; rw [hS.ds], hS.dfd, hS.um, hS.rnd, hS.has, hS.get⟩; have key : ∀ res, rangeEnd3 { S with ds := { target := .collected H.nx, args := #[] } :: S.ds } r'.pending H4 = some res → CodeR K.Q (.rangeFunc f params assign body) S H res.1 res.2.1 res.2.2 := fun res hres => by
  refine CodeR.of_ev K.hP.mix noCode (callAt g ((first.toList ++ [.func (.yield H1.nx) #[] #[]]) ++ cap.toList) H2 (.returned v, H3)) ?_; show evRange K.P _ f params assign body S H = _; unfold evRange rangeStart; rw [show S.rnd = none from hS.rnd.trans hrnd] at hres ⊢; simp only [e1, e2]; rw [eo_opd hS H2 hf]; unfold rangeCall; simp only [evFn]; show rangeEnd _ H1.nx ((EΩ K.Q _ _).body g _ false .run H2) = _; have hb : (EΩ K.Q noCode (callAt g ((first.toList ++ [.func (.yield H1.nx) #[] #[]]) ++ cap.toList) H2 (.returned v, H3))).body g ((first.toList ++ [.func (.yield H1.nx) #[] #[]]) ++ cap.toList) false .run H2 = some (.returned v, .run, H3) := by
   unfold EΩ; simp only [Bool.false_eq_true, if_false]; rw [callΩ_at q1 (by unfold callAt; rw [if_pos ⟨rfl, rfl, rfl⟩])]
  rw [hb]; show rangeEnd2 _ H1.nx H3 = _; unfold rangeEnd2; rw [g3]; simp only
  cases hst : r'.state with
  | busy => exact absurd hst s2
  | ready => simp only [u2]; exact hres
  | done => simp only [u2]; exact hres
  | exhausted => simp only [u2]; exact hres
 cases hpd : r'.pending with
 | none => rw [hpd] at s3 key; exact ⟨_, _, _, _, _, _, key _ rfl, hS', hI4, s3⟩
 | some c =>
  rw [hpd] at s3 key; cases c with
  | ret => exact ⟨_, _, _, _, _, _, key _ rfl, hS', hI4, s3⟩
  | exit id => exact ⟨_, _, _, _, _, _, key _ rfl, hS', hI4, s3⟩
  | _ => exact absurd s3 id
theorem Inv.drop {g0 a : Nat} {b : PB} {c : Blk} {H H1 : Hp} (h : Inv g0 B J m H) (hp : ((a, b) :: m').Perm m) (e1 : H.upd a c = some H1) : Inv g0 B J m' H1 := by
  have h := h.perm hp.symm; obtain ⟨k1, k2, k3, k4⟩ := h.own a b (.head _); have hlt := h.lt (.head _); have hnd := h.nd; rw [show ids ((a, b) :: m') = a :: (b.rest ++ ids m') from rfl, List.nodup_cons, List.mem_append] at hnd; obtain ⟨n1, n2, n3, n4, n5⟩ := Hp.upd_eq e1; refine ⟨h.wf.upd_wf hlt e1, n4.trans h.glo, by rw [n1]; exact h.nx, by rw [n3]; exact h.nf, fun x hx hX => ?_, fun f hf => by rw [n2]; exact h.keepF f hf, fun x c e hj => ?_, h.le, h.fresh, fun x b hb => ?_, fun x b hb y hy => by rw [n1]; exact h.opn x b (.tail _ hb) y hy, (List.sublist_append_right _ _).nodup hnd.2⟩
  · rw [n5, if_neg (fun q => by subst q; rcases k2 with q | q; · omega
                                · exact hX q)]
    exact h.keep x hx hX
  · obtain ⟨o, f, z, s, q⟩ := h.pub x c e hj
    exact ⟨o, f, z, s, by rw [n5, if_neg (fun r => by subst r; rw [k3] at hj; cases hj)]; exact q⟩
  · obtain ⟨l1, l2, l3, l4⟩ := h.own x b (.tail _ hb)
    exact ⟨PB.at_mono l1 (by rw [n5, if_neg (fun q => hnd.1 (by subst q; exact .inr (ids_fst hb)))]) (fun f l hf => by rw [n2]; exact hf), l2, l3, l4⟩
inductive Lv : List Deferred → Mm → Mm → Prop
 | nil (m : Mm) : Lv [] m m
 | col {r : Nat} {dl : List Deferred} {m m1 m2 : Mm} : ((r, .dfr) :: m1).Perm m → Lv dl m1 m2 → Lv ({ target := .collected r, args := #[] } :: dl) m m2
theorem Lv.run {E' : Evs} {fn : Func} {T : Tr Value} {dl : List Deferred} {m2 : Mm} (h : Lv dl m m2) : ∀ {H : Hp}, Inv K.g0 B J m H → ∃ H', Inv K.g0 B J m2 H' ∧ ∀ r, evLeave K.P E' fn T [] .returning H' = r → evLeave K.P E' fn T dl .returning H = r := by
 induction h with
 | nil m => intro H hI; exact ⟨H, hI, fun r q => q⟩
 | @col r dl m m1 m2 hp _ ih =>
  intro H hI; have hin : (r, PB.dfr) ∈ m := hp.subset (.head _); obtain ⟨k1, k2, k3, k4⟩ := hI.own _ _ hin; have k1 : H.mem.get r = some (.dfr (some [])) := k1; obtain ⟨H1, e1⟩ := hI.wf.upd (.dfr none) (hI.lt hin); obtain ⟨H', q1, q2⟩ := ih (hI.drop hp e1); refine ⟨H', q1, fun r' hr => ?_⟩; have := q2 r' hr; show evLeave K.P E' fn T ({ target := .collected r, args := #[] } :: dl) .returning H = r'; unfold evLeave; simp only [isRun, cond_false, k1]; rw [show Nat.ble H.glo r = true from Nat.ble_eq_true_of_le (by have := hI.glo; omega), cond_true, e1]; exact this
end
theorem part_int {P : Program} {t : TypeId} {cs : Array Value} {off : Nat} {v : Value} {k : IntKind} (hu : P.underlying t = some (.int k)) (h : cs[off]? = some v) : evPure P (part t cs off) = some v := by
 unfold part; rw [evPure_bind (a := false)]
 ·
  show evPure P (match cs[off]? with | some v => pure v | none => stuck "part: no such cell") = _
  rw [h]; rfl
 ·
  unfold isAgg; rw [evPure_bind (evPure_under hu)]; rfl
theorem eq_int {P : Program} {t : TypeId} {k : IntKind} {n : Nat} {a b : Int} (hu : P.underlying t = some (.int k)) : evPure P (Op.equalIn (n + 1) t (.int .i64 a) (.int .i64 b)) = some (decide (a = b)) := by
 unfold Op.equalIn; rw [evPure_bind (evPure_under hu)]; show evPure P (if IntKind.i64 = IntKind.i64 then pure (a == b) else _) = _; rw [if_pos rfl]; show some (a == b) = _; rw [show (a == b) = decide (a = b) from rfl]
theorem loop_ints {P : Program} {n : Nat} {xs ys : Array Value} : ∀ (fs : List Field) (as bs : List Int) (k : Nat), fs.length = as.length → as.length = bs.length → (∀ i f, fs[i]? = some f → f.name ≠ "_" ∧ P.underlying f.type = some (.int .i64) ∧ f.offset = k + i) → (∀ i a, as[i]? = some a → xs[k + i]? = some (.int .i64 a)) → (∀ i a, bs[i]? = some a → ys[k + i]? = some (.int .i64 a)) →
    evPure P (forIn fs ((none, ()) : Option Bool × Unit) fun f __s =>
                if f.name ≠ "_" then do
                  let __do_lift ← part f.type xs f.offset
                  let __do_lift_1 ← part f.type ys f.offset
                  let __do_lift ← Op.equalIn (n + 1) f.type __do_lift __do_lift_1
                  if (!__do_lift) = true then pure (ForInStep.done (some false, ()))
                    else pure (ForInStep.yield (none, ()))
                else pure (ForInStep.yield (none, ()))) = some (if as = bs then none else some false, ()) := by
  intro fs; induction fs with
  | nil =>
    intro as bs k h1 h2 _ _ _; obtain rfl : as = [] := List.eq_nil_of_length_eq_zero (by simpa using h1.symm); obtain rfl : bs = [] := List.eq_nil_of_length_eq_zero (by simpa using h2.symm); rfl
  | cons f fs ih =>
    intro as bs k h1 h2 hf hx hy; cases as with
    | nil => cases h1
    | cons a as =>
      cases bs with
      | nil => cases h2
      | cons b bs =>
        obtain ⟨f1, f2, f3⟩ := hf 0 f rfl; rw [List.forIn_cons]
        have hstep : evPure P (if f.name ≠ "_" then do
                  let __do_lift ← part f.type xs f.offset
                  let __do_lift_1 ← part f.type ys f.offset
                  let __do_lift ← Op.equalIn (n + 1) f.type __do_lift __do_lift_1
                  if (!__do_lift) = true then pure (ForInStep.done ((some false, ()) : Option Bool × Unit))
                    else pure (ForInStep.yield (none, ()))
                else pure (ForInStep.yield (none, ()))) = some (if a = b then ForInStep.yield (none, ()) else ForInStep.done (some false, ())) := by
          rw [if_pos f1, evPure_bind (part_int f2 (by rw [f3]; exact hx 0 a rfl)), evPure_bind (part_int f2 (by rw [f3]; exact hy 0 b rfl)), evPure_bind (eq_int f2)]; by_cases hab : a = b
          · simp [hab]; rfl
          · simp [hab]; rfl
        rw [evPure_bind hstep]; by_cases hab : a = b
        · rw [if_pos hab]
          simp only
          rw [ih as bs (k + 1) (by simpa using h1) (by simpa using h2) (fun i g hg => by obtain ⟨g1, g2, g3⟩ := hf (i + 1) g hg; exact ⟨g1, g2, by omega⟩) (fun i c hc => by have := hx (i + 1) c hc; rwa [show k + (i + 1) = k + 1 + i by omega] at this) (fun i c hc => by have := hy (i + 1) c hc; rwa [show k + (i + 1) = k + 1 + i by omega] at this)]; simp [hab]
        · rw [if_neg hab]
          simp only
          rw [if_neg (by intro q; injection q with q1 q2; exact hab q1)]; rfl
noncomputable def allInts (P : Program) : List Field → Nat → Bool
 | [], _ => true
 | f :: fs, k => !(f.name == "_") && (match P.underlying f.type with | some (.int .i64) => true | _ => false) && Nat.beq f.offset k && allInts P fs (k + 1)
noncomputable def intsT (P : Program) (t : TypeId) : Option Nat := match P.underlying t with
 | some (.struct fields) => bif allInts P fields.toList 0 && !P.stoodInHeld t && !P.eqGuardType P.depth t then some fields.toList.length else none
 | _ => none
theorem allInts_at {P : Program} : ∀ {fs : List Field} {k : Nat}, allInts P fs k = true → ∀ i f, fs[i]? = some f → f.name ≠ "_" ∧ P.underlying f.type = some (.int .i64) ∧ f.offset = k + i := by
 intro fs; induction fs with
 | nil => intro k _ i f h; simp at h
 | cons g fs ih =>
  intro k h i f hf; simp only [allInts, Bool.and_eq_true] at h; obtain ⟨⟨⟨h1, h2⟩, h3⟩, h4⟩ := h; cases i with
  | zero =>
   simp at hf; subst hf; refine ⟨by simpa using h1, ?_, by have := Nat.eq_of_beq_eq_true h3; omega⟩; split at h2
   ·
    assumption
   ·
    cases h2
  | succ i =>
   obtain ⟨q1, q2, q3⟩ := ih h4 i f (by simpa using hf); exact ⟨q1, q2, by omega⟩
theorem eq_ints {P : Program} {t : TypeId} {k n : Nat} {as bs : List Int} (ht : intsT P t = some k) (ha : as.length = k) (hb : bs.length = k) : evPure P (Op.equalIn (n + 1 + 1) t (.agg (as.map (Value.int .i64)).toArray) (.agg (bs.map (Value.int .i64)).toArray)) = some (decide (as = bs)) ∧ P.eqGuardType P.depth t = false ∧ ∃ fs, P.underlying t = some (.struct fs) := by
 unfold intsT at ht; split at ht
 ·
  rename_i fields hu; cases hc : (allInts P fields.toList 0 && !P.stoodInHeld t && !P.eqGuardType P.depth t) with
  | false => rw [hc] at ht; cases ht
  | true =>
   rw [hc, cond_true] at ht; injection ht with ht
   simp only [Bool.and_eq_true, Bool.not_eq_true'] at hc; obtain ⟨⟨c1, c2⟩, c3⟩ := hc; refine ⟨?_, c3, fields, hu⟩; unfold Op.equalIn; rw [evPure_bind (evPure_under hu)]; simp only
   simp only [← Array.forIn_toList]; rw [evPure_bind (a := P) rfl]; rw [if_neg (by simp [c2])]; have hl := loop_ints (P := P) (n := n) (xs := (as.map (Value.int .i64)).toArray) (ys := (bs.map (Value.int .i64)).toArray) fields.toList as bs 0 (by omega) (by omega) (fun i f hf => by have := allInts_at c1 i f hf; exact this) (fun i a q => by simp [q]) (fun i a q => by simp [q]); rw [evPure_bind hl]; by_cases hab : as = bs
   ·
    simp [hab]; rfl
   ·
    simp [hab]; rfl
 ·
  cases ht
section
variable {K : Kx} {B : Bs} {o : Oper} {n : Nat} {ds : Dx} {l : List (Nat × Value)} {m m' : Mm} {J : Jm} {Ψ : En → Mm → Jm → Prop} {d : Nat}
theorem v_ints {op : BinOp} {t ty : TypeId} {x y : Operand} {k : Nat} {la bs : List Int} {xs ys : Array Value} {b : Bool} (ho : o.op = .binOp op t x y ty) (hop : op = .eql ∧ b = decide (la = bs) ∨ op = .neq ∧ b = decide (¬ la = bs)) (hx : eo l x = some (.agg xs)) (hy : eo l y = some (.agg ys)) (ht : intsT K.P t = some k) (hxs : xs = (la.map (Value.int .i64)).toArray) (hys : ys = (bs.map (Value.int .i64)).toArray) (ha : la.length = k) (hb : bs.length = k) : Val K B o n ds l m J (.bool b) := by
 subst hxs; subst hys; obtain ⟨h1, h2, fs, h3⟩ := eq_ints (n := 9998) ht ha hb; intro call yld S H hS hI; have hpl : ∀ zs : List Int, plain (.agg (zs.map (Value.int .i64)).toArray) = true := fun zs => by
  show (zs.map (Value.int .i64)).all (plainN 7) = true; rw [List.all_map, List.all_eq_true]; intro i _; rfl
 unfold evOp evOpX; simp only [ho]; show opBin2 K.P _ op t (opd S.T H x) (opd S.T H y) = _; rw [eo_opd hS H hx, eo_opd hS H hy]; show orElse (evPlain K.P S.T H o) _ = _; have : evPlain K.P S.T H o = some (.val (.bool b) H) := by
  refine plain2 hS (by rw [ho]; rfl) hx hy (hpl _) (hpl _) ?_ rfl; unfold execOp; simp only [ho]; rw [eo_or hS H hx, eo_or hS H hy]; rw [evPure_bind (a := .bool b)]
  ·
   rfl
  rcases hop with ⟨rfl, rfl⟩ | ⟨rfl, rfl⟩
  ·
   rw [evPure_bind (a := ())]
   ·
    have hb : binOp .eql t (.agg (la.map (Value.int .i64)).toArray) (.agg (bs.map (Value.int .i64)).toArray) = (do pure (.bool (← Op.equal t (.agg (la.map (Value.int .i64)).toArray) (.agg (bs.map (Value.int .i64)).toArray)))) := by simp [binOp]
    rw [hb, evPure_bind (s := Op.equal t _ _) h1]; rfl
   ·
    unfold eqGuard; simp only [Bool.not_true, Bool.false_eq_true, if_false]; rw [evPure_bind (a := K.P) rfl, evPure_bind (a := K.P) rfl, h2]; rfl
  ·
   rw [evPure_bind (a := ())]
   ·
    have hb : binOp .neq t (.agg (la.map (Value.int .i64)).toArray) (.agg (bs.map (Value.int .i64)).toArray) = (do pure (.bool (!(← Op.equal t (.agg (la.map (Value.int .i64)).toArray) (.agg (bs.map (Value.int .i64)).toArray))))) := by simp [binOp]
    rw [hb, evPure_bind (s := Op.equal t _ _) h1]; show some (Value.bool (!decide (la = bs))) = _; rw [show (!decide (la = bs)) = decide (¬ la = bs) by simp]
   ·
    unfold eqGuard; simp only [Bool.not_true, Bool.false_eq_true, if_false]; rw [evPure_bind (a := K.P) rfl, evPure_bind (a := K.P) rfl, h2]; rfl
 rw [this]; rfl
def keyV (ks : List Int) : Value := .agg (ks.map (Value.int .i64)).toArray
theorem Acc.pub {c : Code} {e : TypeId} {sz k : Nat} {v : Value} {cells : List Value} {mo m0 : Mm} {E : En} {Θ : Exit → En → Mm → Jm → Prop} (h : Acc e sz v k cells mo) (hm : m = mo ++ m0) (hk : ∀ J', J.le J' → SlC J' e sz v k cells → WC K B c E m0 J' Θ) : WC K B c E m J Θ := by
 subst hm; cases h with
 | nil => exact hk J (Jm.le.refl _) .nil
 | emp a => exact hk J (Jm.le.refl _) (.emp _ _ _ (by decide))
 | @opn a k cells rest z hl hz =>
  intro S H hS hI; obtain ⟨k1, k2⟩ := hI.publish (m := m0) (x := (cells, e)) rfl; exact hk _ k2 (.row (Jm.add_at _ _ _) (by rw [List.drop_zero, List.take_of_length_le (by omega)]) hl (fun q => absurd rfl q) (fun _ => rfl)) S H hS k1
 | @cap a k C cells full el h1 h2 h3 h4 =>
  intro S H hS hI; obtain ⟨k1, k2⟩ := hI.publish (m := m0) (x := (full, el)) rfl; exact hk _ k2 (.row (Jm.add_at _ _ _) h2 (by rw [← h2, List.length_take, h1, Nat.min_eq_left (Nat.mul_le_mul_right _ h3)]) (fun _ => ⟨h3, h4⟩) (fun q => absurd q (Nat.ne_of_lt h4))) S H hS k1
end
end Go.Opn
