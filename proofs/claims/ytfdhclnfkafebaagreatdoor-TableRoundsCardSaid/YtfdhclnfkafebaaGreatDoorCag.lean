/- A part of the proof of TableRounds. -/
import Derived.Test.YtfdhclnfkafebaaGreatDoorCaf
import Derived.Laws.Build
import Derived.Defers
import Derived.Recover
set_option linter.unusedVariables false
set_option linter.unusedSimpArgs false
namespace Go.Cre
noncomputable section
open Go.RowKit
section
variable {P:Program}{B:Nat->Prop}{w0 w:World}{μ:b5}{H H':aw}{n:Nat}{tmps:Array Value}
variable {call:eZ}{aQ:hd}{o:Oper}{S:a5}
theorem wg(h:cd P B w0 μ H w){s:Sem Next}{v v':Value}{r:cT}(av:some (cT.val v H)=some r)(gZ:s.run P w=.ok (.value v') w)(az:bu μ v v'):nP P B w0 call aQ μ H w s r:=by
 injection av with av;subst av
 exact .inl ⟨v',w,μ,gZ,h,Step.refl _ _,az⟩
theorem afh{t:TypeId}{a bV b b':Value}{r:Bool}{x y:Operand}(aI:bu μ a bV)(ak:bu μ b b')(he:wB P t a b=some r)(w:World):
 (∀op,(eqGuard op t x y bV b').run P w=.ok () w)/\(binOp .eql t bV b').run P w=.ok (.bool r) w/\(binOp .neq t bV b').run P w=.ok (.bool (!r)) w:=by
 have Aw:(Op.equal t bV b').run P w=.ok r w:=afu aI ak he 9999 w;unfold wB at he;cases hu:P.underlying t with
 |none=>rw[hu] at he;simp at he
 |some d=>
  rw[hu] at he
  have fin:(∀op,(eqGuard op t x y bV b').run P w=.ok () w)->(binOp .eql t bV b'=(do pure (.bool (<-Op.equal t bV b'))))->(binOp .neq t bV b'=(do pure (.bool (!(<-Op.equal t bV b')))))->
   (∀op,(eqGuard op t x y bV b').run P w=.ok () w)/\(binOp .eql t bV b').run P w=.ok (.bool r) w/\(binOp .neq t bV b').run P w=.ok (.bool (!r)) w:=fun g aC aW=>by
   rw[aC,aW];exact⟨g,by simp[Aw],by simp[Aw]⟩
  cases a with
  |pointer p=>
   have aM:∃h8,bV=.pointer h8:=by
    cases p with
    |none=>exact⟨_,aI.DX⟩
    |some p=>obtain⟨_,_,_,_,_,q⟩:=aI.oZ;exact⟨_,q⟩
   obtain⟨h8,rfl⟩:=aM;cases b with
   |pointer q=>
    have aM:∃dG,b'=.pointer dG:=by
     cases q with
     |none=>exact⟨_,ak.DX⟩
     |some q=>obtain⟨_,_,_,_,_,q⟩:=ak.oZ;exact⟨_,q⟩
    obtain⟨dG,rfl⟩:=aM;exact fin (fun op=>by cases op<;>simp[eqGuard]) rfl rfl
   |_=>cases d<;>cases p<;>cases he
  |slice p l c=>
   have aM:∃h8 l' c',bV=.slice h8 l' c':=by
    cases p with
    |none=>exact⟨_,_,_,aI.sW⟩
    |some p=>obtain⟨_,_,q⟩:=aI.zo;exact⟨_,_,_,q⟩
   obtain⟨h8,l',c',rfl⟩:=aM;cases b with
   |slice q dq bM=>
    have aM:∃h8 l' c',b'=.slice h8 l' c':=by
     cases q with
     |none=>exact⟨_,_,_,ak.sW⟩
     |some p=>obtain⟨_,_,q⟩:=ak.zo;exact⟨_,_,_,q⟩
    obtain⟨atw,KF,art,rfl⟩:=aM;exact fin (fun op=>by cases op<;>simp[eqGuard]) rfl rfl
   |_=>cases d<;>cases p<;>cases he
  |map p=>
   have aM:∃h8,bV=.map h8:=by
    cases p with
    |none=>exact⟨_,aI.G6⟩
    |some p=>obtain⟨_,_,q⟩:=aI.G5;exact⟨_,q⟩
   obtain⟨h8,rfl⟩:=aM;cases b with
   |map q=>
    have aM:∃h8,b'=.map h8:=by
     cases q with
     |none=>exact⟨_,ak.G6⟩
     |some p=>obtain⟨_,_,q⟩:=ak.G5;exact⟨_,q⟩
    obtain⟨dG,rfl⟩:=aM;exact fin (fun op=>by cases op<;>simp[eqGuard]) rfl rfl
   |_=>cases d<;>cases p<;>cases he
  |nilFunc=>
   obtain rfl:=aI.K1;cases b with
   |func fn u v=>
    have aM:∃f u v,b'=.func f u v:=by
     rcases ak.CF with⟨_,_,q,_⟩|⟨_,_,_,_,_,_,q⟩
     ·exact⟨_,_,_,q⟩
     ·exact⟨_,_,_,q⟩
    obtain⟨_,_,_,rfl⟩:=aM;exact fin (fun op=>by cases op<;>simp[eqGuard]) rfl rfl
   |_=>cases d<;>cases he
  |func fn u v=>
   have aM:∃f u v,bV=.func f u v:=by
    rcases aI.CF with⟨_,_,q,_⟩|⟨_,_,_,_,_,_,q⟩
    ·exact⟨_,_,_,q⟩
    ·exact⟨_,_,_,q⟩
   obtain⟨_,_,_,rfl⟩:=aM;cases b with
   |nilFunc=>
    obtain rfl:=ak.K1;exact fin (fun op=>by cases op<;>simp[eqGuard]) rfl rfl
   |_=>cases d<;>cases he
  |nilIface=>
   obtain rfl:=aI.Hh;cases b with
   |iface ui v=>
    obtain⟨_,rfl,_⟩:=ak.xg;exact fin (fun op=>by cases op<;>simp[eqGuard]) rfl rfl
   |_=>cases d<;>cases he
  |iface ui v=>
   obtain⟨_,rfl,_⟩:=aI.xg;cases b with
   |nilIface=>
    obtain rfl:=ak.Hh;exact fin (fun op=>by cases op<;>simp[eqGuard]) rfl rfl
   |_=>cases d<;>cases he
  |_=>cases d<;>cases he
theorem afC(h:cd P B w0 μ H w)(aS:kq μ S.T n tmps){r:cT}(he:cL P call aQ S H o=some r):nP P B w0 call aQ μ H w (execOp (df tmps) o) r:=by
 have eA:∀x v,ba S.T H x=some v->bu μ v (df tmps x):=fun x v q=>ua h aS q;unfold cL e3 at he;simp only at he;cases aj:o.op with
 |move x=>
  rw[aj] at he;have he:g3 (ba S.T H x) H=some r:=he;have:=pK (call:=call) (aQ:=aQ) (s:=pure (df tmps x)) h (fun v q=>⟨_,rfl,eA x v q⟩) he;simpa[execOp,aj] using this
 |assign x=>
  rw[aj] at he;have he:g3 (ba S.T H x) H=some r:=he;have:=pK (call:=call) (aQ:=aQ) (s:=pure (df tmps x)) h (fun v q=>⟨_,rfl,eA x v q⟩) he;simpa[execOp,aj] using this
 |load t a=>
  rw[aj] at he;have he:Bm P ⟨call,aQ,S,H,o⟩ t (ba S.T H a)=some r:=he;cases aI:ba S.T H a with
  |none=>rw[aI] at he;cases he
  |some p=>
   rw[aI] at he;have:=pK (call:=call) (aQ:=aQ) h (fun v q=>afA h (eA a p aI) q) he;simpa[execOp,aj] using this
 |pick c a b=>
  rw[aj] at he;have he:y' P ⟨call,aQ,S,H,o⟩ a b (ba S.T H c)=some r:=he;cases aJ:ba S.T H c with
  |none=>rw[aJ] at he;cases he
  |some d'=>
   rw[aJ] at he;have ON:=eA c d' aJ;cases d' with
   |bool fo=>
    have VH:=ON.EV;cases fo with
    |true=>
     have he:g3 (ba S.T H a) H=some r:=he;have:=pK (call:=call) (aQ:=aQ) (s:=pure (df tmps a)) h (fun v q=>⟨_,rfl,eA a v q⟩) he;simpa[execOp,aj,VH,asBool] using this
    |false=>
     have he:g3 (ba S.T H b) H=some r:=he;have:=pK (call:=call) (aQ:=aQ) (s:=pure (df tmps b)) h (fun v q=>⟨_,rfl,eA b v q⟩) he;simpa[execOp,aj,VH,asBool] using this
   |_=>cases he
 |alloc elem=>
  rw[aj] at he;have he:Re P ⟨call,aQ,S,H,o⟩ elem (gR P elem)=some r:=he;cases aL:gR P elem with
  |none=>rw[aL] at he;cases he
  |some z=>
   rw[aL] at he;have he:(bif plain z then nd (wA H elem z) else none)=some r:=he;cases ap:plain z with
   |false=>rw[ap] at he;cases he
   |true=>
    rw[ap,cv] at he;have:=xF (call:=call) (aQ:=aQ) (s:=Instr.alloc elem true (.tuple #[])) (fun v H' q=>by
     obtain⟨bO,bA,cU,dn,cK,e6,fK⟩:=UM h (pN ap) q;refine⟨bO,bA,cU,?_,cK,e6,fK⟩;simpa[Instr.alloc,Instr.box,vT aL] using dn) he
    simpa[execOp,aj] using this
 |box elem x=>
  rw[aj] at he;have he:HB P ⟨call,aQ,S,H,o⟩ elem (ba S.T H x)=some r:=he;cases ab:ba S.T H x with
  |none=>rw[ab] at he;cases he
  |some v=>
   rw[ab] at he;have:=xF (call:=call) (aQ:=aQ) (fun v H' q=>UM h (eA x _ ab) q) he;simpa[execOp,aj] using this
 |build t parts=>
  rw[aj] at he;have he:Bj P ⟨call,aQ,S,H,o⟩ t (lI S.T H parts.toList)=some r:=he;cases ap:lI S.T H parts.toList with
  |none=>rw[ap] at he;cases he
  |some ps=>
   rw[ap] at he;have Pv:=YG h aS ap;have:=pK (call:=call) (aQ:=aQ) h (fun v q=>afn Pv q w) he;have aC:(parts.toList.map fun(i,x)=>(i,df tmps x)).toArray=parts.map fun(i,x)=>(i,df tmps x):=by apply rS;simp
   rw[aC] at this;simpa[execOp,aj] using this
 |buildSlice t len parts=>
  rw[aj] at he;have he:HC P ⟨call,aQ,S,H,o⟩ t len (lI S.T H parts.toList)=some r:=he;cases ap:lI S.T H parts.toList with
  |none=>rw[ap] at he;cases he
  |some ps=>
   rw[ap] at he;have Pv:=YG h aS ap;have:=xF (call:=call) (aQ:=aQ) (fun v H' q=>afm h Pv q) he;have aC:(parts.toList.map fun(i,x)=>(i,df tmps x)).toArray=parts.map fun(i,x)=>(i,df tmps x):=by apply rS;simp
   rw[aC] at this;simpa[execOp,aj] using this
 |store t a x=>
  rw[aj] at he;have he:DT P ⟨call,aQ,S,H,o⟩ t (ba S.T H a) (ba S.T H x)=some r:=he;cases aI:ba S.T H a with
  |none=>rw[aI] at he;cases he
  |some p=>
   cases ab:ba S.T H x with
   |none=>rw[aI,ab] at he;cases he
   |some v=>
    rw[aI,ab] at he;have:=amb (call:=call) (aQ:=aQ) (fun H' q=>afI h (eA a p aI) (eA x v ab) q) he;simpa[execOp,aj] using this
 |nilCheck x=>
  rw[aj] at he;have he:Bp P ⟨call,aQ,S,H,o⟩ (ba S.T H x)=some r:=he;cases ab:ba S.T H x with
  |none=>rw[ab] at he;cases he
  |some v=>
   rw[ab] at he;have av:=eA x v ab;cases v with
   |pointer a=>
    cases a with
    |none=>cases he
    |some a=>
     obtain⟨id,off,L,rfl,bB,az⟩:=av.oZ;exact wg h he (v':=df tmps x) (by simp[execOp,aj,az]) av
   |func fn a b=>
    cases fn with
    |func f=>
     rcases av.CF with⟨bV,b',az,_⟩|⟨l,L,q,_⟩
     ·exact wg h he (v':=df tmps x) (by simp[execOp,aj,az]) av
     ·cases q
    |_=>cases he
   |iface t v=>
    obtain⟨dP,az,_⟩:=av.xg;exact wg h he (v':=df tmps x) (by simp[execOp,aj,az]) av
   |_=>cases he
 |unOp op t x=>
  rw[aj] at he;exact Fz h aS (fun cs b q=>by rw[aj] at q;cases q) he
 |makeInterface t x=>
  rw[aj] at he;have he:Bo P ⟨call,aQ,S,H,o⟩ t (ba S.T H x) (P.underlying t)=some r:=he;cases ab:ba S.T H x with
  |none=>rw[ab] at he;cases P.underlying t<;>cases he
  |some v=>
   cases hu:P.underlying t with
   |none=>rw[ab,hu] at he;cases he
   |some d=>
    rw[ab,hu] at he;have VF:P.concrete t=true/\some (cT.val (.iface t v) H)=some r:=by
     cases d<;>first|(cases he;done)|exact⟨by simp[Program.concrete,hu],he⟩
    exact wg h VF.2 (by simp[execOp,aj,run_makeInterface w t _ VF.1]) (.iface t v _ (eA x v ab))
 |makeFunc fn first captured=>
  rw[aj] at he;have he:Bn P ⟨call,aQ,S,H,o⟩ fn (fz S.T H first.toList) (fz S.T H captured.toList)=some r:=he;cases ad:fz S.T H first.toList with
  |none=>rw[ad] at he;cases he
  |some a=>
   cases af:fz S.T H captured.toList with
   |none=>rw[ad,af] at he;cases he
   |some b=>
    rw[ad,af] at he;have dF:=HG h aS ad;have dq:=HG h aS af;have tJ:xv fn=true/\some (cT.val (.func fn a.toArray b.toArray) H)=some r:=by
     cases fn<;>first|(cases he;done)|exact⟨rfl,he⟩
    refine wg h tJ.2 (v':=.func fn (first.map (df tmps)) (captured.map (df tmps))) (by simp[execOp,aj,Instr.makeFunc]) ?_;exact .func _ _ _ _ _ tJ.1 (by simpa using dF.1) (by simpa using dq.1) (fun i v v' q dG=>dF.2 i v v' (by simpa using q) (by simpa using dG)) (fun i v v' q dG=>dq.2 i v v' (by simpa using q) (by simpa using dG))
 |makeMap t rs=>rw[aj] at he;cases he
 |makeSlice t l c=>
  rw[aj] at he;have he:HD P ⟨call,aQ,S,H,o⟩ t (ba S.T H l) (ba S.T H c)=some r:=he;cases ad:ba S.T H l with
  |none=>rw[ad] at he;cases he
  |some GY=>
   cases af:ba S.T H c with
   |none=>rw[ad,af] at he;cases he
   |some d'=>
    rw[ad,af] at he;have:=xF (call:=call) (aQ:=aQ) (fun v H' q=>afB h (eA l GY ad) (eA c d' af) q) he;simpa[execOp,aj] using this
 |slice t x lo ar G'=>
  rw[aj] at he;cases G' with
  |some m=>cases he
  |none=>
   have he:mn P ⟨call,aQ,S,H,o⟩ t (ba S.T H x) (hH S.T H lo) (hH S.T H ar)=some r:=he;cases ad:ba S.T H x with
   |none=>rw[ad] at he;cases he
   |some BQ=>
    cases af:hH S.T H lo with
    |none=>rw[ad,af] at he;cases he
    |some XC=>
     cases aV:hH S.T H ar with
     |none=>rw[ad,af,aV] at he;cases he
     |some C1=>
      rw[ad,af,aV] at he;have he:orElse (g3 (kt P H t BQ XC C1) H) (fk P S.T H o)=some r:=he;cases az:g3 (kt P H t BQ XC C1) H with
      |none=>rw[az] at he;exact Fz h aS (fun cs b q=>by rw[aj] at q;cases q) he
      |some cW=>
       rw[az] at he;have he:some cW=some r:=he;injection he with he;subst he
       have:=pK (call:=call) (aQ:=aQ) h (fun v q=>afH h (eA x BQ ad) (Yy h aS af) (Yy h aS aV) q) az;simpa[execOp,aj] using this
 |fieldAddr s x f=>
  rw[aj] at he;have he:Bl P ⟨call,aQ,S,H,o⟩ s f (ba S.T H x)=some r:=he;cases ab:ba S.T H x with
  |none=>rw[ab] at he;cases he
  |some p=>
   rw[ab] at he;have:=pK (call:=call) (aQ:=aQ) h (fun v q=>afw (eA x p ab) q w) he;simpa[execOp,aj] using this
 |indexAddr t x bh=>
  rw[aj] at he;have he:xE P ⟨call,aQ,S,H,o⟩ t (ba S.T H x) (ba S.T H bh)=some r:=he;cases ad:ba S.T H x with
  |none=>rw[ad] at he;cases he
  |some BQ=>
   cases af:ba S.T H bh with
   |none=>rw[ad,af] at he;cases he
   |some GP=>
    rw[ad,af] at he;have:=pK (call:=call) (aQ:=aQ) h (fun v q=>afx (eA x BQ ad) (eA bh GP af) q w) he;simpa[execOp,aj] using this
 |lookup t x k ok=>rw[aj] at he;cases he
 |mapUpdate t m k x=>rw[aj] at he;cases he
 |insert t m k x=>rw[aj] at he;cases he
 |typeAssert x xt asserted ok=>
  rw[aj] at he;have he:Bq P ⟨call,aQ,S,H,o⟩ asserted ok (ba S.T H x)=some r:=he;cases ab:ba S.T H x with
  |none=>rw[ab] at he;cases he
  |some v=>
   rw[ab] at he;have:=pK (call:=call) (aQ:=aQ) h (fun u q=>afP (xt:=xt) (eA x v ab) q w) he;simpa[execOp,aj] using this
 |extract t bh=>
  rw[aj] at he;have he:Bk P ⟨call,aQ,S,H,o⟩ bh (ba S.T H t)=some r:=he;cases ab:ba S.T H t with
  |none=>rw[ab] at he;cases he
  |some v=>
   rw[ab] at he;cases v with
   |tuple vs=>
    obtain⟨bV,az,aD⟩:=(eA t _ ab).apg;have he:g3 (nth vs.toList bh) H=some r:=he;have:=pK (call:=call) (aQ:=aQ) (s:=Instr.extract (df tmps t) bh) h (fun v q=>by
     rw[lH] at q;obtain⟨v',aX,aU⟩:=aD.get q;refine⟨v',?_,aU⟩;have aX:bV[bh]?=some v':=by simpa using aX
     simp[Instr.extract,az,aX]) he
    simpa[execOp,aj] using this
   |_=>cases he
 |panic x=>
  rw[aj] at he;have he:HE P ⟨call,aQ,S,H,o⟩ (ba S.T H x)=some r:=he;cases ab:ba S.T H x with
  |none=>rw[ab] at he;cases he
  |some v=>
   rw[ab] at he;cases v with
   |iface t v=>
    obtain⟨dP,az,av⟩:=(eA x _ ab).xg;have he:some (cT.jc [{v:=.iface t v,recovered:=false}] H)=some r:=he;injection he with he;subst he
    refine .inl ⟨.iface t v,.iface t dP,rfl,rfl,?_,.iface t v dP av⟩;simp[execOp,aj,az,Instr.panic,goPanic,Sem.run]
   |_=>cases he
 |call c=>
  rw[aj] at he;have he:k9 P ⟨call,aQ,S,H,o⟩ c=some r:=he;unfold k9 at he;cases m4:c.callee with
  |builtin b=>
   rw[m4] at he;exact afo h aS aj m4 he
  |value f=>
   rw[m4] at he;exact UN h aS aj (fun b q=>by rw[m4] at q;cases q) he
  |invoke Y7 Hi=>
   rw[m4] at he;exact UN h aS aj (fun b q=>by rw[m4] at q;cases q) he
 |defer c=>
  rw[aj] at he;have he:vH P ⟨call,aQ,S,H,o⟩ c=some r:=he;unfold vH at he;cases av:S.cP with
  |some l=>simp only[av] at he;cases he
  |none=>simp only[av] at he;exact afs h aS aj he
 |field t x f=>
  rw[aj] at he;have he:DS P ⟨call,aQ,S,H,o⟩ f (ba S.T H x) (P.underlying t)=some r:=he;cases ab:ba S.T H x with
  |none=>rw[ab] at he;cases he
  |some v=>
   rw[ab] at he;cases v with
   |agg cs=>
    obtain⟨bV,az,aD⟩:=(eA x _ ab).TH;cases hu:P.underlying t with
    |none=>rw[hu] at he;cases he
    |some d=>
     rw[hu] at he;cases d with
     |struct fields=>
      have he:(match fields[f]? with|some f=>g3 (m3 P f.type cs.toList f.offset) H|none=>none)=some r:=he
      cases aM:fields[f]? with
      |none=>rw[aM] at he;cases he
      |some fd=>
       rw[aM] at he;have:=pK (call:=call) (aQ:=aQ) (s:=Instr.field t (df tmps x) f) h (fun v q=>by
        obtain⟨v',aX,aU⟩:=US aD q w;refine⟨v',?_,aU⟩;have aX:(part fd.type bV fd.offset).run P w=.ok v' w:=by simpa using aX
        simp[Instr.field,eY hu,aM,az,asAgg,aX]) he
       simpa[execOp,aj] using this
     |_=>cases he
   |_=>cases he
 |index t x bh=>
  rw[aj] at he;have he:y9 P ⟨call,aQ,S,H,o⟩ (ba S.T H x) (ba S.T H bh) (P.underlying t)=some r:=he;cases ab:ba S.T H x with
  |none=>rw[ab] at he;cases he
  |some v=>
   cases ar:ba S.T H bh with
   |none=>rw[ab,ar] at he;cases v<;>cases he
   |some GP=>
    rw[ab,ar] at he;have vq:=eA x v ab;have VX:=eA bh GP ar;cases v with
    |agg cs=>
     obtain⟨bV,az,aD⟩:=vq.TH;cases GP with
     |int k i=>
      have C1:=VX.qA;cases hu:P.underlying t with
      |none=>rw[hu] at he;cases he
      |some d=>
       rw[hu] at he;cases d with
       |array len elem=>
        have n5:(match tQ i len,eV P elem with|some n,some sz=>g3 (m3 P elem cs.toList (n*sz)) H|_,_=>none)=some r:=he
        cases aE:tQ i len with
        |none=>rw[aE] at n5;cases n5
        |some m=>
         rw[aE] at n5;cases ag:eV P elem with
         |none=>rw[ag] at n5;cases n5
         |some sz=>
          rw[ag] at n5;obtain⟨rfl,cA⟩:=Qd aE;have:=pK (call:=call) (aQ:=aQ) (s:=Instr.index t (df tmps x) (df tmps bh)) h (fun v q=>by
           obtain⟨v',aX,aU⟩:=US aD q w;refine⟨v',?_,aU⟩;have aX:(part elem bV (m*sz)).run P w=.ok v' w:=by simpa using aX
           simp[Instr.index,C1,asIntOf,eY hu,az,cA,kP ag,aX]) n5
          simpa[execOp,aj] using this
       |_=>cases he
     |_=>cases he
    |string s=>
     have az:=vq.HW;cases GP with
     |int k i=>
      have C1:=VX.qA;cases hu:P.underlying t with
      |none=>rw[hu] at he;cases he
      |some d=>
       rw[hu] at he;cases d with
       |string=>
        cases i with
        |negSucc m=>cases he
        |ofNat m=>
         have he:(match nth s.data.toList m with|some b=>q5 (.ofNat b.toNat) (pP H .u8)|none=>none)=some r:=he
         cases ak:nth s.data.toList m with
         |none=>rw[ak] at he;cases he
         |some b=>
          rw[ak] at he;have he:q5 (.ofNat b.toNat) (pP H .u8)=some r:=he;rw[tt] at he;have ai5:s[m]?=some b:=by
           rw[lH] at ak;have cA:m<s.size:=by have:=(gS.1 ak).1;simpa using this
           rw[getElem?_pos s m cA];have af:s.data[m]?=some b:=by simpa using ak
           rw[zA cA] at af;injection af with af;rw[<-af];rfl
          refine wg h he (v':=.int .u8 b.toNat) ?_ (.atom _ rfl);simp[execOp,aj,Instr.index,C1,asIntOf,eY hu,az,ai5]
       |_=>cases he
     |_=>cases he
    |_=>cases he
 |convert src dst x=>
  rw[aj] at he;have fa:fk P S.T H o=some r->nP P B w0 call aQ μ H w (execOp (df tmps) o) r:=Fz h aS (fun cs b q=>by rw[aj] at q;cases q);have he:xD P ⟨call,aQ,S,H,o⟩ src dst (ba S.T H x)=some r:=he;cases ab:ba S.T H x with
  |none=>rw[ab] at he;cases he
  |some v=>
   rw[ab] at he;have vq:=eA x v ab;cases v with
   |string s=>
    have he:orElse (nd (wD P H src dst s)) (fk P S.T H o)=some r:=he;cases az:wD P H src dst s with
    |none=>rw[az] at he;exact fa he
    |some p=>
     have he:nd (wD P H src dst s)=some r:=by rw[az] at he ⊢;obtain⟨a,b⟩:=p;exact he
     have:=xF (call:=call) (aQ:=aQ) (fun v H' q=>afL h q) he;simpa[execOp,aj,vq.HW] using this
   |pointer a=>
    cases a with
    |none=>exact fa he
    |some a=>
     have:=pK (call:=call) (aQ:=aQ) h (fun v q=>afq h vq q) he;simpa[execOp,aj] using this
   |slice a l c=>
    have:=pK (call:=call) (aQ:=aQ) h (fun v q=>afO h vq (afM q)) he;simpa[execOp,aj] using this
   |int k i=>
    have he:(match P.underlying src,P.underlying dst with|some _,some (.int k)=>q5 (zz k i) (pP H k)|_,_=>fk P S.T H o)=some r:=he
    cases ag:P.underlying src with
    |none=>rw[ag] at he;exact fa he
    |some ds=>
    cases aq:P.underlying dst with
    |none=>rw[ag,aq] at he;exact fa he
    |some d=>
     rw[ag,aq] at he;cases d with
     |int lB=>
      have he:q5 (zz lB i) (pP H lB)=some r:=he;rw[tt,Ei] at he;refine wg h he (v':=.int lB (lB.wrap i)) ?_ (.atom _ rfl);simp[execOp,aj,vq.qA,convert,eY ag,eY aq,Conv.intToInt]
     |_=>exact fa he
   |_=>exact fa he
 |binOp op t x y qO=>
  rw[aj] at he;have fa:fk P S.T H o=some r->nP P B w0 call aQ μ H w (execOp (df tmps) o) r:=Fz h aS (fun cs b q=>by rw[aj] at q;cases q);have he:l6 P ⟨call,aQ,S,H,o⟩ op t (ba S.T H x) (ba S.T H y)=some r:=he;cases ab:ba S.T H x with
  |none=>rw[ab] at he;cases he
  |some a=>
   cases aB:ba S.T H y with
   |none=>rw[ab,aB] at he;cases a<;>cases he
   |some b=>
    rw[ab,aB] at he;have vq:=eA x a ab;have WS:=eA y b aB;have zp:t' P ⟨call,aQ,S,H,o⟩ op t a b=some r->nP P B w0 call aQ μ H w (execOp (df tmps) o) r:=by
     intro he;have he:orElse (fk P S.T H o) (vG P ⟨call,aQ,S,H,o⟩ t a b op)=some r:=he;cases ap:fk P S.T H o with
     |some cW=>
      rw[ap] at he;have he:some cW=some r:=he;injection he with he;subst he
      exact fa ap
     |none=>
      rw[ap] at he;have he:vG P ⟨call,aQ,S,H,o⟩ t a b op=some r:=he;cases bS:wB P t a b with
      |none=>
       unfold vG at he;simp only[bS] at he;cases op<;>cases he
      |some Y6=>
       obtain⟨aC,aW,cw⟩:=afh (x:=x) (y:=y) vq WS bS w;unfold vG at he;simp only[bS] at he;cases op with
       |eql=>exact wg h he (v':=.bool Y6) (by simp[execOp,aj,aC .eql,aW]) (.atom _ rfl)
       |neq=>exact wg h he (v':=.bool (!Y6)) (by simp[execOp,aj,aC .neq,cw]) (.atom _ rfl)
       |_=>cases he
    cases a with
    |int k i=>
     cases b with
     |int l j=>
      have n5:(bif mi k l then jG H k i j (fk P S.T H o) op else t' P ⟨call,aQ,S,H,o⟩ op t (.int k i) (.int l j))=some r:=he;cases hk:mi k l with
      |false=>rw[hk,dB] at n5;exact zp n5
      |true=>
       rw[hk,cv] at n5;have:=W7 hk;subst this;exact ajQ h vq.qA WS.qA ⟨qO,aj⟩ fa n5
     |_=>exact zp he
    |_=>exact zp (by cases b<;>exact he)
 |ready g=>rw[aj] at he;cases he
 |waits g=>rw[aj] at he;cases he
 |sliceToArrayPointer d x=>rw[aj] at he;cases he
 |makeChan t s=>rw[aj] at he;cases he
 |mapEntry t m k=>rw[aj] at he;cases he
 |entryStore t m s x=>rw[aj] at he;cases he
 |range t x=>rw[aj] at he;cases he
 |next it b=>rw[aj] at he;cases he
 |entry it=>rw[aj] at he;cases he
 |go c=>rw[aj] at he;cases he
 |send a b=>rw[aj] at he;cases he
 |recv a b c=>rw[aj] at he;cases he
 |select a b=>rw[aj] at he;cases he
end
end
end Go.Cre
namespace Go.Cre
noncomputable section
open Go.RowKit
def bY(fr:Frame)(tmps:Array Value)(ds:List Deferred)(todo:List Item):Frame:={fr with tmps:=tmps,todo:=todo,defers:=ds,mode:=.run}
section
variable {P:Program}{fr:Frame}{tmps:Array Value}{ds:List Deferred}{k:List Item}{cs:List Frame}{w:World}
theorem JD(todo:List Item):(bY fr tmps ds todo).eval=df tmps:=by
 funext x;cases x<;>rfl
theorem aoz:step P (lone (bY fr tmps ds (.code .skip::k)) cs w)=.next (lone (bY fr tmps ds k) cs w):=step_lone_go (by simp[stepG,stepG.exec,bY])
theorem aon{l:Nat}:step P (lone (bY fr tmps ds (.code (.label l)::k)) cs w)=.next (lone (bY fr tmps ds k) cs w):=step_lone_go (by simp[stepG,stepG.exec,bY])
theorem aol{id:Nat}:step P (lone (bY fr tmps ds (.inBlock id::k)) cs w)=.next (lone (bY fr tmps ds k) cs w):=step_lone_go (by simp[stepG,stepG.exec,bY])
theorem aom{c:Code}:step P (lone (bY fr tmps ds (.inScope c::k)) cs w)=.next (lone (bY fr tmps ds k) cs w):=step_lone_go (by simp[stepG,stepG.exec,bY])
theorem RP{x y:Code}:step P (lone (bY fr tmps ds (.code (.seq x y)::k)) cs w)=.next (lone (bY fr tmps ds (.code x::.code y::k)) cs w):=step_lone_go (by simp[stepG,stepG.exec,bY])
theorem ZP{c:Operand}{x y:Code}{t:Bool}(h:df tmps c=.bool t):step P (lone (bY fr tmps ds (.code (.cond c x y)::k)) cs w)=.next (lone (bY fr tmps ds (.code (if t then x else y)::k)) cs w):=
 step_lone_go (by
  have he:=congrFun (JD (fr:=fr) (tmps:=tmps) (ds:=ds) (.code (.cond c x y)::k)) c;rw[h] at he;simp only[bY] at he;simp[stepG,stepG.exec,bY,he])
theorem aog{id:Nat}{c:Code}:step P (lone (bY fr tmps ds (.code (.block id c)::k)) cs w)=.next (lone (bY fr tmps ds (.code c::.inBlock id::k)) cs w):=step_lone_go (by simp[stepG,stepG.exec,bY])
theorem aoy{c:Code}:step P (lone (bY fr tmps ds (.code (.scope c)::k)) cs w)=.next (lone (bY fr tmps ds (.code c::.inScope c::k)) cs w):=step_lone_go (by simp[stepG,stepG.exec,bY])
theorem ZS{c:Code}:step P (lone (bY fr tmps ds (.code (.loop c)::k)) cs w)=.next (lone (bY fr tmps ds (.code c::.inLoop c::k)) cs w):=step_lone_go (by simp[stepG,stepG.exec,bY])
theorem ZR{c:Code}:step P (lone (bY fr tmps ds (.inLoop c::k)) cs w)=.next (lone (bY fr tmps ds (.code c::.inLoop c::k)) cs w):=step_lone_go (by simp[stepG,stepG.exec,bY])
theorem aok{id:Nat}{lB:List Item}(h:exitTo id k=some lB):step P (lone (bY fr tmps ds (.code (.exit id)::k)) cs w)=.next (lone (bY fr tmps ds lB) cs w):=step_lone_go (by simp[stepG,stepG.exec,bY,h])
theorem ZT{id:Nat}{ops:Array Oper}:step P (lone (bY fr tmps ds (.code (.region id ops false)::k)) cs w)=.next (lone (bY fr tmps ds (.inRegion ops (List.range ops.size)::k)) cs w):=step_lone_go (by simp[stepG,stepG.exec,bY])
theorem RO{ops:Array Oper}:step P (lone (bY fr tmps ds (.inRegion ops []::k)) cs w)=.next (lone (bY fr tmps ds k) cs w):=step_lone_go (by simp[stepG,stepG.exec,bY])
theorem aoi{id:Nat}{ops:Array Oper}:step P (lone (bY fr tmps ds (.code (.region id ops true)::k)) cs w)=
 .next (lone (bY fr tmps ds (.inRegion ops (Region.schedule (P.follows .mixedOrders) ops (w.tape w.drawn (.order fr.fn id)))::k)) cs {w with drawn:=w.drawn+1}):=
 step_lone_go (by simp[stepG,stepG.exec,bY,choose,Sem.run,Question.forced,Question.cut])
def uc(tmps:Array Value)(dst:Option Tmp)(v:Value):Array Value:=match dst with|some d=>tmps.setIfInBounds d v|none=>tmps
theorem Af{ops:Array Oper}{i:Nat}{rest:List Nat}{o:Oper}(aj:ops[i]?=some o)(v:Value):(bY fr tmps ds (.inRegion ops (i::rest)::k)).finish v=bY fr (uc tmps o.dst v) ds (.inRegion ops rest::k):=by
 simp only[Frame.finish,bY,aj,Tm,uc];cases o.dst<;>rfl
theorem aoB{ops:Array Oper}{i:Nat}{rest:List Nat}{o:Oper}(aj:ops[i]?=some o)(hw:Region.wanted o (yielded ops tmps)=false):
 step P (lone (bY fr tmps ds (.inRegion ops (i::rest)::k)) cs w)=.next (lone (bY fr (uc tmps o.dst undef) ds (.inRegion ops rest::k)) cs w):=by
 rw[<-Af aj];exact step_lone_go (by simp[stepG,stepG.exec,bY,aj,hw])
theorem BA{ops:Array Oper}{i:Nat}{rest:List Nat}{o:Oper}(aj:ops[i]?=some o)(hw:Region.wanted o (yielded ops tmps)=true)(ez:fr.roundOf=none\/∀c,o.op≠.defer c):
 stepG P true {frame:=bY fr tmps ds (.inRegion ops (i::rest)::k),callers:=cs,status:=.running,dying:=none} w=
  stepG.apply P true (bY fr tmps ds (.inRegion ops (i::rest)::k)) cs none (execOp (df tmps) o) w:=by
 have he:=JD (fr:=fr) (tmps:=tmps) (ds:=ds) (.inRegion ops (i::rest)::k);simp only[bY] at he;simp only[stepG,stepG.exec,stepG.oper,Frame.oper?,bY,aj,hw,he,IY,Tn,Kz];rcases ez with h|h
 ·rw[h]
 ·cases av:fr.roundOf with
  |none=>rfl
  |some l=>
   cases eA:o.op with
   |defer c=>exact absurd eA (h c)
   |_=>rfl
theorem RQ{ops:Array Oper}{i:Nat}{rest:List Nat}{o:Oper}{v:Value}{bn:World}(aj:ops[i]?=some o)(hw:Region.wanted o (yielded ops tmps)=true)(ez:fr.roundOf=none\/∀c,o.op≠.defer c)
 (av:(execOp (df tmps) o).run P w=.ok (.value v) bn):
 step P (lone (bY fr tmps ds (.inRegion ops (i::rest)::k)) cs w)=.next (lone (bY fr (uc tmps o.dst v) ds (.inRegion ops rest::k)) cs bn):=by
 rw[<-Af aj];exact step_lone_go (by rw[BA aj hw ez];simp[stepG.apply,av])
theorem aoA{ops:Array Oper}{i:Nat}{rest:List Nat}{o:Oper}{bn:World}(aj:ops[i]?=some o)(hw:Region.wanted o (yielded ops tmps)=true)(ez:fr.roundOf=none\/∀c,o.op≠.defer c)
 (av:(execOp (df tmps) o).run P w=.ok .skip bn):
 step P (lone (bY fr tmps ds (.inRegion ops (i::rest)::k)) cs w)=.next (lone (bY fr (uc tmps o.dst undef) ds (.inRegion ops rest::k)) cs bn):=by
 rw[<-Af aj];exact step_lone_go (by rw[BA aj hw ez];simp[stepG.apply,av])
theorem aor{ops:Array Oper}{i:Nat}{rest:List Nat}{o:Oper}{v:Value}{bn:World}(aj:ops[i]?=some o)(hw:Region.wanted o (yielded ops tmps)=true)(ez:fr.roundOf=none\/∀c,o.op≠.defer c)
 (av:(execOp (df tmps) o).run P w=.halt (.panic v) bn):
 step P (lone (bY fr tmps ds (.inRegion ops (i::rest)::k)) cs w)=.next (lone {bY fr tmps ds (.inRegion ops (i::rest)::k) with mode:=.panicking [{v,recovered:=false}]} cs bn):=
 step_lone_go (by rw[BA aj hw ez];simp[stepG.apply,av,Frame.raise,bY])
theorem aoh{ops:Array Oper}{i:Nat}{rest:List Nat}{o:Oper}{d:Deferred}{bn:World}(aj:ops[i]?=some o)(hw:Region.wanted o (yielded ops tmps)=true)(ez:fr.roundOf=none)
 (av:(execOp (df tmps) o).run P w=.ok (.defer d) bn):
 step P (lone (bY fr tmps ds (.inRegion ops (i::rest)::k)) cs w)=.next (lone (bY fr (uc tmps o.dst undef) (d::ds) (.inRegion ops rest::k)) cs bn):=by
 have aM:({bY fr tmps ds (.inRegion ops (i::rest)::k) with defers:=d::ds}:Frame).finish undef=bY fr (uc tmps o.dst undef) (d::ds) (.inRegion ops rest::k):=
  Af (fr:=fr) (tmps:=tmps) (ds:=d::ds) (k:=k) (rest:=rest) aj undef
 refine step_lone_go ?_;rw[BA aj hw (.inl ez)];simp only[stepG.apply,Sem.runT_eq,av,GStep.bare_after,Kz];exact aa (fun f=>GStep.go {frame:=f,callers:=cs,status:=.running,dying:=none} bn) aM
theorem ZQ{ops:Array Oper}{i:Nat}{rest:List Nat}{o:Oper}{f:FuncId}{args:Array Value}{bn:World}(aj:ops[i]?=some o)(hw:Region.wanted o (yielded ops tmps)=true)(ez:fr.roundOf=none\/∀c,o.op≠.defer c)
 (av:(execOp (df tmps) o).run P w=.ok (.enter f args) bn):
 step P (lone (bY fr tmps ds (.inRegion ops (i::rest)::k)) cs w)=.next (lone (Frame.enter P f args .normal) (bY fr tmps ds (.inRegion ops (i::rest)::k)::cs) bn):=
 step_lone_go (by rw[BA aj hw ez];simp[stepG.apply,av,bY])
theorem aox{ops:Array Oper}{i:Nat}{rest:List Nat}{o:Oper}{l:Nat}{f:FuncId}{pS:Array Value}{a b:Code}{bn:World}(aj:ops[i]?=some o)(hw:Region.wanted o (yielded ops tmps)=true)(ez:fr.roundOf=none\/∀c,o.op≠.defer c)
 (av:(execOp (df tmps) o).run P w=.ok (.round l f pS a b) bn):
 step P (lone (bY fr tmps ds (.inRegion ops (i::rest)::k)) cs w)=.next (lone (Frame.round l f pS a b .normal) (bY fr tmps ds (.inRegion ops (i::rest)::k)::cs) bn):=
 step_lone_go (by rw[BA aj hw ez];simp[stepG.apply,av])
end
end
end Go.Cre
namespace Go.Cre
noncomputable section
open Go.RowKit
def iT(μ:b5)(c c':List PanicEntry):Prop:=c.length=c'.length/\∀(i:Nat) e b3,c[i]?=some e->c'[i]?=some b3->b3.recovered=e.recovered/\b3.goexit=e.goexit/\bu μ e.v b3.v
def o8(μ:b5):FrameMode->FrameMode->Prop
 |.run,.run=>True
 |.returning,.returning=>True
 |.panicking c,.panicking c'=>iT μ c c'
 |_,_=>False
def Iu(μ:b5)(d ln:Deferred):Prop:=
 (∃k0 cap ej,d.target=.fn k0 cap/\ln.target=.fn k0 ej/\xv k0=true/\ca μ cap.toList ej.toList/\ca μ d.args.toList ln.args.toList)\/(∃r L,d.target=.collected r/\μ r=some L/\ln.target=.collected L.r)
inductive s8 (μ:b5):List Deferred->List Deferred->Prop
 |nil:s8 μ [] []
 |cons (d ln:Deferred) (l l':List Deferred):Iu μ d ln->s8 μ l l'->s8 μ (d::l) (ln::l')
def Ep(μ:b5):Ending->Ending->Prop
 |.returned v,.returned v'=>bu μ v v'
 |.panicked c,.panicked c'=>iT μ c c'
 |_,_=>False
section
variable {P:Program}{B:Nat->Prop}{w0 w:World}{μ bw:b5}{H H':aw}
theorem iT.mono{c c':List PanicEntry}(h:iT μ c c')(e:Ext μ bw):iT bw c c':=⟨h.1,fun i a b x y=>by obtain⟨p,q,r⟩:=h.2 i a b x y;exact⟨p,q,r.mono e⟩⟩
theorem o8.mono{m m':FrameMode}(h:o8 μ m m')(e:Ext μ bw):o8 bw m m':=by
 cases m<;>cases m'<;>first|trivial|exact h.elim|exact iT.mono h e
theorem Iu.mono{d ln:Deferred}(h:Iu μ d ln)(e:Ext μ bw):Iu bw d ln:=by
 rcases h with⟨k0,cap,ej,ad,af,aV,bq,fL⟩|⟨r,L,ad,af,aV⟩
 ·exact .inl ⟨k0,cap,ej,ad,af,aV,bq.mono e,fL.mono e⟩
 ·exact .inr ⟨r,L,ad,e _ _ af,aV⟩
theorem s8.mono{l l':List Deferred}(h:s8 μ l l')(e:Ext μ bw):s8 bw l l':=by
 induction h with
 |nil=>exact .nil
 |cons d ln l l' aq _ aZ=>exact .cons d ln l l' (aq.mono e) aZ
theorem iT.single{v v':Value}(h:bu μ v v'):iT μ [{v:=v,recovered:=false}] [{v:=v',recovered:=false}]:=
 ⟨rfl,fun i e b3 x y=>by
  cases i with
  |zero=>simp at x y;subst x;subst y;exact⟨rfl,rfl,h⟩
  |succ i=>simp at x⟩
structure ib (μ:b5) (S:a5) (fr:Frame) (tmps:Array Value) (ds:List Deferred) (cs:List Frame):Prop where
 t:kq μ S.T S.n tmps
 d:s8 μ S.ds ds
 kind:fr.kind=if S.cb then .deferred else .normal
 vL:S.cP=none->fr.roundOf=none
 Bx:∀l,S.cP=some l->∃L,μ l=some L/\fr.roundOf=some L.r
 bE:S.cb=true->∃c rest,cs=c::rest/\o8 μ S.bE c.mode
theorem ib.mono{S:a5}{fr:Frame}{tmps:Array Value}{ds:List Deferred}{cs:List Frame}(h:ib μ S fr tmps ds cs)(e:Ext μ bw):ib bw S fr tmps ds cs:=
 ⟨h.t.mono e,h.d.mono e,h.kind,h.vL,fun l q=>by obtain⟨L,a,b⟩:=h.Bx l q;exact⟨L,e _ _ a,b⟩,fun q=>by obtain⟨c,r,a,b⟩:=h.bE q;exact⟨c,r,a,b.mono e⟩⟩
def kn(d:Bool)(cs cN:List Frame):Prop:=if d then ∃c rest m,cs=c::rest/\cN={c with mode:=m}::rest else cN=cs
theorem kn.refl(d:Bool)(cs:List Frame)(h:d=true->∃c rest,cs=c::rest):kn d cs cs:=by
 cases d with
 |false=>rfl
 |true=>obtain⟨c,rest,rfl⟩:=h rfl;exact⟨c,rest,c.mode,rfl,rfl⟩
theorem kn.trans{d:Bool}{a b c:List Frame}(h:kn d a b)(k:kn d b c):kn d a c:=by
 cases d with
 |false=>exact Eq.trans k h
 |true=>
  obtain⟨x,rest,m,rfl,rfl⟩:=h;obtain⟨y,xL,m',e,rfl⟩:=k;injection e with aC aW;subst aC;subst aW
  exact⟨x,rest,m',rfl,rfl⟩
def p0(P:Program)(B:Nat->Prop)(w0:World)(call:eZ):Prop:=
 ∀f args H e H',call f args H=some (e,H')->∀μ w cq,cd P B w0 μ H w->ca μ args cq->
  (∃v v' bn bw,e=.returned v/\(callFunc f cq.toArray).run P w=.ok (.value v') bn/\cd P B w0 bw H' bn/\Step μ bw H H'/\bu bw v v')\/
  ((callFunc f cq.toArray).run P w=.ok (.enter f cq.toArray) w/\Calls P f cq.toArray w (fun b3 bn=>∃bw,cd P B w0 bw H' bn/\Step μ bw H H'/\Ep bw e b3))
def yh(P:Program)(B:Nat->Prop)(w0:World)(aQ:hd):Prop:=
 ∀l args H e H',aQ l args H=some (e,H')->∀μ w L cq,cd P B w0 μ H w->μ l=some L->ca μ args cq->
  ∃v f pS a b,e=.returned v/\(Instr.yield L.r cq.toArray).run P w=.ok (.round L.r f pS a b) w/\
   ∀caller cs,∃v' bn bw,cd P B w0 bw H' bn/\Step μ bw H H'/\bu bw v v'/\Steps P (lone (Frame.round L.r f pS a b .normal) (caller::cs) w) (lone (caller.finish v') cs bn)
theorem Vd{ops:Array Oper}{T:a4 Value}{n:Nat}{tmps:Array Value}{o:Oper}{b:Bool}(aS:kq μ T n tmps)(he:gp ops.toList T o=some b):Region.wanted o (yielded ops tmps)=b:=by
 unfold gp at he;unfold Region.wanted;cases aF:o.guard with
 |none=>rw[aF] at he;simp at he;exact he.symm▸rfl
 |some p=>
  obtain⟨j,want⟩:=p;rw[aF] at he;have he:u3 ops.toList T (j,want)=some b:=he;simp only[u3,lH] at he;simp only[yielded];have bf:ops.toList[j]?=ops[j]?:=by simp
  rw[bf] at he;cases ap:ops[j]? with
  |none=>rw[ap] at he;simp at he;subst he;simp
  |some p=>
   rw[ap] at he;simp only at he;cases aq:p.dst with
   |none=>rw[aq] at he;simp at he;subst he;simp[aq]
   |some d=>
    rw[aq] at he;simp only at he;cases cB:T.get d with
    |none=>rw[cB] at he;simp at he
    |some v=>
     rw[cB] at he;have az:=aS.2 d v cB;have m7:tmps[d]?=some (tmps.getD d undef)\/(tmps[d]?=none/\tmps.getD d undef=undef):=by
      rcases iK d tmps.size with q|q
      ·left;simp[q]
      ·right;simp[q]
     simp only[Tm,aq];have Ya:(∀c,v≠.bool c)->v≠.chan none->∀c,tmps.getD d undef≠.bool c:=fun aE hw c q=>by
      rw[q] at az;cases az with
      |atom _ _=>exact aE c rfl
      |x0 _ _=>exact hw rfl
     by_cases lz:∃c,v=.bool c
     ·obtain⟨c,rfl⟩:=lz;simp only[cD] at he;subst he;have jE:=az.EV;rcases m7 with q|⟨_,q⟩
      ·rw[q,jE];simp
      ·rw[q] at jE;cases jE
     ·have hA:∀c,v≠.bool c:=fun c q=>lz ⟨c,q⟩;have aiv:v≠.chan none:=fun q=>by rw[q] at he;cases he
      have ak:b=false:=by
       cases v<;>first|(simp only[cD] at he;exact he.symm)|exact absurd ⟨_,rfl⟩ lz|cases he
      subst ak;rcases m7 with q|⟨q,_⟩
      ·rw[q];have:=Ya hA aiv;cases ab:tmps.getD d undef<;>first|rfl|exact absurd ab (this _)
      ·rw[q];rfl
theorem Rm{S aP:a5}{fr:Frame}{tmps:Array Value}{ds:List Deferred}{cs:List Frame}{dst:Option Tmp}{v v':Value}(h:ib μ S fr tmps ds cs)(az:bu μ v v')(he:S.put dst v=some aP):
 ib μ aP fr (uc tmps dst v') ds cs/\aP.cb=S.cb/\aP.cP=S.cP/\aP.bE=S.bE/\aP.ds=S.ds:=by
 cases dst with
 |none=>
  have he:some S=some aP:=he;injection he with he;subst he
  exact⟨h,rfl,rfl,rfl,rfl⟩
 |some d=>
  obtain⟨T,n,fQ,cb,bE,cP⟩:=S;have he:Bool.rec (motive:=fun _=>Option a5) none (a5.qG n fQ cb bE cP (a4.put v T d)) (Nat.ble (Nat.succ d) n)=some aP:=he;cases ak:Nat.ble (Nat.succ d) n with
  |false=>rw[ak] at he;cases he
  |true=>
   rw[ak] at he;have ak:=hZ ak;have he:a5.qG n fQ cb bE cP (a4.put v T d)=some aP:=he;cases ap:a4.put v T d with
   |none=>rw[ap] at he;cases he
   |some eG=>
    rw[ap] at he;have he:some (a5.mk eG n fQ cb bE cP)=some aP:=he;injection he with he;subst he
    refine⟨⟨⟨by have:=h.t.1;simpa[uc] using this,fun t u q=>?_⟩,h.d,h.kind,h.vL,h.Bx,h.bE⟩,rfl,rfl,rfl,rfl⟩;have q:eG.get t=some u:=q;rw[a4.get_put ap] at q;have ea:n<=tmps.size:=h.t.1;show bu μ u ((tmps.setIfInBounds d v').getD t undef);by_cases PL:t=d
    ·subst PL;rw[bj rfl] at q;injection q with q;subst q
     have:(tmps.setIfInBounds t v').getD t undef=v':=by
      have:t<tmps.size:=by omega
      simp[this]
     rw[this];exact az
    ·rw[bd PL] at q;have:(tmps.setIfInBounds d v').getD t undef=tmps.getD t undef:=by
      simp[SA (Ne.symm PL)]
     rw[this];exact h.t.2 t u q
def lj(P:Program)(B:Nat->Prop)(w0:World)(μ:b5)(H:aw)(S:a5)(fr:Frame)(cs:List Frame)(m:Machine)(todo:List Item):dI->Prop
 |.ok aP H'=>∃bw bn hc fb cN,cd P B w0 bw H' bn/\Step μ bw H H'/\ib bw aP fr hc fb cN/\kn S.cb cs cN/\aP.cb=S.cb/\aP.cP=S.cP/\Steps P m (lone (bY fr hc fb todo) cN bn)
 |.jc chain aP H'=>∃bw bn hc fb cN E9 kx,cd P B w0 bw H' bn/\Step μ bw H H'/\ib bw aP fr hc fb cN/\kn S.cb cs cN/\aP.cb=S.cb/\aP.cP=S.cP/\iT bw chain E9/\
  Steps P m (lone {bY fr hc fb kx with mode:=.panicking E9} cN bn)
end
end
end Go.Cre
