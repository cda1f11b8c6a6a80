/- A part of the proof of ResumeBytes. -/
import Derived.Test.YtkmfhjilfjecmaaGreatDoorCai
import Derived.Laws.Build
import Derived.Defers
import Derived.Recover
set_option linter.unusedVariables false
set_option linter.unusedSimpArgs false
namespace Go.Cre
noncomputable section
open Go.RowKit
section
variable {P:Program}{B:Nat->Prop}{w0 w:World}{μ:bY}{H H':aA}{n:Nat}{tmps:Array Value}
variable {call:eH}{aR:gR}{o:Oper}{S:bh}
theorem w1(h:b9 P B w0 μ H w){s:Sem Next}{v v':Value}{r:cL}(aw:some (cL.val v H)=some r)(iB:s.run P w=.ok (.value v') w)(ay:bB μ v v'):nZ P B w0 call aR μ H w s r:=by
 injection aw with aw;subst aw
 exact .inl ⟨v',w,μ,iB,h,Step.refl _ _,ay⟩
theorem aeA{t:TypeId}{a bV b b':Value}{r:Bool}{x y:Operand}(a1:bB μ a bV)(ap:bB μ b b')(he:vx P t a b=some r)(w:World):
 (∀op,(eqGuard op t x y bV b').run P w=.ok () w)/\(binOp .eql t bV b').run P w=.ok (.bool r) w/\(binOp .neq t bV b').run P w=.ok (.bool (!r)) w:=by
 have vN:(Op.equal t bV b').run P w=.ok r w:=aeR a1 ap he 9999 w;unfold vx at he;cases hu:P.underlying t with
 |none=>rw[hu] at he;simp at he
 |some d=>
  rw[hu] at he
  have fin:(∀op,(eqGuard op t x y bV b').run P w=.ok () w)->(binOp .eql t bV b'=(do pure (.bool (<-Op.equal t bV b'))))->(binOp .neq t bV b'=(do pure (.bool (!(<-Op.equal t bV b')))))->
   (∀op,(eqGuard op t x y bV b').run P w=.ok () w)/\(binOp .eql t bV b').run P w=.ok (.bool r) w/\(binOp .neq t bV b').run P w=.ok (.bool (!r)) w:=fun g aL bk=>by
   rw[aL,bk];exact⟨g,by simp[vN],by simp[vN]⟩
  cases a with
  |pointer p=>
   have aD:∃hO,bV=.pointer hO:=by
    cases p with
    |none=>exact⟨_,a1.E1⟩
    |some p=>obtain⟨_,_,_,_,_,q⟩:=a1.pf;exact⟨_,q⟩
   obtain⟨hO,rfl⟩:=aD;cases b with
   |pointer q=>
    have aD:∃du,b'=.pointer du:=by
     cases q with
     |none=>exact⟨_,ap.E1⟩
     |some q=>obtain⟨_,_,_,_,_,q⟩:=ap.pf;exact⟨_,q⟩
    obtain⟨du,rfl⟩:=aD;exact fin (fun op=>by cases op<;>simp[eqGuard]) rfl rfl
   |_=>cases d<;>cases p<;>cases he
  |slice p l c=>
   have aD:∃hO l' cd,bV=.slice hO l' cd:=by
    cases p with
    |none=>exact⟨_,_,_,a1.uK⟩
    |some p=>obtain⟨_,_,q⟩:=a1.Cx;exact⟨_,_,_,q⟩
   obtain⟨hO,l',cd,rfl⟩:=aD;cases b with
   |slice q dW c2=>
    have aD:∃hO l' cd,b'=.slice hO l' cd:=by
     cases q with
     |none=>exact⟨_,_,_,ap.uK⟩
     |some p=>obtain⟨_,_,q⟩:=ap.Cx;exact⟨_,_,_,q⟩
    obtain⟨auu,Lu,arm,rfl⟩:=aD;exact fin (fun op=>by cases op<;>simp[eqGuard]) rfl rfl
   |_=>cases d<;>cases p<;>cases he
  |map p=>
   have aD:∃hO,bV=.map hO:=by
    cases p with
    |none=>exact⟨_,a1.Is⟩
    |some p=>obtain⟨_,_,q⟩:=a1.Ir;exact⟨_,q⟩
   obtain⟨hO,rfl⟩:=aD;cases b with
   |map q=>
    have aD:∃hO,b'=.map hO:=by
     cases q with
     |none=>exact⟨_,ap.Is⟩
     |some p=>obtain⟨_,_,q⟩:=ap.Ir;exact⟨_,q⟩
    obtain⟨du,rfl⟩:=aD;exact fin (fun op=>by cases op<;>simp[eqGuard]) rfl rfl
   |_=>cases d<;>cases p<;>cases he
  |nilFunc=>
   obtain rfl:=a1.LH;cases b with
   |func fn u v=>
    have aD:∃f u v,b'=.func f u v:=by
     rcases ap.GZ with⟨_,_,q,_⟩|⟨_,_,_,_,_,_,q⟩
     ·exact⟨_,_,_,q⟩
     ·exact⟨_,_,_,q⟩
    obtain⟨_,_,_,rfl⟩:=aD;exact fin (fun op=>by cases op<;>simp[eqGuard]) rfl rfl
   |_=>cases d<;>cases he
  |func fn u v=>
   have aD:∃f u v,bV=.func f u v:=by
    rcases a1.GZ with⟨_,_,q,_⟩|⟨_,_,_,_,_,_,q⟩
    ·exact⟨_,_,_,q⟩
    ·exact⟨_,_,_,q⟩
   obtain⟨_,_,_,rfl⟩:=aD;cases b with
   |nilFunc=>
    obtain rfl:=ap.LH;exact fin (fun op=>by cases op<;>simp[eqGuard]) rfl rfl
   |_=>cases d<;>cases he
  |nilIface=>
   obtain rfl:=a1.IC;cases b with
   |iface uN v=>
    obtain⟨_,rfl,_⟩:=ap.xX;exact fin (fun op=>by cases op<;>simp[eqGuard]) rfl rfl
   |_=>cases d<;>cases he
  |iface uN v=>
   obtain⟨_,rfl,_⟩:=a1.xX;cases b with
   |nilIface=>
    obtain rfl:=ap.IC;exact fin (fun op=>by cases op<;>simp[eqGuard]) rfl rfl
   |_=>cases d<;>cases he
  |_=>cases d<;>cases he
theorem aeZ(h:b9 P B w0 μ H w)(aB:lD μ S.T n tmps){r:cL}(he:cJ P call aR S H o=some r):nZ P B w0 call aR μ H w (execOp (dz tmps) o) r:=by
 have d':∀x v,bj S.T H x=some v->bB μ v (dz tmps x):=fun x v q=>wo h aB q;unfold cJ fe at he;simp only at he;cases ar:o.op with
 |move x=>
  rw[ar] at he;have he:fZ (bj S.T H x) H=some r:=he;have:=pQ (call:=call) (aR:=aR) (s:=pure (dz tmps x)) h (fun v q=>⟨_,rfl,d' x v q⟩) he;simpa[execOp,ar] using this
 |assign x=>
  rw[ar] at he;have he:fZ (bj S.T H x) H=some r:=he;have:=pQ (call:=call) (aR:=aR) (s:=pure (dz tmps x)) h (fun v q=>⟨_,rfl,d' x v q⟩) he;simpa[execOp,ar] using this
 |load t a=>
  rw[ar] at he;have he:Ce P ⟨call,aR,S,H,o⟩ t (bj S.T H a)=some r:=he;cases a1:bj S.T H a with
  |none=>rw[a1] at he;cases he
  |some p=>
   rw[a1] at he;have:=pQ (call:=call) (aR:=aR) h (fun v q=>aeX h (d' a p a1) q) he;simpa[execOp,ar] using this
 |pick c a b=>
  rw[ar] at he;have he:zP P ⟨call,aR,S,H,o⟩ a b (bj S.T H c)=some r:=he;cases aC:bj S.T H c with
  |none=>rw[aC] at he;cases he
  |some gJ=>
   rw[aC] at he;have O1:=d' c gJ aC;cases gJ with
   |bool yT=>
    have uc:=O1.Gb;cases yT with
    |true=>
     have he:fZ (bj S.T H a) H=some r:=he;have:=pQ (call:=call) (aR:=aR) (s:=pure (dz tmps a)) h (fun v q=>⟨_,rfl,d' a v q⟩) he;simpa[execOp,ar,uc,asBool] using this
    |false=>
     have he:fZ (bj S.T H b) H=some r:=he;have:=pQ (call:=call) (aR:=aR) (s:=pure (dz tmps b)) h (fun v q=>⟨_,rfl,d' b v q⟩) he;simpa[execOp,ar,uc,asBool] using this
   |_=>cases he
 |alloc elem=>
  rw[ar] at he;have he:Q4 P ⟨call,aR,S,H,o⟩ elem (fy P elem)=some r:=he;cases bE:fy P elem with
  |none=>rw[bE] at he;cases he
  |some z=>
   rw[bE] at he;have he:(bif plain z then mq (xh H elem z) else none)=some r:=he;cases au:plain z with
   |false=>rw[au] at he;cases he
   |true=>
    rw[au,b7] at he;have:=zO (call:=call) (aR:=aR) (s:=Instr.alloc elem true (.tuple #[])) (fun v H' q=>by
     obtain⟨bm,a2,a3,a4,a5,da,cT⟩:=UM h (qG au) q;refine⟨bm,a2,a3,?_,a5,da,cT⟩;simpa[Instr.alloc,Instr.box,yu bE] using a4) he
    simpa[execOp,ar] using this
 |box elem x=>
  rw[ar] at he;have he:IM P ⟨call,aR,S,H,o⟩ elem (bj S.T H x)=some r:=he;cases U:bj S.T H x with
  |none=>rw[U] at he;cases he
  |some v=>
   rw[U] at he;have:=zO (call:=call) (aR:=aR) (fun v H' q=>UM h (d' x _ U) q) he;simpa[execOp,ar] using this
 |build t parts=>
  rw[ar] at he;have he:Cb P ⟨call,aR,S,H,o⟩ t (ls S.T H parts.toList)=some r:=he;cases au:ls S.T H parts.toList with
  |none=>rw[au] at he;cases he
  |some ew=>
   rw[au] at he;have HL:=Yq h aB au;have:=pQ (call:=call) (aR:=aR) h (fun v q=>aeL HL q w) he;have aL:(parts.toList.map fun(i,x)=>(i,dz tmps x)).toArray=parts.map fun(i,x)=>(i,dz tmps x):=by apply tf;simp
   rw[aL] at this;simpa[execOp,ar] using this
 |buildSlice t len parts=>
  rw[ar] at he;have he:IN P ⟨call,aR,S,H,o⟩ t len (ls S.T H parts.toList)=some r:=he;cases au:ls S.T H parts.toList with
  |none=>rw[au] at he;cases he
  |some ew=>
   rw[au] at he;have HL:=Yq h aB au;have:=zO (call:=call) (aR:=aR) (fun v H' q=>aeK h HL q) he;have aL:(parts.toList.map fun(i,x)=>(i,dz tmps x)).toArray=parts.map fun(i,x)=>(i,dz tmps x):=by apply tf;simp
   rw[aL] at this;simpa[execOp,ar] using this
 |store t a x=>
  rw[ar] at he;have he:Ci P ⟨call,aR,S,H,o⟩ t (bj S.T H a) (bj S.T H x)=some r:=he;cases a1:bj S.T H a with
  |none=>rw[a1] at he;cases he
  |some p=>
   cases U:bj S.T H x with
   |none=>rw[a1,U] at he;cases he
   |some v=>
    rw[a1,U] at he;have:=ama (call:=call) (aR:=aR) (fun H' q=>ae6 h (d' a p a1) (d' x v U) q) he;simpa[execOp,ar] using this
 |nilCheck x=>
  rw[ar] at he;have he:Ch P ⟨call,aR,S,H,o⟩ (bj S.T H x)=some r:=he;cases U:bj S.T H x with
  |none=>rw[U] at he;cases he
  |some v=>
   rw[U] at he;have aw:=d' x v U;cases v with
   |pointer a=>
    cases a with
    |none=>cases he
    |some a=>
     obtain⟨id,off,L,rfl,bS,ay⟩:=aw.pf;exact w1 h he (v':=dz tmps x) (by simp[execOp,ar,ay]) aw
   |func fn a b=>
    cases fn with
    |func f=>
     rcases aw.GZ with⟨bV,b',ay,_⟩|⟨l,L,q,_⟩
     ·exact w1 h he (v':=dz tmps x) (by simp[execOp,ar,ay]) aw
     ·cases q
    |_=>cases he
   |iface t v=>
    obtain⟨dR,ay,_⟩:=aw.xX;exact w1 h he (v':=dz tmps x) (by simp[execOp,ar,ay]) aw
   |_=>cases he
 |unOp op t x=>
  rw[ar] at he;exact GQ h aB (fun cs b q=>by rw[ar] at q;cases q) he
 |makeInterface t x=>
  rw[ar] at he;have he:Cg P ⟨call,aR,S,H,o⟩ t (bj S.T H x) (P.underlying t)=some r:=he;cases U:bj S.T H x with
  |none=>rw[U] at he;cases P.underlying t<;>cases he
  |some v=>
   cases hu:P.underlying t with
   |none=>rw[U,hu] at he;cases he
   |some d=>
    rw[U,hu] at he;have VV:P.concrete t=true/\some (cL.val (.iface t v) H)=some r:=by
     cases d<;>first|(cases he;done)|exact⟨by simp[Program.concrete,hu],he⟩
    exact w1 h VV.2 (by simp[execOp,ar,run_makeInterface w t _ VV.1]) (.iface t v _ (d' x v U))
 |makeFunc fn first captured=>
  rw[ar] at he;have he:Cf P ⟨call,aR,S,H,o⟩ fn (eI S.T H first.toList) (eI S.T H captured.toList)=some r:=he;cases aa:eI S.T H first.toList with
  |none=>rw[aa] at he;cases he
  |some a=>
   cases ae:eI S.T H captured.toList with
   |none=>rw[aa,ae] at he;cases he
   |some b=>
    rw[aa,ae] at he;have cN:=IS h aB aa;have dW:=IS h aB ae;have uj:x9 fn=true/\some (cL.val (.func fn a.toArray b.toArray) H)=some r:=by
     cases fn<;>first|(cases he;done)|exact⟨rfl,he⟩
    refine w1 h uj.2 (v':=.func fn (first.map (dz tmps)) (captured.map (dz tmps))) (by simp[execOp,ar,Instr.makeFunc]) ?_;exact .func _ _ _ _ _ uj.1 (by simpa using cN.1) (by simpa using dW.1) (fun i v v' q du=>cN.2 i v v' (by simpa using q) (by simpa using du)) (fun i v v' q du=>dW.2 i v v' (by simpa using q) (by simpa using du))
 |makeMap t nr=>rw[ar] at he;cases he
 |makeSlice t l c=>
  rw[ar] at he;have he:IP P ⟨call,aR,S,H,o⟩ t (bj S.T H l) (bj S.T H c)=some r:=he;cases aa:bj S.T H l with
  |none=>rw[aa] at he;cases he
  |some lv=>
   cases ae:bj S.T H c with
   |none=>rw[aa,ae] at he;cases he
   |some gJ=>
    rw[aa,ae] at he;have:=zO (call:=call) (aR:=aR) (fun v H' q=>aeY h (d' l lv aa) (d' c gJ ae) q) he;simpa[execOp,ar] using this
 |slice t x cm ao qA=>
  rw[ar] at he;cases qA with
  |some m=>cases he
  |none=>
   have he:qD P ⟨call,aR,S,H,o⟩ t (bj S.T H x) (jQ S.T H cm) (jQ S.T H ao)=some r:=he;cases aa:bj S.T H x with
   |none=>rw[aa] at he;cases he
   |some CP=>
    cases ae:jQ S.T H cm with
    |none=>rw[aa,ae] at he;cases he
    |some XC=>
     cases aF:jQ S.T H ao with
     |none=>rw[aa,ae,aF] at he;cases he
     |some Ef=>
      rw[aa,ae,aF] at he;have he:orElse (fZ (oS P H t CP XC Ef) H) (gm P S.T H o)=some r:=he;cases ay:fZ (oS P H t CP XC Ef) H with
      |none=>rw[ay] at he;exact GQ h aB (fun cs b q=>by rw[ar] at q;cases q) he
      |some dx=>
       rw[ay] at he;have he:some dx=some r:=he;injection he with he;subst he
       have:=pQ (call:=call) (aR:=aR) h (fun v q=>ae5 h (d' x CP aa) (Yj h aB ae) (Yj h aB aF) q) ay;simpa[execOp,ar] using this
 |fieldAddr s x f=>
  rw[ar] at he;have he:Cd P ⟨call,aR,S,H,o⟩ s f (bj S.T H x)=some r:=he;cases U:bj S.T H x with
  |none=>rw[U] at he;cases he
  |some p=>
   rw[U] at he;have:=pQ (call:=call) (aR:=aR) h (fun v q=>aeT (d' x p U) q w) he;simpa[execOp,ar] using this
 |indexAddr t x aW=>
  rw[ar] at he;have he:zN P ⟨call,aR,S,H,o⟩ t (bj S.T H x) (bj S.T H aW)=some r:=he;cases aa:bj S.T H x with
  |none=>rw[aa] at he;cases he
  |some CP=>
   cases ae:bj S.T H aW with
   |none=>rw[aa,ae] at he;cases he
   |some e'=>
    rw[aa,ae] at he;have:=pQ (call:=call) (aR:=aR) h (fun v q=>aeU (d' x CP aa) (d' aW e' ae) q w) he;simpa[execOp,ar] using this
 |lookup t x k ok=>rw[ar] at he;cases he
 |mapUpdate t m k x=>rw[ar] at he;cases he
 |insert t m k x=>rw[ar] at he;cases he
 |typeAssert x xt asserted ok=>
  rw[ar] at he;have he:zQ P ⟨call,aR,S,H,o⟩ asserted ok (bj S.T H x)=some r:=he;cases U:bj S.T H x with
  |none=>rw[U] at he;cases he
  |some v=>
   rw[U] at he;have:=pQ (call:=call) (aR:=aR) h (fun u q=>afc (xt:=xt) (d' x v U) q w) he;simpa[execOp,ar] using this
 |extract t aW=>
  rw[ar] at he;have he:Cc P ⟨call,aR,S,H,o⟩ aW (bj S.T H t)=some r:=he;cases U:bj S.T H t with
  |none=>rw[U] at he;cases he
  |some v=>
   rw[U] at he;cases v with
   |tuple vs=>
    obtain⟨bV,ay,av⟩:=(d' t _ U).ao2;have he:fZ (nth vs.toList aW) H=some r:=he;have:=pQ (call:=call) (aR:=aR) (s:=Instr.extract (dz tmps t) aW) h (fun v q=>by
     rw[kE] at q;obtain⟨v',bb,a7⟩:=av.get q;refine⟨v',?_,a7⟩;have bb:bV[aW]?=some v':=by simpa using bb
     simp[Instr.extract,ay,bb]) he
    simpa[execOp,ar] using this
   |_=>cases he
 |panic x=>
  rw[ar] at he;have he:IQ P ⟨call,aR,S,H,o⟩ (bj S.T H x)=some r:=he;cases U:bj S.T H x with
  |none=>rw[U] at he;cases he
  |some v=>
   rw[U] at he;cases v with
   |iface t v=>
    obtain⟨dR,ay,aw⟩:=(d' x _ U).xX;have he:some (cL.iO [{v:=.iface t v,recovered:=false}] H)=some r:=he;injection he with he;subst he
    refine .inl ⟨.iface t v,.iface t dR,rfl,rfl,?_,.iface t v dR aw⟩;simp[execOp,ar,ay,Instr.panic,goPanic,Sem.run]
   |_=>cases he
 |call c=>
  rw[ar] at he;have he:kU P ⟨call,aR,S,H,o⟩ c=some r:=he;unfold kU at he;cases nc:c.callee with
  |builtin b=>
   rw[nc] at he;exact aeM h aB ar nc he
  |value f=>
   rw[nc] at he;exact UN h aB ar (fun b q=>by rw[nc] at q;cases q) he
  |invoke au2 ID=>
   rw[nc] at he;exact UN h aB ar (fun b q=>by rw[nc] at q;cases q) he
 |defer c=>
  rw[ar] at he;have he:wm P ⟨call,aR,S,H,o⟩ c=some r:=he;unfold wm at he;cases aw:S.cK with
  |some l=>simp only[aw] at he;cases he
  |none=>simp only[aw] at he;exact aeP h aB ar he
 |field t x f=>
  rw[ar] at he;have he:EW P ⟨call,aR,S,H,o⟩ f (bj S.T H x) (P.underlying t)=some r:=he;cases U:bj S.T H x with
  |none=>rw[U] at he;cases he
  |some v=>
   rw[U] at he;cases v with
   |agg cs=>
    obtain⟨bV,ay,av⟩:=(d' x _ U).S';cases hu:P.underlying t with
    |none=>rw[hu] at he;cases he
    |some d=>
     rw[hu] at he;cases d with
     |struct fields=>
      have he:(match fields[f]? with|some f=>fZ (mX P f.type cs.toList f.offset) H|none=>none)=some r:=he
      cases aD:fields[f]? with
      |none=>rw[aD] at he;cases he
      |some fd=>
       rw[aD] at he;have:=pQ (call:=call) (aR:=aR) (s:=Instr.field t (dz tmps x) f) h (fun v q=>by
        obtain⟨v',bb,a7⟩:=UT av q w;refine⟨v',?_,a7⟩;have bb:(part fd.type bV fd.offset).run P w=.ok v' w:=by simpa using bb
        simp[Instr.field,e1 hu,aD,ay,asAgg,bb]) he
       simpa[execOp,ar] using this
     |_=>cases he
   |_=>cases he
 |index t x aW=>
  rw[ar] at he;have he:zM P ⟨call,aR,S,H,o⟩ (bj S.T H x) (bj S.T H aW) (P.underlying t)=some r:=he;cases U:bj S.T H x with
  |none=>rw[U] at he;cases he
  |some v=>
   cases ao:bj S.T H aW with
   |none=>rw[U,ao] at he;cases v<;>cases he
   |some e'=>
    rw[U,ao] at he;have v8:=d' x v U;have V6:=d' aW e' ao;cases v with
    |agg cs=>
     obtain⟨bV,ay,av⟩:=v8.S';cases e' with
     |int k i=>
      have Ef:=V6.qx;cases hu:P.underlying t with
      |none=>rw[hu] at he;cases he
      |some d=>
       rw[hu] at he;cases d with
       |array len elem=>
        have oc:(match uv i len,ef P elem with|some n,some sz=>fZ (mX P elem cs.toList (n*sz)) H|_,_=>none)=some r:=he
        cases aP:uv i len with
        |none=>rw[aP] at oc;cases oc
        |some m=>
         rw[aP] at oc;cases hs:ef P elem with
         |none=>rw[hs] at oc;cases oc
         |some sz=>
          rw[hs] at oc;obtain⟨rfl,cV⟩:=Qu aP;have:=pQ (call:=call) (aR:=aR) (s:=Instr.index t (dz tmps x) (dz tmps aW)) h (fun v q=>by
           obtain⟨v',bb,a7⟩:=UT av q w;refine⟨v',?_,a7⟩;have bb:(part elem bV (m*sz)).run P w=.ok v' w:=by simpa using bb
           simp[Instr.index,Ef,asIntOf,e1 hu,ay,cV,kG hs,bb]) oc
          simpa[execOp,ar] using this
       |_=>cases he
     |_=>cases he
    |string s=>
     have ay:=v8.Jb;cases e' with
     |int k i=>
      have Ef:=V6.qx;cases hu:P.underlying t with
      |none=>rw[hu] at he;cases he
      |some d=>
       rw[hu] at he;cases d with
       |string=>
        cases i with
        |negSucc m=>cases he
        |ofNat m=>
         have he:(match nth s.data.toList m with|some b=>rp (.ofNat b.toNat) (pT H .u8)|none=>none)=some r:=he
         cases ap:nth s.data.toList m with
         |none=>rw[ap] at he;cases he
         |some b=>
          rw[ap] at he;have he:rp (.ofNat b.toNat) (pT H .u8)=some r:=he;rw[tM] at he;have HU:s[m]?=some b:=by
           rw[kE] at ap;have cV:m<s.size:=by have:=(dY.1 ap).1;simpa using this
           rw[getElem?_pos s m cV];have ae:s.data[m]?=some b:=by simpa using ap
           rw[CT cV] at ae;injection ae with ae;rw[<-ae];rfl
          refine w1 h he (v':=.int .u8 b.toNat) ?_ (.atom _ rfl);simp[execOp,ar,Instr.index,Ef,asIntOf,e1 hu,ay,HU]
       |_=>cases he
     |_=>cases he
    |_=>cases he
 |convert src dst x=>
  rw[ar] at he;have dE:gm P S.T H o=some r->nZ P B w0 call aR μ H w (execOp (dz tmps) o) r:=GQ h aB (fun cs b q=>by rw[ar] at q;cases q);have he:rZ P ⟨call,aR,S,H,o⟩ src dst (bj S.T H x)=some r:=he;cases U:bj S.T H x with
  |none=>rw[U] at he;cases he
  |some v=>
   rw[U] at he;have v8:=d' x v U;cases v with
   |string s=>
    have he:orElse (mq (sC P H src dst s)) (gm P S.T H o)=some r:=he;cases ay:sC P H src dst s with
    |none=>rw[ay] at he;exact dE he
    |some p=>
     have he:mq (sC P H src dst s)=some r:=by rw[ay] at he ⊢;obtain⟨a,b⟩:=p;exact he
     have:=zO (call:=call) (aR:=aR) (fun v H' q=>ae9 h q) he;simpa[execOp,ar,v8.Jb] using this
   |pointer a=>
    cases a with
    |none=>exact dE he
    |some a=>
     have:=pQ (call:=call) (aR:=aR) h (fun v q=>aeN h v8 q) he;simpa[execOp,ar] using this
   |slice a l c=>
    have:=pQ (call:=call) (aR:=aR) h (fun v q=>afb h v8 (ae' q)) he;simpa[execOp,ar] using this
   |int k i=>
    have he:(match P.underlying src,P.underlying dst with|some _,some (.int k)=>rp (Ai k i) (pT H k)|_,_=>gm P S.T H o)=some r:=he
    cases hs:P.underlying src with
    |none=>rw[hs] at he;exact dE he
    |some ds=>
    cases aV:P.underlying dst with
    |none=>rw[hs,aV] at he;exact dE he
    |some d=>
     rw[hs,aV] at he;cases d with
     |int ft=>
      have he:rp (Ai ft i) (pT H ft)=some r:=he;rw[tM,Fq] at he;refine w1 h he (v':=.int ft (ft.wrap i)) ?_ (.atom _ rfl);simp[execOp,ar,v8.qx,convert,e1 hs,e1 aV,Conv.intToInt]
     |_=>exact dE he
   |_=>exact dE he
 |binOp op t x y MI=>
  rw[ar] at he;have dE:gm P S.T H o=some r->nZ P B w0 call aR μ H w (execOp (dz tmps) o) r:=GQ h aB (fun cs b q=>by rw[ar] at q;cases q);have he:pd P ⟨call,aR,S,H,o⟩ op t (bj S.T H x) (bj S.T H y)=some r:=he;cases U:bj S.T H x with
  |none=>rw[U] at he;cases he
  |some a=>
   cases ai:bj S.T H y with
   |none=>rw[U,ai] at he;cases a<;>cases he
   |some b=>
    rw[U,ai] at he;have v8:=d' x a U;have W3:=d' y b ai;have z7:uD P ⟨call,aR,S,H,o⟩ op t a b=some r->nZ P B w0 call aR μ H w (execOp (dz tmps) o) r:=by
     intro he;have he:orElse (gm P S.T H o) (wk P ⟨call,aR,S,H,o⟩ t a b op)=some r:=he;cases au:gm P S.T H o with
     |some dx=>
      rw[au] at he;have he:some dx=some r:=he;injection he with he;subst he
      exact dE au
     |none=>
      rw[au] at he;have he:wk P ⟨call,aR,S,H,o⟩ t a b op=some r:=he;cases c8:vx P t a b with
      |none=>
       unfold wk at he;simp only[c8] at he;cases op<;>cases he
      |some yf=>
       obtain⟨aL,bk,cG⟩:=aeA (x:=x) (y:=y) v8 W3 c8 w;unfold wk at he;simp only[c8] at he;cases op with
       |eql=>exact w1 h he (v':=.bool yf) (by simp[execOp,ar,aL .eql,bk]) (.atom _ rfl)
       |neq=>exact w1 h he (v':=.bool (!yf)) (by simp[execOp,ar,aL .neq,cG]) (.atom _ rfl)
       |_=>cases he
    cases a with
    |int k i=>
     cases b with
     |int l j=>
      have oc:(bif uw k l then nj H k i j (gm P S.T H o) op else uD P ⟨call,aR,S,H,o⟩ op t (.int k i) (.int l j))=some r:=he;cases aO:uw k l with
      |false=>rw[aO,dT] at oc;exact z7 oc
      |true=>
       rw[aO,b7] at oc;have:=Xp aO;subst this;exact akq h v8.qx W3.qx ⟨MI,ar⟩ dE oc
     |_=>exact z7 he
    |_=>exact z7 (by cases b<;>exact he)
 |ready g=>rw[ar] at he;cases he
 |waits g=>rw[ar] at he;cases he
 |sliceToArrayPointer d x=>rw[ar] at he;cases he
 |makeChan t s=>rw[ar] at he;cases he
 |mapEntry t m k=>rw[ar] at he;cases he
 |entryStore t m s x=>rw[ar] at he;cases he
 |range t x=>rw[ar] at he;cases he
 |next it b=>rw[ar] at he;cases he
 |entry it=>rw[ar] at he;cases he
 |go c=>rw[ar] at he;cases he
 |send a b=>rw[ar] at he;cases he
 |recv a b c=>rw[ar] at he;cases he
 |select a b=>rw[ar] at he;cases he
end
end
end Go.Cre
namespace Go.Cre
noncomputable section
open Go.RowKit
def ck(fr:Frame)(tmps:Array Value)(ds:List Deferred)(todo:List Item):Frame:={fr with tmps:=tmps,todo:=todo,defers:=ds,mode:=.run}
section
variable {P:Program}{fr:Frame}{tmps:Array Value}{ds:List Deferred}{k:List Item}{cs:List Frame}{w:World}
theorem UY(todo:List Item):(ck fr tmps ds todo).eval=dz tmps:=by
 funext x;cases x<;>rfl
theorem aoA:step P (lone (ck fr tmps ds (.code .skip::k)) cs w)=.next (lone (ck fr tmps ds k) cs w):=step_lone_go (by simp[stepG,stepG.exec,ck])
theorem aou{l:Nat}:step P (lone (ck fr tmps ds (.code (.label l)::k)) cs w)=.next (lone (ck fr tmps ds k) cs w):=step_lone_go (by simp[stepG,stepG.exec,ck])
theorem aos{id:Nat}:step P (lone (ck fr tmps ds (.inBlock id::k)) cs w)=.next (lone (ck fr tmps ds k) cs w):=step_lone_go (by simp[stepG,stepG.exec,ck])
theorem aot{c:Code}:step P (lone (ck fr tmps ds (.inScope c::k)) cs w)=.next (lone (ck fr tmps ds k) cs w):=step_lone_go (by simp[stepG,stepG.exec,ck])
theorem RI{x y:Code}:step P (lone (ck fr tmps ds (.code (.seq x y)::k)) cs w)=.next (lone (ck fr tmps ds (.code x::.code y::k)) cs w):=step_lone_go (by simp[stepG,stepG.exec,ck])
theorem ZB{c:Operand}{x y:Code}{t:Bool}(h:dz tmps c=.bool t):step P (lone (ck fr tmps ds (.code (.cond c x y)::k)) cs w)=.next (lone (ck fr tmps ds (.code (if t then x else y)::k)) cs w):=
 step_lone_go (by
  have he:=congrFun (UY (fr:=fr) (tmps:=tmps) (ds:=ds) (.code (.cond c x y)::k)) c;rw[h] at he;simp only[ck] at he;simp[stepG,stepG.exec,ck,he])
theorem aon{id:Nat}{c:Code}:step P (lone (ck fr tmps ds (.code (.block id c)::k)) cs w)=.next (lone (ck fr tmps ds (.code c::.inBlock id::k)) cs w):=step_lone_go (by simp[stepG,stepG.exec,ck])
theorem aoz{c:Code}:step P (lone (ck fr tmps ds (.code (.scope c)::k)) cs w)=.next (lone (ck fr tmps ds (.code c::.inScope c::k)) cs w):=step_lone_go (by simp[stepG,stepG.exec,ck])
theorem ZE{c:Code}:step P (lone (ck fr tmps ds (.code (.loop c)::k)) cs w)=.next (lone (ck fr tmps ds (.code c::.inLoop c::k)) cs w):=step_lone_go (by simp[stepG,stepG.exec,ck])
theorem ZD{c:Code}:step P (lone (ck fr tmps ds (.inLoop c::k)) cs w)=.next (lone (ck fr tmps ds (.code c::.inLoop c::k)) cs w):=step_lone_go (by simp[stepG,stepG.exec,ck])
theorem aor{id:Nat}{ft:List Item}(h:exitTo id k=some ft):step P (lone (ck fr tmps ds (.code (.exit id)::k)) cs w)=.next (lone (ck fr tmps ds ft) cs w):=step_lone_go (by simp[stepG,stepG.exec,ck,h])
theorem ZF{id:Nat}{ops:Array Oper}:step P (lone (ck fr tmps ds (.code (.region id ops false)::k)) cs w)=.next (lone (ck fr tmps ds (.inRegion ops (List.range ops.size)::k)) cs w):=step_lone_go (by simp[stepG,stepG.exec,ck])
theorem RH{ops:Array Oper}:step P (lone (ck fr tmps ds (.inRegion ops []::k)) cs w)=.next (lone (ck fr tmps ds k) cs w):=step_lone_go (by simp[stepG,stepG.exec,ck])
theorem aop{id:Nat}{ops:Array Oper}:step P (lone (ck fr tmps ds (.code (.region id ops true)::k)) cs w)=
 .next (lone (ck fr tmps ds (.inRegion ops (Region.schedule (P.follows .mixedOrders) ops (w.tape w.drawn (.order fr.fn id)))::k)) cs {w with drawn:=w.drawn+1}):=
 step_lone_go (by simp[stepG,stepG.exec,ck,choose,Sem.run,Question.forced,Question.cut])
def uF(tmps:Array Value)(dst:Option Tmp)(v:Value):Array Value:=match dst with|some d=>tmps.setIfInBounds d v|none=>tmps
theorem A1{ops:Array Oper}{i:Nat}{rest:List Nat}{o:Oper}(ar:ops[i]?=some o)(v:Value):(ck fr tmps ds (.inRegion ops (i::rest)::k)).finish v=ck fr (uF tmps o.dst v) ds (.inRegion ops rest::k):=by
 simp only[Frame.finish,ck,ar,SS,uF];cases o.dst<;>rfl
theorem aoC{ops:Array Oper}{i:Nat}{rest:List Nat}{o:Oper}(ar:ops[i]?=some o)(hw:Region.wanted o (yielded ops tmps)=false):
 step P (lone (ck fr tmps ds (.inRegion ops (i::rest)::k)) cs w)=.next (lone (ck fr (uF tmps o.dst undef) ds (.inRegion ops rest::k)) cs w):=by
 rw[<-A1 ar];exact step_lone_go (by simp[stepG,stepG.exec,ck,ar,hw])
theorem Cv{ops:Array Oper}{i:Nat}{rest:List Nat}{o:Oper}(ar:ops[i]?=some o)(hw:Region.wanted o (yielded ops tmps)=true)(dM:fr.roundOf=none\/∀c,o.op≠.defer c):
 stepG P true {frame:=ck fr tmps ds (.inRegion ops (i::rest)::k),callers:=cs,status:=.running,dying:=none} w=
  stepG.apply P true (ck fr tmps ds (.inRegion ops (i::rest)::k)) cs none (execOp (dz tmps) o) w:=by
 have he:=UY (fr:=fr) (tmps:=tmps) (ds:=ds) (.inRegion ops (i::rest)::k);simp only[ck] at he;simp only[stepG,stepG.exec,stepG.oper,Frame.oper?,ck,ar,hw,he,FN,SU,EB];rcases dM with h|h
 ·rw[h]
 ·cases aw:fr.roundOf with
  |none=>rfl
  |some l=>
   cases d':o.op with
   |defer c=>exact absurd d' (h c)
   |_=>rfl
theorem RJ{ops:Array Oper}{i:Nat}{rest:List Nat}{o:Oper}{v:Value}{br:World}(ar:ops[i]?=some o)(hw:Region.wanted o (yielded ops tmps)=true)(dM:fr.roundOf=none\/∀c,o.op≠.defer c)
 (aw:(execOp (dz tmps) o).run P w=.ok (.value v) br):
 step P (lone (ck fr tmps ds (.inRegion ops (i::rest)::k)) cs w)=.next (lone (ck fr (uF tmps o.dst v) ds (.inRegion ops rest::k)) cs br):=by
 rw[<-A1 ar];exact step_lone_go (by rw[Cv ar hw dM];simp[stepG.apply,aw])
theorem aoB{ops:Array Oper}{i:Nat}{rest:List Nat}{o:Oper}{br:World}(ar:ops[i]?=some o)(hw:Region.wanted o (yielded ops tmps)=true)(dM:fr.roundOf=none\/∀c,o.op≠.defer c)
 (aw:(execOp (dz tmps) o).run P w=.ok .skip br):
 step P (lone (ck fr tmps ds (.inRegion ops (i::rest)::k)) cs w)=.next (lone (ck fr (uF tmps o.dst undef) ds (.inRegion ops rest::k)) cs br):=by
 rw[<-A1 ar];exact step_lone_go (by rw[Cv ar hw dM];simp[stepG.apply,aw])
theorem aov{ops:Array Oper}{i:Nat}{rest:List Nat}{o:Oper}{v:Value}{br:World}(ar:ops[i]?=some o)(hw:Region.wanted o (yielded ops tmps)=true)(dM:fr.roundOf=none\/∀c,o.op≠.defer c)
 (aw:(execOp (dz tmps) o).run P w=.halt (.panic v) br):
 step P (lone (ck fr tmps ds (.inRegion ops (i::rest)::k)) cs w)=.next (lone {ck fr tmps ds (.inRegion ops (i::rest)::k) with mode:=.panicking [{v,recovered:=false}]} cs br):=
 step_lone_go (by rw[Cv ar hw dM];simp[stepG.apply,aw,Frame.raise,ck])
theorem aoo{ops:Array Oper}{i:Nat}{rest:List Nat}{o:Oper}{d:Deferred}{br:World}(ar:ops[i]?=some o)(hw:Region.wanted o (yielded ops tmps)=true)(dM:fr.roundOf=none)
 (aw:(execOp (dz tmps) o).run P w=.ok (.defer d) br):
 step P (lone (ck fr tmps ds (.inRegion ops (i::rest)::k)) cs w)=.next (lone (ck fr (uF tmps o.dst undef) (d::ds) (.inRegion ops rest::k)) cs br):=by
 have aD:({ck fr tmps ds (.inRegion ops (i::rest)::k) with defers:=d::ds}:Frame).finish undef=ck fr (uF tmps o.dst undef) (d::ds) (.inRegion ops rest::k):=
  A1 (fr:=fr) (tmps:=tmps) (ds:=d::ds) (k:=k) (rest:=rest) ar undef
 refine step_lone_go ?_;rw[Cv ar hw (.inl dM)];simp only[stepG.apply,Sem.runT_eq,aw,GStep.bare_after,EB];exact cD (fun f=>GStep.go {frame:=f,callers:=cs,status:=.running,dying:=none} br) aD
theorem ZC{ops:Array Oper}{i:Nat}{rest:List Nat}{o:Oper}{f:FuncId}{args:Array Value}{br:World}(ar:ops[i]?=some o)(hw:Region.wanted o (yielded ops tmps)=true)(dM:fr.roundOf=none\/∀c,o.op≠.defer c)
 (aw:(execOp (dz tmps) o).run P w=.ok (.enter f args) br):
 step P (lone (ck fr tmps ds (.inRegion ops (i::rest)::k)) cs w)=.next (lone (Frame.enter P f args .normal) (ck fr tmps ds (.inRegion ops (i::rest)::k)::cs) br):=
 step_lone_go (by rw[Cv ar hw dM];simp[stepG.apply,aw,ck])
theorem aoy{ops:Array Oper}{i:Nat}{rest:List Nat}{o:Oper}{l:Nat}{f:FuncId}{Fj:Array Value}{a b:Code}{br:World}(ar:ops[i]?=some o)(hw:Region.wanted o (yielded ops tmps)=true)(dM:fr.roundOf=none\/∀c,o.op≠.defer c)
 (aw:(execOp (dz tmps) o).run P w=.ok (.round l f Fj a b) br):
 step P (lone (ck fr tmps ds (.inRegion ops (i::rest)::k)) cs w)=.next (lone (Frame.round l f Fj a b .normal) (ck fr tmps ds (.inRegion ops (i::rest)::k)::cs) br):=
 step_lone_go (by rw[Cv ar hw dM];simp[stepG.apply,aw])
end
end
end Go.Cre
