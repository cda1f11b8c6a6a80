/- A part of the proof of ResumeBack. -/
import Derived.Test.YtiemfjdacfioeaaGreatDoorCah
import Derived.Laws.Build
import Derived.Defers
import Derived.Recover
set_option linter.unusedVariables false
set_option linter.unusedSimpArgs false
namespace Go.Cre
noncomputable section
open Go.RowKit
section
variable {P:Program}{B:Nat->Prop}{w0 w:World}{μ:b1}{H H':aB}{n:Nat}{tmps:Array Value}
variable {call:eH}{aR:gR}{o:Oper}{S:bi}
theorem wH(h:ca P B w0 μ H w){s:Sem Next}{v v':Value}{r:cM}(ay:some (cM.val v H)=some r)(iv:s.run P w=.ok (.value v') w)(az:bF μ v v'):nT P B w0 call aR μ H w s r:=by
 injection ay with ay;subst ay
 exact .inl ⟨v',w,μ,iv,h,Step.refl _ _,az⟩
theorem ad4{t:TypeId}{a bY b b':Value}{r:Bool}{x y:Operand}(a':bF μ a bY)(au:bF μ b b')(he:tA P t a b=some r)(w:World):
 (∀op,(eqGuard op t x y bY b').run P w=.ok () w)/\(binOp .eql t bY b').run P w=.ok (.bool r) w/\(binOp .neq t bY b').run P w=.ok (.bool (!r)) w:=by
 have vF:(Op.equal t bY b').run P w=.ok r w:=aek a' au he 9999 w;unfold tA at he;cases hu:P.underlying t with
 |none=>rw[hu] at he;simp at he
 |some d=>
  rw[hu] at he
  have fin:(∀op,(eqGuard op t x y bY b').run P w=.ok () w)->(binOp .eql t bY b'=(do pure (.bool (<-Op.equal t bY b'))))->(binOp .neq t bY b'=(do pure (.bool (!(<-Op.equal t bY b')))))->
   (∀op,(eqGuard op t x y bY b').run P w=.ok () w)/\(binOp .eql t bY b').run P w=.ok (.bool r) w/\(binOp .neq t bY b').run P w=.ok (.bool (!r)) w:=fun g aN bn=>by
   rw[aN,bn];exact⟨g,by simp[vF],by simp[vF]⟩
  cases a with
  |pointer p=>
   have aC:∃hO,bY=.pointer hO:=by
    cases p with
    |none=>exact⟨_,a'.EM⟩
    |some p=>obtain⟨_,_,_,_,_,q⟩:=a'.o6;exact⟨_,q⟩
   obtain⟨hO,rfl⟩:=aC;cases b with
   |pointer q=>
    have aC:∃dz,b'=.pointer dz:=by
     cases q with
     |none=>exact⟨_,au.EM⟩
     |some q=>obtain⟨_,_,_,_,_,q⟩:=au.o6;exact⟨_,q⟩
    obtain⟨dz,rfl⟩:=aC;exact fin (fun op=>by cases op<;>simp[eqGuard]) rfl rfl
   |_=>cases d<;>cases p<;>cases he
  |slice p l c=>
   have aC:∃hO l' ch,bY=.slice hO l' ch:=by
    cases p with
    |none=>exact⟨_,_,_,a'.uI⟩
    |some p=>obtain⟨_,_,q⟩:=a'.Cl;exact⟨_,_,_,q⟩
   obtain⟨hO,l',ch,rfl⟩:=aC;cases b with
   |slice q ee bw=>
    have aC:∃hO l' ch,b'=.slice hO l' ch:=by
     cases q with
     |none=>exact⟨_,_,_,au.uI⟩
     |some p=>obtain⟨_,_,q⟩:=au.Cl;exact⟨_,_,_,q⟩
    obtain⟨atA,La,aqy,rfl⟩:=aC;exact fin (fun op=>by cases op<;>simp[eqGuard]) rfl rfl
   |_=>cases d<;>cases p<;>cases he
  |map p=>
   have aC:∃hO,bY=.map hO:=by
    cases p with
    |none=>exact⟨_,a'.H8⟩
    |some p=>obtain⟨_,_,q⟩:=a'.H7;exact⟨_,q⟩
   obtain⟨hO,rfl⟩:=aC;cases b with
   |map q=>
    have aC:∃hO,b'=.map hO:=by
     cases q with
     |none=>exact⟨_,au.H8⟩
     |some p=>obtain⟨_,_,q⟩:=au.H7;exact⟨_,q⟩
    obtain⟨dz,rfl⟩:=aC;exact fin (fun op=>by cases op<;>simp[eqGuard]) rfl rfl
   |_=>cases d<;>cases p<;>cases he
  |nilFunc=>
   obtain rfl:=a'.Lk;cases b with
   |func fn u v=>
    have aC:∃f u v,b'=.func f u v:=by
     rcases au.GI with⟨_,_,q,_⟩|⟨_,_,_,_,_,_,q⟩
     ·exact⟨_,_,_,q⟩
     ·exact⟨_,_,_,q⟩
    obtain⟨_,_,_,rfl⟩:=aC;exact fin (fun op=>by cases op<;>simp[eqGuard]) rfl rfl
   |_=>cases d<;>cases he
  |func fn u v=>
   have aC:∃f u v,bY=.func f u v:=by
    rcases a'.GI with⟨_,_,q,_⟩|⟨_,_,_,_,_,_,q⟩
    ·exact⟨_,_,_,q⟩
    ·exact⟨_,_,_,q⟩
   obtain⟨_,_,_,rfl⟩:=aC;cases b with
   |nilFunc=>
    obtain rfl:=au.Lk;exact fin (fun op=>by cases op<;>simp[eqGuard]) rfl rfl
   |_=>cases d<;>cases he
  |nilIface=>
   obtain rfl:=a'.Ij;cases b with
   |iface uL v=>
    obtain⟨_,rfl,_⟩:=au.xJ;exact fin (fun op=>by cases op<;>simp[eqGuard]) rfl rfl
   |_=>cases d<;>cases he
  |iface uL v=>
   obtain⟨_,rfl,_⟩:=a'.xJ;cases b with
   |nilIface=>
    obtain rfl:=au.Ij;exact fin (fun op=>by cases op<;>simp[eqGuard]) rfl rfl
   |_=>cases d<;>cases he
  |_=>cases d<;>cases he
theorem aes(h:ca P B w0 μ H w)(aD:lu μ S.T n tmps){r:cM}(he:cO P call aR S H o=some r):nT P B w0 call aR μ H w (execOp (dA tmps) o) r:=by
 have dW:∀x v,bk S.T H x=some v->bF μ v (dA tmps x):=fun x v q=>vX h aD q;unfold cO fq at he;simp only at he;cases ar:o.op with
 |move x=>
  rw[ar] at he;have he:gp (bk S.T H x) H=some r:=he;have:=pF (call:=call) (aR:=aR) (s:=pure (dA tmps x)) h (fun v q=>⟨_,rfl,dW x v q⟩) he;simpa[execOp,ar] using this
 |assign x=>
  rw[ar] at he;have he:gp (bk S.T H x) H=some r:=he;have:=pF (call:=call) (aR:=aR) (s:=pure (dA tmps x)) h (fun v q=>⟨_,rfl,dW x v q⟩) he;simpa[execOp,ar] using this
 |load t a=>
  rw[ar] at he;have he:B3 P ⟨call,aR,S,H,o⟩ t (bk S.T H a)=some r:=he;cases a':bk S.T H a with
  |none=>rw[a'] at he;cases he
  |some p=>
   rw[a'] at he;have:=pF (call:=call) (aR:=aR) h (fun v q=>aeq h (dW a p a') q) he;simpa[execOp,ar] using this
 |pick c a b=>
  rw[ar] at he;have he:zN P ⟨call,aR,S,H,o⟩ a b (bk S.T H c)=some r:=he;cases aH:bk S.T H c with
  |none=>rw[aH] at he;cases he
  |some gJ=>
   rw[aH] at he;have OG:=dW c gJ aH;cases gJ with
   |bool yL=>
    have tV:=OG.FY;cases yL with
    |true=>
     have he:gp (bk S.T H a) H=some r:=he;have:=pF (call:=call) (aR:=aR) (s:=pure (dA tmps a)) h (fun v q=>⟨_,rfl,dW a v q⟩) he;simpa[execOp,ar,tV,asBool] using this
    |false=>
     have he:gp (bk S.T H b) H=some r:=he;have:=pF (call:=call) (aR:=aR) (s:=pure (dA tmps b)) h (fun v q=>⟨_,rfl,dW b v q⟩) he;simpa[execOp,ar,tV,asBool] using this
   |_=>cases he
 |alloc elem=>
  rw[ar] at he;have he:QE P ⟨call,aR,S,H,o⟩ elem (fw P elem)=some r:=he;cases bN:fw P elem with
  |none=>rw[bN] at he;cases he
  |some z=>
   rw[bN] at he;have he:(bif plain z then mJ (w4 H elem z) else none)=some r:=he;cases aw:plain z with
   |false=>rw[aw] at he;cases he
   |true=>
    rw[aw,cb] at he;have:=zM (call:=call) (aR:=aR) (s:=Instr.alloc elem true (.tuple #[])) (fun v H' q=>by
     obtain⟨bo,a2,a3,a4,a5,dc,cX⟩:=Uh h (qD aw) q;refine⟨bo,a2,a3,?_,a5,dc,cX⟩;simpa[Instr.alloc,Instr.box,yh bN] using a4) he
    simpa[execOp,ar] using this
 |box elem x=>
  rw[ar] at he;have he:Iu P ⟨call,aR,S,H,o⟩ elem (bk S.T H x)=some r:=he;cases U:bk S.T H x with
  |none=>rw[U] at he;cases he
  |some v=>
   rw[U] at he;have:=zM (call:=call) (aR:=aR) (fun v H' q=>Uh h (dW x _ U) q) he;simpa[execOp,ar] using this
 |build t parts=>
  rw[ar] at he;have he:B0 P ⟨call,aR,S,H,o⟩ t (lj S.T H parts.toList)=some r:=he;cases aw:lj S.T H parts.toList with
  |none=>rw[aw] at he;cases he
  |some eG=>
   rw[aw] at he;have Hu:=XZ h aD aw;have:=pF (call:=call) (aR:=aR) h (fun v q=>aee Hu q w) he;have aN:(parts.toList.map fun(i,x)=>(i,dA tmps x)).toArray=parts.map fun(i,x)=>(i,dA tmps x):=by apply s0;simp
   rw[aN] at this;simpa[execOp,ar] using this
 |buildSlice t len parts=>
  rw[ar] at he;have he:Iv P ⟨call,aR,S,H,o⟩ t len (lj S.T H parts.toList)=some r:=he;cases aw:lj S.T H parts.toList with
  |none=>rw[aw] at he;cases he
  |some eG=>
   rw[aw] at he;have Hu:=XZ h aD aw;have:=zM (call:=call) (aR:=aR) (fun v H' q=>aed h Hu q) he;have aN:(parts.toList.map fun(i,x)=>(i,dA tmps x)).toArray=parts.map fun(i,x)=>(i,dA tmps x):=by apply s0;simp
   rw[aN] at this;simpa[execOp,ar] using this
 |store t a x=>
  rw[ar] at he;have he:EI P ⟨call,aR,S,H,o⟩ t (bk S.T H a) (bk S.T H x)=some r:=he;cases a':bk S.T H a with
  |none=>rw[a'] at he;cases he
  |some p=>
   cases U:bk S.T H x with
   |none=>rw[a',U] at he;cases he
   |some v=>
    rw[a',U] at he;have:=aly (call:=call) (aR:=aR) (fun H' q=>aez h (dW a p a') (dW x v U) q) he;simpa[execOp,ar] using this
 |nilCheck x=>
  rw[ar] at he;have he:B6 P ⟨call,aR,S,H,o⟩ (bk S.T H x)=some r:=he;cases U:bk S.T H x with
  |none=>rw[U] at he;cases he
  |some v=>
   rw[U] at he;have ay:=dW x v U;cases v with
   |pointer a=>
    cases a with
    |none=>cases he
    |some a=>
     obtain⟨id,off,L,rfl,bT,az⟩:=ay.o6;exact wH h he (v':=dA tmps x) (by simp[execOp,ar,az]) ay
   |func fn a b=>
    cases fn with
    |func f=>
     rcases ay.GI with⟨bY,b',az,_⟩|⟨l,L,q,_⟩
     ·exact wH h he (v':=dA tmps x) (by simp[execOp,ar,az]) ay
     ·cases q
    |_=>cases he
   |iface t v=>
    obtain⟨dT,az,_⟩:=ay.xJ;exact wH h he (v':=dA tmps x) (by simp[execOp,ar,az]) ay
   |_=>cases he
 |unOp op t x=>
  rw[ar] at he;exact Gx h aD (fun cs b q=>by rw[ar] at q;cases q) he
 |makeInterface t x=>
  rw[ar] at he;have he:B5 P ⟨call,aR,S,H,o⟩ t (bk S.T H x) (P.underlying t)=some r:=he;cases U:bk S.T H x with
  |none=>rw[U] at he;cases P.underlying t<;>cases he
  |some v=>
   cases hu:P.underlying t with
   |none=>rw[U,hu] at he;cases he
   |some d=>
    rw[U,hu] at he;have Vu:P.concrete t=true/\some (cM.val (.iface t v) H)=some r:=by
     cases d<;>first|(cases he;done)|exact⟨by simp[Program.concrete,hu],he⟩
    exact wH h Vu.2 (by simp[execOp,ar,run_makeInterface w t _ Vu.1]) (.iface t v _ (dW x v U))
 |makeFunc fn first captured=>
  rw[ar] at he;have he:B4 P ⟨call,aR,S,H,o⟩ fn (ez S.T H first.toList) (ez S.T H captured.toList)=some r:=he;cases aa:ez S.T H first.toList with
  |none=>rw[aa] at he;cases he
  |some a=>
   cases ae:ez S.T H captured.toList with
   |none=>rw[aa,ae] at he;cases he
   |some b=>
    rw[aa,ae] at he;have cU:=Iy h aD aa;have ee:=Iy h aD ae;have ub:xT fn=true/\some (cM.val (.func fn a.toArray b.toArray) H)=some r:=by
     cases fn<;>first|(cases he;done)|exact⟨rfl,he⟩
    refine wH h ub.2 (v':=.func fn (first.map (dA tmps)) (captured.map (dA tmps))) (by simp[execOp,ar,Instr.makeFunc]) ?_;exact .func _ _ _ _ _ ub.1 (by simpa using cU.1) (by simpa using ee.1) (fun i v v' q dz=>cU.2 i v v' (by simpa using q) (by simpa using dz)) (fun i v v' q dz=>ee.2 i v v' (by simpa using q) (by simpa using dz))
 |makeMap t nk=>rw[ar] at he;cases he
 |makeSlice t l c=>
  rw[ar] at he;have he:Iw P ⟨call,aR,S,H,o⟩ t (bk S.T H l) (bk S.T H c)=some r:=he;cases aa:bk S.T H l with
  |none=>rw[aa] at he;cases he
  |some lv=>
   cases ae:bk S.T H c with
   |none=>rw[aa,ae] at he;cases he
   |some gJ=>
    rw[aa,ae] at he;have:=zM (call:=call) (aR:=aR) (fun v H' q=>aer h (dW l lv aa) (dW c gJ ae) q) he;simpa[execOp,ar] using this
 |slice t x cm ao qx=>
  rw[ar] at he;cases qx with
  |some m=>cases he
  |none=>
   have he:qA P ⟨call,aR,S,H,o⟩ t (bk S.T H x) (jD S.T H cm) (jD S.T H ao)=some r:=he;cases aa:bk S.T H x with
   |none=>rw[aa] at he;cases he
   |some Cz=>
    cases ae:jD S.T H cm with
    |none=>rw[aa,ae] at he;cases he
    |some W'=>
     cases aG:jD S.T H ao with
     |none=>rw[aa,ae,aG] at he;cases he
     |some DZ=>
      rw[aa,ae,aG] at he;have he:orElse (gp (oJ P H t Cz W' DZ) H) (fI P S.T H o)=some r:=he;cases az:gp (oJ P H t Cz W' DZ) H with
      |none=>rw[az] at he;exact Gx h aD (fun cs b q=>by rw[ar] at q;cases q) he
      |some dw=>
       rw[az] at he;have he:some dw=some r:=he;injection he with he;subst he
       have:=pF (call:=call) (aR:=aR) h (fun v q=>aey h (dW x Cz aa) (XU h aD ae) (XU h aD aG) q) az;simpa[execOp,ar] using this
 |fieldAddr s x f=>
  rw[ar] at he;have he:B2 P ⟨call,aR,S,H,o⟩ s f (bk S.T H x)=some r:=he;cases U:bk S.T H x with
  |none=>rw[U] at he;cases he
  |some p=>
   rw[U] at he;have:=pF (call:=call) (aR:=aR) h (fun v q=>aem (dW x p U) q w) he;simpa[execOp,ar] using this
 |indexAddr t x aX=>
  rw[ar] at he;have he:zL P ⟨call,aR,S,H,o⟩ t (bk S.T H x) (bk S.T H aX)=some r:=he;cases aa:bk S.T H x with
  |none=>rw[aa] at he;cases he
  |some Cz=>
   cases ae:bk S.T H aX with
   |none=>rw[aa,ae] at he;cases he
   |some e8=>
    rw[aa,ae] at he;have:=pF (call:=call) (aR:=aR) h (fun v q=>aen (dW x Cz aa) (dW aX e8 ae) q w) he;simpa[execOp,ar] using this
 |lookup t x k ok=>rw[ar] at he;cases he
 |mapUpdate t m k x=>rw[ar] at he;cases he
 |insert t m k x=>rw[ar] at he;cases he
 |typeAssert x xt asserted ok=>
  rw[ar] at he;have he:B7 P ⟨call,aR,S,H,o⟩ asserted ok (bk S.T H x)=some r:=he;cases U:bk S.T H x with
  |none=>rw[U] at he;cases he
  |some v=>
   rw[U] at he;have:=pF (call:=call) (aR:=aR) h (fun u q=>aeG (xt:=xt) (dW x v U) q w) he;simpa[execOp,ar] using this
 |extract t aX=>
  rw[ar] at he;have he:B1 P ⟨call,aR,S,H,o⟩ aX (bk S.T H t)=some r:=he;cases U:bk S.T H t with
  |none=>rw[U] at he;cases he
  |some v=>
   rw[U] at he;cases v with
   |tuple vs=>
    obtain⟨bY,az,av⟩:=(dW t _ U).aol;have he:gp (nth vs.toList aX) H=some r:=he;have:=pF (call:=call) (aR:=aR) (s:=Instr.extract (dA tmps t) aX) h (fun v q=>by
     rw[kR] at q;obtain⟨v',bd,a6⟩:=av.get q;refine⟨v',?_,a6⟩;have bd:bY[aX]?=some v':=by simpa using bd
     simp[Instr.extract,az,bd]) he
    simpa[execOp,ar] using this
   |_=>cases he
 |panic x=>
  rw[ar] at he;have he:Lt P ⟨call,aR,S,H,o⟩ (bk S.T H x)=some r:=he;cases U:bk S.T H x with
  |none=>rw[U] at he;cases he
  |some v=>
   rw[U] at he;cases v with
   |iface t v=>
    obtain⟨dT,az,ay⟩:=(dW x _ U).xJ;have he:some (cM.jE [{v:=.iface t v,recovered:=false}] H)=some r:=he;injection he with he;subst he
    refine .inl ⟨.iface t v,.iface t dT,rfl,rfl,?_,.iface t v dT ay⟩;simp[execOp,ar,az,Instr.panic,goPanic,Sem.run]
   |_=>cases he
 |call c=>
  rw[ar] at he;have he:lI P ⟨call,aR,S,H,o⟩ c=some r:=he;unfold lI at he;cases mY:c.callee with
  |builtin b=>
   rw[mY] at he;exact aef h aD ar mY he
  |value f=>
   rw[mY] at he;exact Ui h aD ar (fun b q=>by rw[mY] at q;cases q) he
  |invoke aua Ik=>
   rw[mY] at he;exact Ui h aD ar (fun b q=>by rw[mY] at q;cases q) he
 |defer c=>
  rw[ar] at he;have he:vW P ⟨call,aR,S,H,o⟩ c=some r:=he;unfold vW at he;cases ay:S.cJ with
  |some l=>simp only[ay] at he;cases he
  |none=>simp only[ay] at he;exact aei h aD ar he
 |field t x f=>
  rw[ar] at he;have he:zJ P ⟨call,aR,S,H,o⟩ f (bk S.T H x) (P.underlying t)=some r:=he;cases U:bk S.T H x with
  |none=>rw[U] at he;cases he
  |some v=>
   rw[U] at he;cases v with
   |agg cs=>
    obtain⟨bY,az,av⟩:=(dW x _ U).SM;cases hu:P.underlying t with
    |none=>rw[hu] at he;cases he
    |some d=>
     rw[hu] at he;cases d with
     |struct fields=>
      have he:(match fields[f]? with|some f=>gp (mo P f.type cs.toList f.offset) H|none=>none)=some r:=he
      cases aC:fields[f]? with
      |none=>rw[aC] at he;cases he
      |some fd=>
       rw[aC] at he;have:=pF (call:=call) (aR:=aR) (s:=Instr.field t (dA tmps x) f) h (fun v q=>by
        obtain⟨v',bd,a6⟩:=Uo av q w;refine⟨v',?_,a6⟩;have bd:(part fd.type bY fd.offset).run P w=.ok v' w:=by simpa using bd
        simp[Instr.field,eY hu,aC,az,asAgg,bd]) he
       simpa[execOp,ar] using this
     |_=>cases he
   |_=>cases he
 |index t x aX=>
  rw[ar] at he;have he:zK P ⟨call,aR,S,H,o⟩ (bk S.T H x) (bk S.T H aX) (P.underlying t)=some r:=he;cases U:bk S.T H x with
  |none=>rw[U] at he;cases he
  |some v=>
   cases ao:bk S.T H aX with
   |none=>rw[U,ao] at he;cases v<;>cases he
   |some e8=>
    rw[U,ao] at he;have vO:=dW x v U;have VH:=dW aX e8 ao;cases v with
    |agg cs=>
     obtain⟨bY,az,av⟩:=vO.SM;cases e8 with
     |int k i=>
      have DZ:=VH.qu;cases hu:P.underlying t with
      |none=>rw[hu] at he;cases he
      |some d=>
       rw[hu] at he;cases d with
       |array len elem=>
        have n6:(match uj i len,ej P elem with|some n,some sz=>gp (mo P elem cs.toList (n*sz)) H|_,_=>none)=some r:=he
        cases aP:uj i len with
        |none=>rw[aP] at n6;cases n6
        |some m=>
         rw[aP] at n6;cases af:ej P elem with
         |none=>rw[af] at n6;cases n6
         |some sz=>
          rw[af] at n6;obtain⟨rfl,c4⟩:=P4 aP;have:=pF (call:=call) (aR:=aR) (s:=Instr.index t (dA tmps x) (dA tmps aX)) h (fun v q=>by
           obtain⟨v',bd,a6⟩:=Uo av q w;refine⟨v',?_,a6⟩;have bd:(part elem bY (m*sz)).run P w=.ok v' w:=by simpa using bd
           simp[Instr.index,DZ,asIntOf,eY hu,az,c4,kC af,bd]) n6
          simpa[execOp,ar] using this
       |_=>cases he
     |_=>cases he
    |string s=>
     have az:=vO.IS;cases e8 with
     |int k i=>
      have DZ:=VH.qu;cases hu:P.underlying t with
      |none=>rw[hu] at he;cases he
      |some d=>
       rw[hu] at he;cases d with
       |string=>
        cases i with
        |negSucc m=>cases he
        |ofNat m=>
         have he:(match nth s.data.toList m with|some b=>q' (.ofNat b.toNat) (pJ H .u8)|none=>none)=some r:=he
         cases au:nth s.data.toList m with
         |none=>rw[au] at he;cases he
         |some b=>
          rw[au] at he;have he:q' (.ofNat b.toNat) (pJ H .u8)=some r:=he;rw[tC] at he;have HF:s[m]?=some b:=by
           rw[kR] at au;have c4:m<s.size:=by have:=(dX.1 au).1;simpa using this
           rw[getElem?_pos s m c4];have ae:s.data[m]?=some b:=by simpa using au
           rw[CD c4] at ae;injection ae with ae;rw[<-ae];rfl
          refine wH h he (v':=.int .u8 b.toNat) ?_ (.atom _ rfl);simp[execOp,ar,Instr.index,DZ,asIntOf,eY hu,az,HF]
       |_=>cases he
     |_=>cases he
    |_=>cases he
 |convert src dst x=>
  rw[ar] at he;have dO:fI P S.T H o=some r->nT P B w0 call aR μ H w (execOp (dA tmps) o) r:=Gx h aD (fun cs b q=>by rw[ar] at q;cases q);have he:uy P ⟨call,aR,S,H,o⟩ src dst (bk S.T H x)=some r:=he;cases U:bk S.T H x with
  |none=>rw[U] at he;cases he
  |some v=>
   rw[U] at he;have vO:=dW x v U;cases v with
   |string s=>
    have he:orElse (mJ (w7 P H src dst s)) (fI P S.T H o)=some r:=he;cases az:w7 P H src dst s with
    |none=>rw[az] at he;exact dO he
    |some p=>
     have he:mJ (w7 P H src dst s)=some r:=by rw[az] at he ⊢;obtain⟨a,b⟩:=p;exact he
     have:=zM (call:=call) (aR:=aR) (fun v H' q=>aeC h q) he;simpa[execOp,ar,vO.IS] using this
   |pointer a=>
    cases a with
    |none=>exact dO he
    |some a=>
     have:=pF (call:=call) (aR:=aR) h (fun v q=>aeg h vO q) he;simpa[execOp,ar] using this
   |slice a l c=>
    have:=pF (call:=call) (aR:=aR) h (fun v q=>aeF h vO (aeD q)) he;simpa[execOp,ar] using this
   |int k i=>
    have he:(match P.underlying src,P.underlying dst with|some _,some (.int k)=>q' (Ah k i) (pJ H k)|_,_=>fI P S.T H o)=some r:=he
    cases af:P.underlying src with
    |none=>rw[af] at he;exact dO he
    |some ds=>
    cases aZ:P.underlying dst with
    |none=>rw[af,aZ] at he;exact dO he
    |some d=>
     rw[af,aZ] at he;cases d with
     |int ft=>
      have he:q' (Ah ft i) (pJ H ft)=some r:=he;rw[tC,Fg] at he;refine wH h he (v':=.int ft (ft.wrap i)) ?_ (.atom _ rfl);simp[execOp,ar,vO.qu,convert,eY af,eY aZ,Conv.intToInt]
     |_=>exact dO he
   |_=>exact dO he
 |binOp op t x y Me=>
  rw[ar] at he;have dO:fI P S.T H o=some r->nT P B w0 call aR μ H w (execOp (dA tmps) o) r:=Gx h aD (fun cs b q=>by rw[ar] at q;cases q);have he:nM P ⟨call,aR,S,H,o⟩ op t (bk S.T H x) (bk S.T H y)=some r:=he;cases U:bk S.T H x with
  |none=>rw[U] at he;cases he
  |some a=>
   cases ai:bk S.T H y with
   |none=>rw[U,ai] at he;cases a<;>cases he
   |some b=>
    rw[U,ai] at he;have vO:=dW x a U;have WC:=dW y b ai;have zZ:ux P ⟨call,aR,S,H,o⟩ op t a b=some r->nT P B w0 call aR μ H w (execOp (dA tmps) o) r:=by
     intro he;have he:orElse (fI P S.T H o) (uw P ⟨call,aR,S,H,o⟩ t a b op)=some r:=he;cases aw:fI P S.T H o with
     |some dw=>
      rw[aw] at he;have he:some dw=some r:=he;injection he with he;subst he
      exact dO aw
     |none=>
      rw[aw] at he;have he:uw P ⟨call,aR,S,H,o⟩ t a b op=some r:=he;cases c7:tA P t a b with
      |none=>
       unfold uw at he;simp only[c7] at he;cases op<;>cases he
      |some uE=>
       obtain⟨aN,bn,cP⟩:=ad4 (x:=x) (y:=y) vO WC c7 w;unfold uw at he;simp only[c7] at he;cases op with
       |eql=>exact wH h he (v':=.bool uE) (by simp[execOp,ar,aN .eql,bn]) (.atom _ rfl)
       |neq=>exact wH h he (v':=.bool (!uE)) (by simp[execOp,ar,aN .neq,cP]) (.atom _ rfl)
       |_=>cases he
    cases a with
    |int k i=>
     cases b with
     |int l j=>
      have n6:(bif uk k l then nd H k i j (fI P S.T H o) op else ux P ⟨call,aR,S,H,o⟩ op t (.int k i) (.int l j))=some r:=he;cases aU:uk k l with
      |false=>rw[aU,dZ] at n6;exact zZ n6
      |true=>
       rw[aU,cb] at n6;have:=WZ aU;subst this;exact ajQ h vO.qu WC.qu ⟨Me,ar⟩ dO n6
     |_=>exact zZ he
    |_=>exact zZ (by cases b<;>exact he)
 |ready g=>rw[ar] at he;cases he
 |waits g=>rw[ar] at he;cases he
 |sliceToArrayPointer d x=>rw[ar] at he;cases he
 |makeChan t s=>rw[ar] at he;cases he
 |mapEntry t m k=>rw[ar] at he;cases he
 |entryStore t m s x=>rw[ar] at he;cases he
 |range t x=>rw[ar] at he;cases he
 |next it b=>rw[ar] at he;cases he
 |entry it=>rw[ar] at he;cases he
 |go c=>rw[ar] at he;cases he
 |send a b=>rw[ar] at he;cases he
 |recv a b c=>rw[ar] at he;cases he
 |select a b=>rw[ar] at he;cases he
end
end
end Go.Cre
namespace Go.Cre
noncomputable section
open Go.RowKit
def cj(fr:Frame)(tmps:Array Value)(ds:List Deferred)(todo:List Item):Frame:={fr with tmps:=tmps,todo:=todo,defers:=ds,mode:=.run}
section
variable {P:Program}{fr:Frame}{tmps:Array Value}{ds:List Deferred}{k:List Item}{cs:List Frame}{w:World}
theorem Ut(todo:List Item):(cj fr tmps ds todo).eval=dA tmps:=by
 funext x;cases x<;>rfl
theorem anX:step P (lone (cj fr tmps ds (.code .skip::k)) cs w)=.next (lone (cj fr tmps ds k) cs w):=step_lone_go (by simp[stepG,stepG.exec,cj])
theorem anR{l:Nat}:step P (lone (cj fr tmps ds (.code (.label l)::k)) cs w)=.next (lone (cj fr tmps ds k) cs w):=step_lone_go (by simp[stepG,stepG.exec,cj])
theorem anP{id:Nat}:step P (lone (cj fr tmps ds (.inBlock id::k)) cs w)=.next (lone (cj fr tmps ds k) cs w):=step_lone_go (by simp[stepG,stepG.exec,cj])
theorem anQ{c:Code}:step P (lone (cj fr tmps ds (.inScope c::k)) cs w)=.next (lone (cj fr tmps ds k) cs w):=step_lone_go (by simp[stepG,stepG.exec,cj])
theorem Ri{x y:Code}:step P (lone (cj fr tmps ds (.code (.seq x y)::k)) cs w)=.next (lone (cj fr tmps ds (.code x::.code y::k)) cs w):=step_lone_go (by simp[stepG,stepG.exec,cj])
theorem Za{c:Operand}{x y:Code}{t:Bool}(h:dA tmps c=.bool t):step P (lone (cj fr tmps ds (.code (.cond c x y)::k)) cs w)=.next (lone (cj fr tmps ds (.code (if t then x else y)::k)) cs w):=
 step_lone_go (by
  have he:=congrFun (Ut (fr:=fr) (tmps:=tmps) (ds:=ds) (.code (.cond c x y)::k)) c;rw[h] at he;simp only[cj] at he;simp[stepG,stepG.exec,cj,he])
theorem anK{id:Nat}{c:Code}:step P (lone (cj fr tmps ds (.code (.block id c)::k)) cs w)=.next (lone (cj fr tmps ds (.code c::.inBlock id::k)) cs w):=step_lone_go (by simp[stepG,stepG.exec,cj])
theorem anW{c:Code}:step P (lone (cj fr tmps ds (.code (.scope c)::k)) cs w)=.next (lone (cj fr tmps ds (.code c::.inScope c::k)) cs w):=step_lone_go (by simp[stepG,stepG.exec,cj])
theorem Zd{c:Code}:step P (lone (cj fr tmps ds (.code (.loop c)::k)) cs w)=.next (lone (cj fr tmps ds (.code c::.inLoop c::k)) cs w):=step_lone_go (by simp[stepG,stepG.exec,cj])
theorem Zc{c:Code}:step P (lone (cj fr tmps ds (.inLoop c::k)) cs w)=.next (lone (cj fr tmps ds (.code c::.inLoop c::k)) cs w):=step_lone_go (by simp[stepG,stepG.exec,cj])
theorem anO{id:Nat}{ft:List Item}(h:exitTo id k=some ft):step P (lone (cj fr tmps ds (.code (.exit id)::k)) cs w)=.next (lone (cj fr tmps ds ft) cs w):=step_lone_go (by simp[stepG,stepG.exec,cj,h])
theorem Ze{id:Nat}{ops:Array Oper}:step P (lone (cj fr tmps ds (.code (.region id ops false)::k)) cs w)=.next (lone (cj fr tmps ds (.inRegion ops (List.range ops.size)::k)) cs w):=step_lone_go (by simp[stepG,stepG.exec,cj])
theorem Rh{ops:Array Oper}:step P (lone (cj fr tmps ds (.inRegion ops []::k)) cs w)=.next (lone (cj fr tmps ds k) cs w):=step_lone_go (by simp[stepG,stepG.exec,cj])
theorem anM{id:Nat}{ops:Array Oper}:step P (lone (cj fr tmps ds (.code (.region id ops true)::k)) cs w)=
 .next (lone (cj fr tmps ds (.inRegion ops (Region.schedule (P.follows .mixedOrders) ops (w.tape w.drawn (.order fr.fn id)))::k)) cs {w with drawn:=w.drawn+1}):=
 step_lone_go (by simp[stepG,stepG.exec,cj,choose,Sem.run,Question.forced,Question.cut])
def uB(tmps:Array Value)(dst:Option Tmp)(v:Value):Array Value:=match dst with|some d=>tmps.setIfInBounds d v|none=>tmps
theorem AU{ops:Array Oper}{i:Nat}{rest:List Nat}{o:Oper}(ar:ops[i]?=some o)(v:Value):(cj fr tmps ds (.inRegion ops (i::rest)::k)).finish v=cj fr (uB tmps o.dst v) ds (.inRegion ops rest::k):=by
 simp only[Frame.finish,cj,ar,St,uB];cases o.dst<;>rfl
theorem anZ{ops:Array Oper}{i:Nat}{rest:List Nat}{o:Oper}(ar:ops[i]?=some o)(hw:Region.wanted o (yielded ops tmps)=false):
 step P (lone (cj fr tmps ds (.inRegion ops (i::rest)::k)) cs w)=.next (lone (cj fr (uB tmps o.dst undef) ds (.inRegion ops rest::k)) cs w):=by
 rw[<-AU ar];exact step_lone_go (by simp[stepG,stepG.exec,cj,ar,hw])
theorem Cj{ops:Array Oper}{i:Nat}{rest:List Nat}{o:Oper}(ar:ops[i]?=some o)(hw:Region.wanted o (yielded ops tmps)=true)(d':fr.roundOf=none\/∀c,o.op≠.defer c):
 stepG P true {frame:=cj fr tmps ds (.inRegion ops (i::rest)::k),callers:=cs,status:=.running,dying:=none} w=
  stepG.apply P true (cj fr tmps ds (.inRegion ops (i::rest)::k)) cs none (execOp (dA tmps) o) w:=by
 have he:=Ut (fr:=fr) (tmps:=tmps) (ds:=ds) (.inRegion ops (i::rest)::k);simp only[cj] at he;simp only[stepG,stepG.exec,stepG.oper,Frame.oper?,cj,ar,hw,he,Fz,Su,Ek];rcases d' with h|h
 ·rw[h]
 ·cases ay:fr.roundOf with
  |none=>rfl
  |some l=>
   cases dW:o.op with
   |defer c=>exact absurd dW (h c)
   |_=>rfl
theorem Rj{ops:Array Oper}{i:Nat}{rest:List Nat}{o:Oper}{v:Value}{bu:World}(ar:ops[i]?=some o)(hw:Region.wanted o (yielded ops tmps)=true)(d':fr.roundOf=none\/∀c,o.op≠.defer c)
 (ay:(execOp (dA tmps) o).run P w=.ok (.value v) bu):
 step P (lone (cj fr tmps ds (.inRegion ops (i::rest)::k)) cs w)=.next (lone (cj fr (uB tmps o.dst v) ds (.inRegion ops rest::k)) cs bu):=by
 rw[<-AU ar];exact step_lone_go (by rw[Cj ar hw d'];simp[stepG.apply,ay])
theorem anY{ops:Array Oper}{i:Nat}{rest:List Nat}{o:Oper}{bu:World}(ar:ops[i]?=some o)(hw:Region.wanted o (yielded ops tmps)=true)(d':fr.roundOf=none\/∀c,o.op≠.defer c)
 (ay:(execOp (dA tmps) o).run P w=.ok .skip bu):
 step P (lone (cj fr tmps ds (.inRegion ops (i::rest)::k)) cs w)=.next (lone (cj fr (uB tmps o.dst undef) ds (.inRegion ops rest::k)) cs bu):=by
 rw[<-AU ar];exact step_lone_go (by rw[Cj ar hw d'];simp[stepG.apply,ay])
theorem anS{ops:Array Oper}{i:Nat}{rest:List Nat}{o:Oper}{v:Value}{bu:World}(ar:ops[i]?=some o)(hw:Region.wanted o (yielded ops tmps)=true)(d':fr.roundOf=none\/∀c,o.op≠.defer c)
 (ay:(execOp (dA tmps) o).run P w=.halt (.panic v) bu):
 step P (lone (cj fr tmps ds (.inRegion ops (i::rest)::k)) cs w)=.next (lone {cj fr tmps ds (.inRegion ops (i::rest)::k) with mode:=.panicking [{v,recovered:=false}]} cs bu):=
 step_lone_go (by rw[Cj ar hw d'];simp[stepG.apply,ay,Frame.raise,cj])
theorem anL{ops:Array Oper}{i:Nat}{rest:List Nat}{o:Oper}{d:Deferred}{bu:World}(ar:ops[i]?=some o)(hw:Region.wanted o (yielded ops tmps)=true)(d':fr.roundOf=none)
 (ay:(execOp (dA tmps) o).run P w=.ok (.defer d) bu):
 step P (lone (cj fr tmps ds (.inRegion ops (i::rest)::k)) cs w)=.next (lone (cj fr (uB tmps o.dst undef) (d::ds) (.inRegion ops rest::k)) cs bu):=by
 have aC:({cj fr tmps ds (.inRegion ops (i::rest)::k) with defers:=d::ds}:Frame).finish undef=cj fr (uB tmps o.dst undef) (d::ds) (.inRegion ops rest::k):=
  AU (fr:=fr) (tmps:=tmps) (ds:=d::ds) (k:=k) (rest:=rest) ar undef
 refine step_lone_go ?_;rw[Cj ar hw (.inl d')];simp only[stepG.apply,Sem.runT_eq,ay,GStep.bare_after,Ek];exact cC (fun f=>GStep.go {frame:=f,callers:=cs,status:=.running,dying:=none} bu) aC
theorem Zb{ops:Array Oper}{i:Nat}{rest:List Nat}{o:Oper}{f:FuncId}{args:Array Value}{bu:World}(ar:ops[i]?=some o)(hw:Region.wanted o (yielded ops tmps)=true)(d':fr.roundOf=none\/∀c,o.op≠.defer c)
 (ay:(execOp (dA tmps) o).run P w=.ok (.enter f args) bu):
 step P (lone (cj fr tmps ds (.inRegion ops (i::rest)::k)) cs w)=.next (lone (Frame.enter P f args .normal) (cj fr tmps ds (.inRegion ops (i::rest)::k)::cs) bu):=
 step_lone_go (by rw[Cj ar hw d'];simp[stepG.apply,ay,cj])
theorem anV{ops:Array Oper}{i:Nat}{rest:List Nat}{o:Oper}{l:Nat}{f:FuncId}{E8:Array Value}{a b:Code}{bu:World}(ar:ops[i]?=some o)(hw:Region.wanted o (yielded ops tmps)=true)(d':fr.roundOf=none\/∀c,o.op≠.defer c)
 (ay:(execOp (dA tmps) o).run P w=.ok (.round l f E8 a b) bu):
 step P (lone (cj fr tmps ds (.inRegion ops (i::rest)::k)) cs w)=.next (lone (Frame.round l f E8 a b .normal) (cj fr tmps ds (.inRegion ops (i::rest)::k)::cs) bu):=
 step_lone_go (by rw[Cj ar hw d'];simp[stepG.apply,ay])
end
end
end Go.Cre
namespace Go.Cre
noncomputable section
open Go.RowKit
def iF(μ:b1)(c ch:List PanicEntry):Prop:=c.length=ch.length/\∀(i:Nat) e bG,c[i]?=some e->ch[i]?=some bG->bG.recovered=e.recovered/\bG.goexit=e.goexit/\bF μ e.v bG.v
def pd(μ:b1):FrameMode->FrameMode->Prop
 |.run,.run=>True
 |.returning,.returning=>True
 |.panicking c,.panicking ch=>iF μ c ch
 |_,_=>False
def Jf(μ:b1)(d k2:Deferred):Prop:=
 (∃fv cap eg,d.target=.fn fv cap/\k2.target=.fn fv eg/\xT fv=true/\b4 μ cap.toList eg.toList/\b4 μ d.args.toList k2.args.toList)\/(∃r L,d.target=.collected r/\μ r=some L/\k2.target=.collected L.r)
inductive yk (μ:b1):List Deferred->List Deferred->Prop
 |nil:yk μ [] []
 |cons (d k2:Deferred) (l l':List Deferred):Jf μ d k2->yk μ l l'->yk μ (d::l) (k2::l')
def Fp(μ:b1):Ending->Ending->Prop
 |.returned v,.returned v'=>bF μ v v'
 |.panicked c,.panicked ch=>iF μ c ch
 |_,_=>False
section
variable {P:Program}{B:Nat->Prop}{w0 w:World}{μ bI:b1}{H H':aB}
theorem iF.mono{c ch:List PanicEntry}(h:iF μ c ch)(e:Ext μ bI):iF bI c ch:=⟨h.1,fun i a b x y=>by obtain⟨p,q,r⟩:=h.2 i a b x y;exact⟨p,q,r.mono e⟩⟩
theorem pd.mono{m m':FrameMode}(h:pd μ m m')(e:Ext μ bI):pd bI m m':=by
 cases m<;>cases m'<;>first|trivial|exact h.elim|exact iF.mono h e
theorem Jf.mono{d k2:Deferred}(h:Jf μ d k2)(e:Ext μ bI):Jf bI d k2:=by
 rcases h with⟨fv,cap,eg,aa,ae,aG,br,eu⟩|⟨r,L,aa,ae,aG⟩
 ·exact .inl ⟨fv,cap,eg,aa,ae,aG,br.mono e,eu.mono e⟩
 ·exact .inr ⟨r,L,aa,e _ _ ae,aG⟩
theorem yk.mono{l l':List Deferred}(h:yk μ l l')(e:Ext μ bI):yk bI l l':=by
 induction h with
 |nil=>exact .nil
 |cons d k2 l l' aZ _ aK=>exact .cons d k2 l l' (aZ.mono e) aK
theorem iF.single{v v':Value}(h:bF μ v v'):iF μ [{v:=v,recovered:=false}] [{v:=v',recovered:=false}]:=
 ⟨rfl,fun i e bG x y=>by
  cases i with
  |zero=>simp at x y;subst x;subst y;exact⟨rfl,rfl,h⟩
  |succ i=>simp at x⟩
structure iO (μ:b1) (S:bi) (fr:Frame) (tmps:Array Value) (ds:List Deferred) (cs:List Frame):Prop where
 t:lu μ S.T S.n tmps
 d:yk μ S.ds ds
 kind:fr.kind=if S.b2 then .deferred else .normal
 zR:S.cJ=none->fr.roundOf=none
 IH:∀l,S.cJ=some l->∃L,μ l=some L/\fr.roundOf=some L.r
 bJ:S.b2=true->∃c rest,cs=c::rest/\pd μ S.bJ c.mode
theorem iO.mono{S:bi}{fr:Frame}{tmps:Array Value}{ds:List Deferred}{cs:List Frame}(h:iO μ S fr tmps ds cs)(e:Ext μ bI):iO bI S fr tmps ds cs:=
 ⟨h.t.mono e,h.d.mono e,h.kind,h.zR,fun l q=>by obtain⟨L,a,b⟩:=h.IH l q;exact⟨L,e _ _ a,b⟩,fun q=>by obtain⟨c,r,a,b⟩:=h.bJ q;exact⟨c,r,a,b.mono e⟩⟩
def kV(d:Bool)(cs cT:List Frame):Prop:=if d then ∃c rest m,cs=c::rest/\cT={c with mode:=m}::rest else cT=cs
theorem kV.refl(d:Bool)(cs:List Frame)(h:d=true->∃c rest,cs=c::rest):kV d cs cs:=by
 cases d with
 |false=>rfl
 |true=>obtain⟨c,rest,rfl⟩:=h rfl;exact⟨c,rest,c.mode,rfl,rfl⟩
theorem kV.trans{d:Bool}{a b c:List Frame}(h:kV d a b)(k:kV d b c):kV d a c:=by
 cases d with
 |false=>exact Eq.trans k h
 |true=>
  obtain⟨x,rest,m,rfl,rfl⟩:=h;obtain⟨y,xZ,m',e,rfl⟩:=k;injection e with aN bn;subst aN;subst bn
  exact⟨x,rest,m',rfl,rfl⟩
def qM(P:Program)(B:Nat->Prop)(w0:World)(call:eH):Prop:=
 ∀f args H e H',call f args H=some (e,H')->∀μ w cz,ca P B w0 μ H w->b4 μ args cz->
  (∃v v' bu bI,e=.returned v/\(callFunc f cz.toArray).run P w=.ok (.value v') bu/\ca P B w0 bI H' bu/\Step μ bI H H'/\bF bI v v')\/
  ((callFunc f cz.toArray).run P w=.ok (.enter f cz.toArray) w/\Calls P f cz.toArray w (fun bG bu=>∃bI,ca P B w0 bI H' bu/\Step μ bI H H'/\Fp bI e bG))
def yz(P:Program)(B:Nat->Prop)(w0:World)(aR:gR):Prop:=
 ∀l args H e H',aR l args H=some (e,H')->∀μ w L cz,ca P B w0 μ H w->μ l=some L->b4 μ args cz->
  ∃v f E8 a b,e=.returned v/\(Instr.yield L.r cz.toArray).run P w=.ok (.round L.r f E8 a b) w/\
   ∀caller cs,∃v' bu bI,ca P B w0 bI H' bu/\Step μ bI H H'/\bF bI v v'/\Steps P (lone (Frame.round L.r f E8 a b .normal) (caller::cs) w) (lone (caller.finish v') cs bu)
theorem UV{ops:Array Oper}{T:bg Value}{n:Nat}{tmps:Array Value}{o:Oper}{b:Bool}(aD:lu μ T n tmps)(he:fj ops.toList T o=some b):Region.wanted o (yielded ops tmps)=b:=by
 unfold fj at he;unfold Region.wanted;cases aq:o.guard with
 |none=>rw[aq] at he;simp at he;exact he.symm▸rfl
 |some p=>
  obtain⟨j,want⟩:=p;rw[aq] at he;have he:vw ops.toList T (j,want)=some b:=he;simp only[vw,kR] at he;simp only[yielded];have ba:ops.toList[j]?=ops[j]?:=by simp
  rw[ba] at he;cases aw:ops[j]? with
  |none=>rw[aw] at he;simp at he;subst he;simp
  |some p=>
   rw[aw] at he;simp only at he;cases aZ:p.dst with
   |none=>rw[aZ] at he;simp at he;subst he;simp[aZ]
   |some d=>
    rw[aZ] at he;simp only at he;cases dy:T.get d with
    |none=>rw[dy] at he;simp at he
    |some v=>
     rw[dy] at he;have az:=aD.2 d v dy;have ec:tmps[d]?=some (tmps.getD d undef)\/(tmps[d]?=none/\tmps.getD d undef=undef):=by
      rcases kY d tmps.size with q|q
      ·left;simp[q]
      ·right;simp[q]
     simp only[St,aZ];have akL:(∀c,v≠.bool c)->v≠.chan none->∀c,tmps.getD d undef≠.bool c:=fun aP hw c q=>by
      rw[q] at az;cases az with
      |atom _ _=>exact aP c rfl
      |yd _ _=>exact hw rfl
     by_cases zm:∃c,v=.bool c
     ·obtain⟨c,rfl⟩:=zm;simp only[cp] at he;subst he;have OU:=az.FY;rcases ec with q|⟨_,q⟩
      ·rw[q,OU];simp
      ·rw[q] at OU;cases OU
     ·have fy:∀c,v≠.bool c:=fun c q=>zm ⟨c,q⟩;have zf:v≠.chan none:=fun q=>by rw[q] at he;cases he
      have au:b=false:=by
       cases v<;>first|(simp only[cp] at he;exact he.symm)|exact absurd ⟨_,rfl⟩ zm|cases he
      subst au;rcases ec with q|⟨q,_⟩
      ·rw[q];have:=akL fy zf;cases U:tmps.getD d undef<;>first|rfl|exact absurd U (this _)
      ·rw[q];rfl
theorem QV{S aS:bi}{fr:Frame}{tmps:Array Value}{ds:List Deferred}{cs:List Frame}{dst:Option Tmp}{v v':Value}(h:iO μ S fr tmps ds cs)(az:bF μ v v')(he:S.put dst v=some aS):
 iO μ aS fr (uB tmps dst v') ds cs/\aS.b2=S.b2/\aS.cJ=S.cJ/\aS.bJ=S.bJ/\aS.ds=S.ds:=by
 cases dst with
 |none=>
  have he:some S=some aS:=he;injection he with he;subst he
  exact⟨h,rfl,rfl,rfl,rfl⟩
 |some d=>
  obtain⟨T,n,h4,b2,bJ,cJ⟩:=S;have he:Bool.rec (motive:=fun _=>Option bi) none (bi.uA n h4 b2 bJ cJ (bg.put v T d)) (Nat.ble (Nat.succ d) n)=some aS:=he;cases au:Nat.ble (Nat.succ d) n with
  |false=>rw[au] at he;cases he
  |true=>
   rw[au] at he;have au:=h3 au;have he:bi.uA n h4 b2 bJ cJ (bg.put v T d)=some aS:=he;cases aw:bg.put v T d with
   |none=>rw[aw] at he;cases he
   |some eS=>
    rw[aw] at he;have he:some (bi.mk eS n h4 b2 bJ cJ)=some aS:=he;injection he with he;subst he
    refine⟨⟨⟨by have:=h.t.1;simpa[uB] using this,fun t u q=>?_⟩,h.d,h.kind,h.zR,h.IH,h.bJ⟩,rfl,rfl,rfl,rfl⟩;have q:eS.get t=some u:=q;rw[bg.get_put aw] at q;have eU:n<=tmps.size:=h.t.1;show bF μ u ((tmps.setIfInBounds d v').getD t undef);by_cases PM:t=d
    ·subst PM;rw[aE rfl] at q;injection q with q;subst q
     have:(tmps.setIfInBounds t v').getD t undef=v':=by
      have:t<tmps.size:=by omega
      simp[this]
     rw[this];exact az
    ·rw[ap PM] at q;have:(tmps.setIfInBounds d v').getD t undef=tmps.getD t undef:=by
      simp[aap (Ne.symm PM)]
     rw[this];exact h.t.2 t u q
def kZ(P:Program)(B:Nat->Prop)(w0:World)(μ:b1)(H:aB)(S:bi)(fr:Frame)(cs:List Frame)(m:Machine)(todo:List Item):dH->Prop
 |.ok aS H'=>∃bI bu gO e5 cT,ca P B w0 bI H' bu/\Step μ bI H H'/\iO bI aS fr gO e5 cT/\kV S.b2 cs cT/\aS.b2=S.b2/\aS.cJ=S.cJ/\Steps P m (lone (cj fr gO e5 todo) cT bu)
 |.jE chain aS H'=>∃bI bu gO e5 cT Ga hv,ca P B w0 bI H' bu/\Step μ bI H H'/\iO bI aS fr gO e5 cT/\kV S.b2 cs cT/\aS.b2=S.b2/\aS.cJ=S.cJ/\iF bI chain Ga/\
  Steps P m (lone {cj fr gO e5 hv with mode:=.panicking Ga} cT bu)
end
end
end Go.Cre
