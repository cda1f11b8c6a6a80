/- A part of the proof of TableBounds. -/
import Derived.Test.YtccpobhlccjkiaaGreatDoorCac
import Derived.Laws.Build
import Derived.Defers
import Derived.Recover
import Derived.Orders
set_option linter.defProp false
set_option linter.unusedVariables false
set_option linter.unusedSimpArgs false
namespace Go.Cre
noncomputable section
open Go.RowKit
section
variable {P:Program}{B:Nat->Prop}{w0 w:World}{μ:bU}{H H':aw}{n:Nat}{tmps:Array Value}
variable {call:eW}{aO:hX}{o:Oper}{S:aY}
def yh(h:bZ P B w0 μ H w){s:Sem Next}{v v':Value}{r:cY}(ar:some (cY.val v H)=some r)(hE:s.run P w=.ok (.value v') w)(az:bk μ v v'):pd P B w0 call aO μ H w s r:=by
 injection ar with ar;subst ar
 exact .inl ⟨v',w,μ,hE,h,Step.refl _ _,az⟩
def amZ{t:TypeId}{a bD b b':Value}{r:Bool}{x y:Operand}(aI:bk μ a bD)(ak:bk μ b b')(he:yz P t a b=some r)(w:World):
 (∀op,(eqGuard op t x y bD b').run P w=.ok () w)/\(binOp .eql t bD b').run P w=.ok (.bool r) w/\(binOp .neq t bD b').run P w=.ok (.bool (!r)) w:=by
 have Ck:(Op.equal t bD b').run P w=.ok r w:=anf aI ak he 9999 w;unfold yz at he;cases hu:P.underlying t with
 |none=>rw[hu] at he;simp at he
 |some d=>
  rw[hu] at he
  have fin:(∀op,(eqGuard op t x y bD b').run P w=.ok () w)->(binOp .eql t bD b'=(do pure (.bool (<-Op.equal t bD b'))))->(binOp .neq t bD b'=(do pure (.bool (!(<-Op.equal t bD b')))))->
   (∀op,(eqGuard op t x y bD b').run P w=.ok () w)/\(binOp .eql t bD b').run P w=.ok (.bool r) w/\(binOp .neq t bD b').run P w=.ok (.bool (!r)) w:=fun g aF aV=>by
   rw[aF,aV];exact⟨g,by simp[Ck],by simp[Ck]⟩
  cases a with
  |pointer p=>
   have ay:∃iK,bD=.pointer iK:=by
    cases p with
    |none=>exact⟨_,aI.Ga⟩
    |some p=>obtain⟨_,_,_,_,_,q⟩:=aI.p';exact⟨_,q⟩
   obtain⟨iK,rfl⟩:=ay;cases b with
   |pointer q=>
    have ay:∃dE,b'=.pointer dE:=by
     cases q with
     |none=>exact⟨_,ak.Ga⟩
     |some q=>obtain⟨_,_,_,_,_,q⟩:=ak.p';exact⟨_,q⟩
    obtain⟨dE,rfl⟩:=ay;exact fin (fun op=>by cases op<;>simp[eqGuard]) I I
   |_=>cases d<;>cases p<;>cases he
  |slice p l c=>
   have ay:∃iK a9 c',bD=.slice iK a9 c':=by
    cases p with
    |none=>exact⟨_,_,_,aI.uy⟩
    |some p=>obtain⟨_,_,q⟩:=aI.Bb;exact⟨_,_,_,q⟩
   obtain⟨iK,a9,c',rfl⟩:=ay;cases b with
   |slice q eo bt=>
    have ay:∃iK a9 c',b'=.slice iK a9 c':=by
     cases q with
     |none=>exact⟨_,_,_,ak.uy⟩
     |some p=>obtain⟨_,_,q⟩:=ak.Bb;exact⟨_,_,_,q⟩
    obtain⟨aFj,N4,aB9,rfl⟩:=ay;exact fin (fun op=>by cases op<;>simp[eqGuard]) I I
   |_=>cases d<;>cases p<;>cases he
  |map p=>
   have ay:∃iK,bD=.map iK:=by
    cases p with
    |none=>exact⟨_,aI.JW⟩
    |some p=>obtain⟨_,_,q⟩:=aI.JV;exact⟨_,q⟩
   obtain⟨iK,rfl⟩:=ay;cases b with
   |map q=>
    have ay:∃iK,b'=.map iK:=by
     cases q with
     |none=>exact⟨_,ak.JW⟩
     |some p=>obtain⟨_,_,q⟩:=ak.JV;exact⟨_,q⟩
    obtain⟨dE,rfl⟩:=ay;exact fin (fun op=>by cases op<;>simp[eqGuard]) I I
   |_=>cases d<;>cases p<;>cases he
  |nilFunc=>
   obtain rfl:=aI.Ou;cases b with
   |func fn u v=>
    have ay:∃f u v,b'=.func f u v:=by
     rcases ak.EO with⟨_,_,q,_⟩|⟨_,_,_,_,_,_,q⟩
     ·exact⟨_,_,_,q⟩
     ·exact⟨_,_,_,q⟩
    obtain⟨_,_,_,rfl⟩:=ay;exact fin (fun op=>by cases op<;>simp[eqGuard]) I I
   |_=>cases d<;>cases he
  |func fn u v=>
   have ay:∃f u v,bD=.func f u v:=by
    rcases aI.EO with⟨_,_,q,_⟩|⟨_,_,_,_,_,_,q⟩
    ·exact⟨_,_,_,q⟩
    ·exact⟨_,_,_,q⟩
   obtain⟨_,_,_,rfl⟩:=ay;cases b with
   |nilFunc=>
    obtain rfl:=ak.Ou;exact fin (fun op=>by cases op<;>simp[eqGuard]) I I
   |_=>cases d<;>cases he
  |nilIface=>
   obtain rfl:=aI.J9;cases b with
   |iface vZ v=>
    obtain⟨_,rfl,_⟩:=ak.y9;exact fin (fun op=>by cases op<;>simp[eqGuard]) I I
   |_=>cases d<;>cases he
  |iface vZ v=>
   obtain⟨_,rfl,_⟩:=aI.y9;cases b with
   |nilIface=>
    obtain rfl:=ak.J9;exact fin (fun op=>by cases op<;>simp[eqGuard]) I I
   |_=>cases d<;>cases he
  |_=>cases d<;>cases he
def ann(h:bZ P B w0 μ H w)(aM:lj μ S.T n tmps){r:cY}(he:cA P call aO S H o=some r):pd P B w0 call aO μ H w (execOp (dk tmps) o) r:=by
 have eF:∀x v,a5 S.T H x=some v->bk μ v (dk tmps x):=fun x v q=>vN h aM q;unfold cA fi at he;simp only at he;cases al:o.op with
 |move x=>
  rw[al] at he;have he:hH (a5 S.T H x) H=some r:=he;have:=qY (call:=call) (aO:=aO) (s:=pure (dk tmps x)) h (fun v q=>⟨_,I,eF x v q⟩) he;simpa[execOp,al] using this
 |assign x=>
  rw[al] at he;have he:hH (a5 S.T H x) H=some r:=he;have:=qY (call:=call) (aO:=aO) (s:=pure (dk tmps x)) h (fun v q=>⟨_,I,eF x v q⟩) he;simpa[execOp,al] using this
 |load t a=>
  rw[al] at he;have he:C1 P ⟨call,aO,S,H,o⟩ t (a5 S.T H a)=some r:=he;cases aI:a5 S.T H a with
  |none=>rw[aI] at he;cases he
  |some p=>
   rw[aI] at he;have:=qY (call:=call) (aO:=aO) h (fun v q=>anl h (eF a p aI) q) he;simpa[execOp,al] using this
 |pick c a b=>
  rw[al] at he;have he:AZ P ⟨call,aO,S,H,o⟩ a b (a5 S.T H c)=some r:=he;cases ax:a5 S.T H c with
  |none=>rw[ax] at he;cases he
  |some i'=>
   rw[ax] at he;have I0:=eF c i' ax;cases i' with
   |bool ni=>
    have w9:=I0.Hw;cases ni with
    |true=>
     have he:hH (a5 S.T H a) H=some r:=he;have:=qY (call:=call) (aO:=aO) (s:=pure (dk tmps a)) h (fun v q=>⟨_,I,eF a v q⟩) he;simpa[execOp,al,w9,asBool] using this
    |false=>
     have he:hH (a5 S.T H b) H=some r:=he;have:=qY (call:=call) (aO:=aO) (s:=pure (dk tmps b)) h (fun v q=>⟨_,I,eF b v q⟩) he;simpa[execOp,al,w9,asBool] using this
   |_=>cases he
 |alloc elem=>
  rw[al] at he;have he:VL P ⟨call,aO,S,H,o⟩ elem (h2 P elem)=some r:=he;cases aR:h2 P elem with
  |none=>rw[aR] at he;cases he
  |some z=>
   rw[aR] at he;have he:(bif plain z then ou (yx H elem z) else none)=some r:=he;cases ap:plain z with
   |false=>rw[ap] at he;cases he
   |true=>
    rw[ap,cd] at he;have:=zs (call:=call) (aO:=aO) (s:=Instr.alloc elem true (.tuple #[])) (fun v H' q=>by
     obtain⟨ba,br,bG,cD,cN,ef,fh⟩:=Z6 h (q1 ap) q;refine⟨ba,br,bG,?_,cN,ef,fh⟩;simpa[Instr.alloc,Instr.box,x0 aR] using cD) he
    simpa[execOp,al] using this
 |box elem x=>
  rw[al] at he;have he:Kg P ⟨call,aO,S,H,o⟩ elem (a5 S.T H x)=some r:=he;cases U:a5 S.T H x with
  |none=>rw[U] at he;cases he
  |some v=>
   rw[U] at he;have:=zs (call:=call) (aO:=aO) (fun v H' q=>Z6 h (eF x _ U) q) he;simpa[execOp,al] using this
 |build t parts=>
  rw[al] at he;have he:CY P ⟨call,aO,S,H,o⟩ t (mH S.T H parts.toList)=some r:=he;cases ap:mH S.T H parts.toList with
  |none=>rw[ap] at he;cases he
  |some ps=>
   rw[ap] at he;have rN:=aeP h aM ap;have:=qY (call:=call) (aO:=aO) h (fun v q=>am8 rN q w) he;have aF:(parts.toList.map fun(i,x)=>(i,dk tmps x)).toArray=parts.map fun(i,x)=>(i,dk tmps x):=by apply r9;simp
   rw[aF] at this;simpa[execOp,al] using this
 |buildSlice t len parts=>
  rw[al] at he;have he:Kh P ⟨call,aO,S,H,o⟩ t len (mH S.T H parts.toList)=some r:=he;cases ap:mH S.T H parts.toList with
  |none=>rw[ap] at he;cases he
  |some ps=>
   rw[ap] at he;have rN:=aeP h aM ap;have:=zs (call:=call) (aO:=aO) (fun v H' q=>am7 h rN q) he;have aF:(parts.toList.map fun(i,x)=>(i,dk tmps x)).toArray=parts.map fun(i,x)=>(i,dk tmps x):=by apply r9;simp
   rw[aF] at this;simpa[execOp,al] using this
 |store t a x=>
  rw[al] at he;have he:F6 P ⟨call,aO,S,H,o⟩ t (a5 S.T H a) (a5 S.T H x)=some r:=he;cases aI:a5 S.T H a with
  |none=>rw[aI] at he;cases he
  |some p=>
   cases U:a5 S.T H x with
   |none=>rw[aI,U] at he;cases he
   |some v=>
    rw[aI,U] at he;have:=avX (call:=call) (aO:=aO) (fun H' q=>ant h (eF a p aI) (eF x v U) q) he;simpa[execOp,al] using this
 |nilCheck x=>
  rw[al] at he;have he:C4 P ⟨call,aO,S,H,o⟩ (a5 S.T H x)=some r:=he;cases U:a5 S.T H x with
  |none=>rw[U] at he;cases he
  |some v=>
   rw[U] at he;have ar:=eF x v U;cases v with
   |pointer a=>
    cases a with
    |none=>cases he
    |some a=>
     obtain⟨id,off,L,rfl,bi,az⟩:=ar.p';exact yh h he (v':=dk tmps x) (by simp[execOp,al,az]) ar
   |func fn a b=>
    cases fn with
    |func f=>
     rcases ar.EO with⟨bD,b',az,_⟩|⟨l,L,q,_⟩
     ·exact yh h he (v':=dk tmps x) (by simp[execOp,al,az]) ar
     ·cases q
    |_=>cases he
   |iface t v=>
    obtain⟨dy,az,_⟩:=ar.y9;exact yh h he (v':=dk tmps x) (by simp[execOp,al,az]) ar
   |_=>cases he
 |unOp op t x=>
  rw[al] at he;exact Ig h aM (fun cs b q=>by rw[al] at q;cases q) he
 |makeInterface t x=>
  rw[al] at he;have he:C3 P ⟨call,aO,S,H,o⟩ t (a5 S.T H x) (P.underlying t)=some r:=he;cases U:a5 S.T H x with
  |none=>rw[U] at he;cases P.underlying t<;>cases he
  |some v=>
   cases hu:P.underlying t with
   |none=>rw[U,hu] at he;cases he
   |some d=>
    rw[U,hu] at he;have abu:P.concrete t=true/\some (cY.val (.iface t v) H)=some r:=by
     cases d<;>first|(cases he;done)|exact⟨by simp[Program.concrete,hu],he⟩
    exact yh h abu.2 (by simp[execOp,al,run_makeInterface w t _ abu.1]) (.iface t v _ (eF x v U))
 |makeFunc fn first captured=>
  rw[al] at he;have he:C2 P ⟨call,aO,S,H,o⟩ fn (gp S.T H first.toList) (gp S.T H captured.toList)=some r:=he;cases ae:gp S.T H first.toList with
  |none=>rw[ae] at he;cases he
  |some a=>
   cases ag:gp S.T H captured.toList with
   |none=>rw[ae,ag] at he;cases he
   |some b=>
    rw[ae,ag] at he;have eR:=Km h aM ae;have eo:=Km h aM ag;have vv:zm fn=true/\some (cY.val (.func fn a.toArray b.toArray) H)=some r:=by
     cases fn<;>first|(cases he;done)|exact⟨I,he⟩
    refine yh h vv.2 (v':=.func fn (first.map (dk tmps)) (captured.map (dk tmps))) (by simp[execOp,al,Instr.makeFunc]) ?_;exact .func _ _ _ _ _ vv.1 (by simpa using eR.1) (by simpa using eo.1) (fun i v v' q dE=>eR.2 i v v' (by simpa using q) (by simpa using dE)) (fun i v v' q dE=>eo.2 i v v' (by simpa using q) (by simpa using dE))
 |makeMap t rs=>rw[al] at he;cases he
 |makeSlice t l c=>
  rw[al] at he;have he:Ki P ⟨call,aO,S,H,o⟩ t (a5 S.T H l) (a5 S.T H c)=some r:=he;cases ae:a5 S.T H l with
  |none=>rw[ae] at he;cases he
  |some lv=>
   cases ag:a5 S.T H c with
   |none=>rw[ae,ag] at he;cases he
   |some i'=>
    rw[ae,ag] at he;have:=zs (call:=call) (aO:=aO) (fun v H' q=>anm h (eF l lv ae) (eF c i' ag) q) he;simpa[execOp,al] using this
 |slice t x lo hi hG=>
  rw[al] at he;cases hG with
  |some m=>cases he
  |none=>
   have he:oi P ⟨call,aO,S,H,o⟩ t (a5 S.T H x) (iT S.T H lo) (iT S.T H hi)=some r:=he;cases ae:a5 S.T H x with
   |none=>rw[ae] at he;cases he
   |some Dx=>
    cases ag:iT S.T H lo with
    |none=>rw[ae,ag] at he;cases he
    |some adq=>
     cases aE:iT S.T H hi with
     |none=>rw[ae,ag,aE] at he;cases he
     |some E7=>
      rw[ae,ag,aE] at he;have he:orElse (hH (l4 P H t Dx adq E7) H) (fQ P S.T H o)=some r:=he;cases az:hH (l4 P H t Dx adq E7) H with
      |none=>rw[az] at he;exact Ig h aM (fun cs b q=>by rw[al] at q;cases q) he
      |some cu=>
       rw[az] at he;have he:some cu=some r:=he;injection he with he;subst he
       have:=qY (call:=call) (aO:=aO) h (fun v q=>ans h (eF x Dx ae) (aeH h aM ag) (aeH h aM aE) q) az;simpa[execOp,al] using this
 |fieldAddr s x f=>
  rw[al] at he;have he:C0 P ⟨call,aO,S,H,o⟩ s f (a5 S.T H x)=some r:=he;cases U:a5 S.T H x with
  |none=>rw[U] at he;cases he
  |some p=>
   rw[U] at he;have:=qY (call:=call) (aO:=aO) h (fun v q=>anh (eF x p U) q w) he;simpa[execOp,al] using this
 |indexAddr t x dM=>
  rw[al] at he;have he:zr P ⟨call,aO,S,H,o⟩ t (a5 S.T H x) (a5 S.T H dM)=some r:=he;cases ae:a5 S.T H x with
  |none=>rw[ae] at he;cases he
  |some Dx=>
   cases ag:a5 S.T H dM with
   |none=>rw[ae,ag] at he;cases he
   |some fM=>
    rw[ae,ag] at he;have:=qY (call:=call) (aO:=aO) h (fun v q=>ani (eF x Dx ae) (eF dM fM ag) q w) he;simpa[execOp,al] using this
 |lookup t x k ok=>rw[al] at he;cases he
 |mapUpdate t m k x=>rw[al] at he;cases he
 |insert t m k x=>rw[al] at he;cases he
 |typeAssert x xt asserted ok=>
  rw[al] at he;have he:C5 P ⟨call,aO,S,H,o⟩ asserted ok (a5 S.T H x)=some r:=he;cases U:a5 S.T H x with
  |none=>rw[U] at he;cases he
  |some v=>
   rw[U] at he;have:=qY (call:=call) (aO:=aO) h (fun u q=>anB (xt:=xt) (eF x v U) q w) he;simpa[execOp,al] using this
 |extract t dM=>
  rw[al] at he;have he:CZ P ⟨call,aO,S,H,o⟩ dM (a5 S.T H t)=some r:=he;cases U:a5 S.T H t with
  |none=>rw[U] at he;cases he
  |some v=>
   rw[U] at he;cases v with
   |tuple vs=>
    obtain⟨bD,az,aj⟩:=(eF t _ U).azW;have he:hH (nth vs.toList dM) H=some r:=he;have:=qY (call:=call) (aO:=aO) (s:=Instr.extract (dk tmps t) dM) h (fun v q=>by
     rw[lQ] at q;obtain⟨v',aN,aH⟩:=aj.get q;refine⟨v',?_,aH⟩;have aN:bD[dM]?=some v':=by simpa using aN
     simp[Instr.extract,az,aN]) he
    simpa[execOp,al] using this
   |_=>cases he
 |panic x=>
  rw[al] at he;have he:Kj P ⟨call,aO,S,H,o⟩ (a5 S.T H x)=some r:=he;cases U:a5 S.T H x with
  |none=>rw[U] at he;cases he
  |some v=>
   rw[U] at he;cases v with
   |iface t v=>
    obtain⟨dy,az,ar⟩:=(eF x _ U).y9;have he:some (cY.gN [{v:=.iface t v,recovered:=false}] H)=some r:=he;injection he with he;subst he
    refine .inl ⟨.iface t v,.iface t dy,I,I,?_,.iface t v dy ar⟩;simp[execOp,al,az,Instr.panic,goPanic,Sem.run]
   |_=>cases he
 |call c=>
  rw[al] at he;have he:kN P ⟨call,aO,S,H,o⟩ c=some r:=he;unfold kN at he;cases nT:c.callee with
  |builtin b=>
   rw[nT] at he;exact am9 h aM al nT he
  |value f=>
   rw[nT] at he;exact Z7 h aM al (fun b q=>by rw[nT] at q;cases q) he
  |invoke afn J'=>
   rw[nT] at he;exact Z7 h aM al (fun b q=>by rw[nT] at q;cases q) he
 |defer c=>
  rw[al] at he;have he:xL P ⟨call,aO,S,H,o⟩ c=some r:=he;unfold xL at he;cases ar:S.cx with
  |some l=>simp only[ar] at he;cases he
  |none=>simp only[ar] at he;exact anc h aM al he
 |field t x f=>
  rw[al] at he;have he:F5 P ⟨call,aO,S,H,o⟩ f (a5 S.T H x) (P.underlying t)=some r:=he;cases U:a5 S.T H x with
  |none=>rw[U] at he;cases he
  |some v=>
   rw[U] at he;cases v with
   |agg cs=>
    obtain⟨bD,az,aj⟩:=(eF x _ U).Yx;cases hu:P.underlying t with
    |none=>rw[hu] at he;cases he
    |some d=>
     rw[hu] at he;cases d with
     |struct fields=>
      have he:(match fields[f]? with|some f=>hH (n8 P f.type cs.toList f.offset) H|none=>none)=some r:=he
      cases ay:fields[f]? with
      |none=>rw[ay] at he;cases he
      |some fd=>
       rw[ay] at he;have:=qY (call:=call) (aO:=aO) (s:=Instr.field t (dk tmps x) f) h (fun v q=>by
        obtain⟨v',aN,aH⟩:=aab aj q w;refine⟨v',?_,aH⟩;have aN:(part fd.type bD fd.offset).run P w=.ok v' w:=by simpa using aN
        simp[Instr.field,fo hu,ay,az,asAgg,aN]) he
       simpa[execOp,al] using this
     |_=>cases he
   |_=>cases he
 |index t x dM=>
  rw[al] at he;have he:AY P ⟨call,aO,S,H,o⟩ (a5 S.T H x) (a5 S.T H dM) (P.underlying t)=some r:=he;cases U:a5 S.T H x with
  |none=>rw[U] at he;cases he
  |some v=>
   cases hi:a5 S.T H dM with
   |none=>rw[U,hi] at he;cases v<;>cases he
   |some fM=>
    rw[U,hi] at he;have xl:=eF x v U;have abN:=eF dM fM hi;cases v with
    |agg cs=>
     obtain⟨bD,az,aj⟩:=xl.Yx;cases fM with
     |int k i=>
      have E7:=abN.rW;cases hu:P.underlying t with
      |none=>rw[hu] at he;cases he
      |some d=>
       rw[hu] at he;cases d with
       |array len elem=>
        have pq:(match vB i len,e6 P elem with|some n,some sz=>hH (n8 P elem cs.toList (n*sz)) H|_,_=>none)=some r:=he
        cases aA:vB i len with
        |none=>rw[aA] at pq;cases pq
        |some m=>
         rw[aA] at pq;cases hs:e6 P elem with
         |none=>rw[hs] at pq;cases pq
         |some sz=>
          rw[hs] at pq;obtain⟨rfl,cI⟩:=UN aA;have:=qY (call:=call) (aO:=aO) (s:=Instr.index t (dk tmps x) (dk tmps dM)) h (fun v q=>by
           obtain⟨v',aN,aH⟩:=aab aj q w;refine⟨v',?_,aH⟩;have aN:(part elem bD (m*sz)).run P w=.ok v' w:=by simpa using aN
           simp[Instr.index,E7,asIntOf,fo hu,az,cI,lS hs,aN]) pq
          simpa[execOp,al] using this
       |_=>cases he
     |_=>cases he
    |string s=>
     have az:=xl.KE;cases fM with
     |int k i=>
      have E7:=abN.rW;cases hu:P.underlying t with
      |none=>rw[hu] at he;cases he
      |some d=>
       rw[hu] at he;cases d with
       |string=>
        cases i with
        |negSucc m=>cases he
        |ofNat m=>
         have he:(match nth s.data.toList m with|some b=>sA (.ofNat b.toNat) (q6 H .u8)|none=>none)=some r:=he
         cases ak:nth s.data.toList m with
         |none=>rw[ak] at he;cases he
         |some b=>
          rw[ak] at he;have he:sA (.ofNat b.toNat) (q6 H .u8)=some r:=he;rw[w1] at he;have Uk:s[m]?=some b:=by
           rw[lQ] at ak;have cI:m<s.size:=by have:=(dO.1 ak).1;simpa using this
           rw[getElem?_pos s m cI];have ag:s.data[m]?=some b:=by simpa using ak
           rw[DD cI] at ag;injection ag with ag;rw[<-ag];rfl
          refine yh h he (v':=.int .u8 b.toNat) ?_ (.atom _ I);simp[execOp,al,Instr.index,E7,asIntOf,fo hu,az,Uk]
       |_=>cases he
     |_=>cases he
    |_=>cases he
 |convert src dst x=>
  rw[al] at he;have dX:fQ P S.T H o=some r->pd P B w0 call aO μ H w (execOp (dk tmps) o) r:=Ig h aM (fun cs b q=>by rw[al] at q;cases q);have he:zq P ⟨call,aO,S,H,o⟩ src dst (a5 S.T H x)=some r:=he;cases U:a5 S.T H x with
  |none=>rw[U] at he;cases he
  |some v=>
   rw[U] at he;have xl:=eF x v U;cases v with
   |string s=>
    have he:orElse (ou (yB P H src dst s)) (fQ P S.T H o)=some r:=he;cases az:yB P H src dst s with
    |none=>rw[az] at he;exact dX he
    |some p=>
     have he:ou (yB P H src dst s)=some r:=by rw[az] at he ⊢;obtain⟨a,b⟩:=p;exact he
     have:=zs (call:=call) (aO:=aO) (fun v H' q=>anw h q) he;simpa[execOp,al,xl.KE] using this
   |pointer a=>
    cases a with
    |none=>exact dX he
    |some a=>
     have:=qY (call:=call) (aO:=aO) h (fun v q=>ana h xl q) he;simpa[execOp,al] using this
   |slice a l c=>
    have:=qY (call:=call) (aO:=aO) h (fun v q=>anA h xl (anx q)) he;simpa[execOp,al] using this
   |int k i=>
    have he:(match P.underlying src,P.underlying dst with|some _,some (.int k)=>sA (Bn k i) (q6 H k)|_,_=>fQ P S.T H o)=some r:=he
    cases hs:P.underlying src with
    |none=>rw[hs] at he;exact dX he
    |some ds=>
    cases av:P.underlying dst with
    |none=>rw[hs,av] at he;exact dX he
    |some d=>
     rw[hs,av] at he;cases d with
     |int fT=>
      have he:sA (Bn fT i) (q6 H fT)=some r:=he;rw[w1,Gz] at he;refine yh h he (v':=.int fT (fT.wrap i)) ?_ (.atom _ I);simp[execOp,al,xl.rW,convert,fo hs,fo av,Conv.intToInt]
     |_=>exact dX he
   |_=>exact dX he
 |binOp op t x y PR=>
  rw[al] at he;have dX:fQ P S.T H o=some r->pd P B w0 call aO μ H w (execOp (dk tmps) o) r:=Ig h aM (fun cs b q=>by rw[al] at q;cases q);have he:mG P ⟨call,aO,S,H,o⟩ op t (a5 S.T H x) (a5 S.T H y)=some r:=he;cases U:a5 S.T H x with
  |none=>rw[U] at he;cases he
  |some a=>
   cases an:a5 S.T H y with
   |none=>rw[U,an] at he;cases a<;>cases he
   |some b=>
    rw[U,an] at he;have xl:=eF x a U;have acJ:=eF y b an;have Bc:vM P ⟨call,aO,S,H,o⟩ op t a b=some r->pd P B w0 call aO μ H w (execOp (dk tmps) o) r:=by
     intro he;have he:orElse (fQ P S.T H o) (xK P ⟨call,aO,S,H,o⟩ t a b op)=some r:=he;cases ap:fQ P S.T H o with
     |some cu=>
      rw[ap] at he;have he:some cu=some r:=he;injection he with he;subst he
      exact dX ap
     |none=>
      rw[ap] at he;have he:xK P ⟨call,aO,S,H,o⟩ t a b op=some r:=he;cases b3:yz P t a b with
      |none=>
       unfold xK at he;simp only[b3] at he;cases op<;>cases he
      |some O7=>
       obtain⟨aF,aV,cj⟩:=amZ (x:=x) (y:=y) xl acJ b3 w;unfold xK at he;simp only[b3] at he;cases op with
       |eql=>exact yh h he (v':=.bool O7) (by simp[execOp,al,aF .eql,aV]) (.atom _ I)
       |neq=>exact yh h he (v':=.bool (!O7)) (by simp[execOp,al,aF .neq,cj]) (.atom _ I)
       |_=>cases he
    cases a with
    |int k i=>
     cases b with
     |int l j=>
      have pq:(bif ny k l then kf H k i j (fQ P S.T H o) op else vM P ⟨call,aO,S,H,o⟩ op t (.int k i) (.int l j))=some r:=he;cases hk:ny k l with
      |false=>rw[hk,dQ] at pq;exact Bc pq
      |true=>
       rw[hk,cd] at pq;have:=ac7 hk;subst this;exact asY h xl.rW acJ.rW ⟨PR,al⟩ dX pq
     |_=>exact Bc he
    |_=>exact Bc (by cases b<;>exact he)
 |ready g=>rw[al] at he;cases he
 |waits g=>rw[al] at he;cases he
 |sliceToArrayPointer d x=>rw[al] at he;cases he
 |makeChan t s=>rw[al] at he;cases he
 |mapEntry t m k=>rw[al] at he;cases he
 |entryStore t m s x=>rw[al] at he;cases he
 |range t x=>rw[al] at he;cases he
 |next it b=>rw[al] at he;cases he
 |entry it=>rw[al] at he;cases he
 |go c=>rw[al] at he;cases he
 |send a b=>rw[al] at he;cases he
 |recv a b c=>rw[al] at he;cases he
 |select a b=>rw[al] at he;cases he
end
def bR(fr:Frame)(tmps:Array Value)(ds:List Deferred)(todo:List Item):Frame:={fr with tmps:=tmps,todo:=todo,defers:=ds,mode:=.run}
section
variable {P:Program}{fr:Frame}{tmps:Array Value}{ds:List Deferred}{k:List Item}{cs:List Frame}{w:World}
def MA(todo:List Item):(bR fr tmps ds todo).eval=dk tmps:=by
 funext x;cases x<;>rfl
def ay7:step P (lone (bR fr tmps ds (.code .skip::k)) cs w)=.next (lone (bR fr tmps ds k) cs w):=step_lone_go (by simp[stepG,stepG.exec,bR])
def ayW{l:Nat}:step P (lone (bR fr tmps ds (.code (.label l)::k)) cs w)=.next (lone (bR fr tmps ds k) cs w):=step_lone_go (by simp[stepG,stepG.exec,bR])
def ayU{id:Nat}:step P (lone (bR fr tmps ds (.inBlock id::k)) cs w)=.next (lone (bR fr tmps ds k) cs w):=step_lone_go (by simp[stepG,stepG.exec,bR])
def ayV{c:Code}:step P (lone (bR fr tmps ds (.inScope c::k)) cs w)=.next (lone (bR fr tmps ds k) cs w):=step_lone_go (by simp[stepG,stepG.exec,bR])
def Wy{x y:Code}:step P (lone (bR fr tmps ds (.code (.seq x y)::k)) cs w)=.next (lone (bR fr tmps ds (.code x::.code y::k)) cs w):=step_lone_go (by simp[stepG,stepG.exec,bR])
def agk{c:Operand}{x y:Code}{t:Bool}(h:dk tmps c=.bool t):step P (lone (bR fr tmps ds (.code (.cond c x y)::k)) cs w)=.next (lone (bR fr tmps ds (.code (if t then x else y)::k)) cs w):=
 step_lone_go (by
  have he:=congrFun (MA (fr:=fr) (tmps:=tmps) (ds:=ds) (.code (.cond c x y)::k)) c;rw[h] at he;simp only[bR] at he;simp[stepG,stepG.exec,bR,he])
def ayP{id:Nat}{c:Code}:step P (lone (bR fr tmps ds (.code (.block id c)::k)) cs w)=.next (lone (bR fr tmps ds (.code c::.inBlock id::k)) cs w):=step_lone_go (by simp[stepG,stepG.exec,bR])
def ay6{c:Code}:step P (lone (bR fr tmps ds (.code (.scope c)::k)) cs w)=.next (lone (bR fr tmps ds (.code c::.inScope c::k)) cs w):=step_lone_go (by simp[stepG,stepG.exec,bR])
def agn{c:Code}:step P (lone (bR fr tmps ds (.code (.loop c)::k)) cs w)=.next (lone (bR fr tmps ds (.code c::.inLoop c::k)) cs w):=step_lone_go (by simp[stepG,stepG.exec,bR])
def agm{c:Code}:step P (lone (bR fr tmps ds (.inLoop c::k)) cs w)=.next (lone (bR fr tmps ds (.code c::.inLoop c::k)) cs w):=step_lone_go (by simp[stepG,stepG.exec,bR])
def ayT{id:Nat}{fT:List Item}(h:exitTo id k=some fT):step P (lone (bR fr tmps ds (.code (.exit id)::k)) cs w)=.next (lone (bR fr tmps ds fT) cs w):=step_lone_go (by simp[stepG,stepG.exec,bR,h])
def ago{id:Nat}{ops:Array Oper}:step P (lone (bR fr tmps ds (.code (.region id ops false)::k)) cs w)=.next (lone (bR fr tmps ds (.inRegion ops (List.range ops.size)::k)) cs w):=step_lone_go (by simp[stepG,stepG.exec,bR])
def Wx{ops:Array Oper}:step P (lone (bR fr tmps ds (.inRegion ops []::k)) cs w)=.next (lone (bR fr tmps ds k) cs w):=step_lone_go (by simp[stepG,stepG.exec,bR])
def ayR{id:Nat}{ops:Array Oper}:step P (lone (bR fr tmps ds (.code (.region id ops true)::k)) cs w)=
 .next (lone (bR fr tmps ds (.inRegion ops (Region.schedule (P.follows .mixedOrders) ops (w.tape w.drawn (.order fr.fn id)))::k)) cs {w with drawn:=w.drawn+1}):=
 step_lone_go (by simp[stepG,stepG.exec,bR,choose,Sem.run,Question.forced,Question.cut])
def vS(tmps:Array Value)(dst:Option Tmp)(v:Value):Array Value:=match dst with|some d=>tmps.setIfInBounds d v|none=>tmps
def BY{ops:Array Oper}{i:Nat}{rest:List Nat}{o:Oper}(al:ops[i]?=some o)(v:Value):(bR fr tmps ds (.inRegion ops (i::rest)::k)).finish v=bR fr (vS tmps o.dst v) ds (.inRegion ops rest::k):=by
 simp only[Frame.finish,bR,al,Ye,vS];cases o.dst<;>rfl
def ay9{ops:Array Oper}{i:Nat}{rest:List Nat}{o:Oper}(al:ops[i]?=some o)(hw:Region.wanted o (yielded ops tmps)=false):
 step P (lone (bR fr tmps ds (.inRegion ops (i::rest)::k)) cs w)=.next (lone (bR fr (vS tmps o.dst undef) ds (.inRegion ops rest::k)) cs w):=by
 rw[<-BY al];exact step_lone_go (by simp[stepG,stepG.exec,bR,al,hw])
def Dd{ops:Array Oper}{i:Nat}{rest:List Nat}{o:Oper}(al:ops[i]?=some o)(hw:Region.wanted o (yielded ops tmps)=true)(eb:fr.roundOf=none\/∀c,o.op≠.defer c):
 stepG P true {frame:=bR fr tmps ds (.inRegion ops (i::rest)::k),callers:=cs,status:=.running,dying:=none} w=
  stepG.apply P true (bR fr tmps ds (.inRegion ops (i::rest)::k)) cs none (execOp (dk tmps) o) w:=by
 have he:=MA (fr:=fr) (tmps:=tmps) (ds:=ds) (.inRegion ops (i::rest)::k);simp only[bR] at he;simp only[stepG,stepG.exec,stepG.oper,Frame.oper?,bR,al,hw,he,Lz,Yf,NS];rcases eb with h|h
 ·rw[h]
 ·cases ar:fr.roundOf with
  |none=>rfl
  |some l=>
   cases eF:o.op with
   |defer c=>exact absurd eF (h c)
   |_=>rfl
def Wz{ops:Array Oper}{i:Nat}{rest:List Nat}{o:Oper}{v:Value}{a':World}(al:ops[i]?=some o)(hw:Region.wanted o (yielded ops tmps)=true)(eb:fr.roundOf=none\/∀c,o.op≠.defer c)
 (ar:(execOp (dk tmps) o).run P w=.ok (.value v) a'):
 step P (lone (bR fr tmps ds (.inRegion ops (i::rest)::k)) cs w)=.next (lone (bR fr (vS tmps o.dst v) ds (.inRegion ops rest::k)) cs a'):=by
 rw[<-BY al];exact step_lone_go (by rw[Dd al hw eb];simp[stepG.apply,ar])
def ay8{ops:Array Oper}{i:Nat}{rest:List Nat}{o:Oper}{a':World}(al:ops[i]?=some o)(hw:Region.wanted o (yielded ops tmps)=true)(eb:fr.roundOf=none\/∀c,o.op≠.defer c)
 (ar:(execOp (dk tmps) o).run P w=.ok .skip a'):
 step P (lone (bR fr tmps ds (.inRegion ops (i::rest)::k)) cs w)=.next (lone (bR fr (vS tmps o.dst undef) ds (.inRegion ops rest::k)) cs a'):=by
 rw[<-BY al];exact step_lone_go (by rw[Dd al hw eb];simp[stepG.apply,ar])
def ay0{ops:Array Oper}{i:Nat}{rest:List Nat}{o:Oper}{v:Value}{a':World}(al:ops[i]?=some o)(hw:Region.wanted o (yielded ops tmps)=true)(eb:fr.roundOf=none\/∀c,o.op≠.defer c)
 (ar:(execOp (dk tmps) o).run P w=.halt (.panic v) a'):
 step P (lone (bR fr tmps ds (.inRegion ops (i::rest)::k)) cs w)=.next (lone {bR fr tmps ds (.inRegion ops (i::rest)::k) with mode:=.panicking [{v,recovered:=false}]} cs a'):=
 step_lone_go (by rw[Dd al hw eb];simp[stepG.apply,ar,Frame.raise,bR])
def ayQ{ops:Array Oper}{i:Nat}{rest:List Nat}{o:Oper}{d:Deferred}{a':World}(al:ops[i]?=some o)(hw:Region.wanted o (yielded ops tmps)=true)(eb:fr.roundOf=none)
 (ar:(execOp (dk tmps) o).run P w=.ok (.defer d) a'):
 step P (lone (bR fr tmps ds (.inRegion ops (i::rest)::k)) cs w)=.next (lone (bR fr (vS tmps o.dst undef) (d::ds) (.inRegion ops rest::k)) cs a'):=by
 have ay:({bR fr tmps ds (.inRegion ops (i::rest)::k) with defers:=d::ds}:Frame).finish undef=bR fr (vS tmps o.dst undef) (d::ds) (.inRegion ops rest::k):=
  BY (fr:=fr) (tmps:=tmps) (ds:=d::ds) (k:=k) (rest:=rest) al undef
 refine step_lone_go ?_;rw[Dd al hw (.inl eb)];simp only[stepG.apply,Sem.runT_eq,ar,GStep.bare_after,NS];exact dh (fun f=>GStep.go {frame:=f,callers:=cs,status:=.running,dying:=none} a') ay
def agl{ops:Array Oper}{i:Nat}{rest:List Nat}{o:Oper}{f:FuncId}{args:Array Value}{a':World}(al:ops[i]?=some o)(hw:Region.wanted o (yielded ops tmps)=true)(eb:fr.roundOf=none\/∀c,o.op≠.defer c)
 (ar:(execOp (dk tmps) o).run P w=.ok (.enter f args) a'):
 step P (lone (bR fr tmps ds (.inRegion ops (i::rest)::k)) cs w)=.next (lone (Frame.enter P f args .normal) (bR fr tmps ds (.inRegion ops (i::rest)::k)::cs) a'):=
 step_lone_go (by rw[Dd al hw eb];simp[stepG.apply,ar,bR])
def agp{ops:Array Oper}{i:Nat}{rest:List Nat}{o:Oper}{l:Nat}{f:FuncId}{qf:Array Value}{a b:Code}{a':World}(al:ops[i]?=some o)(hw:Region.wanted o (yielded ops tmps)=true)(eb:fr.roundOf=none\/∀c,o.op≠.defer c)
 (ar:(execOp (dk tmps) o).run P w=.ok (.round l f qf a b) a'):
 step P (lone (bR fr tmps ds (.inRegion ops (i::rest)::k)) cs w)=.next (lone (Frame.round l f qf a b .normal) (bR fr tmps ds (.inRegion ops (i::rest)::k)::cs) a'):=
 step_lone_go (by rw[Dd al hw eb];simp[stepG.apply,ar])
end
def jC(μ:bU)(c c':List PanicEntry):Prop:=c.length=c'.length/\∀(i:Nat) e bA,c[i]?=some e->c'[i]?=some bA->bA.recovered=e.recovered/\bA.goexit=e.goexit/\bk μ e.v bA.v
def qs(μ:bU):FrameMode->FrameMode->Prop
 |.run,.run=>True
 |.returning,.returning=>True
 |.panicking c,.panicking c'=>jC μ c c'
 |_,_=>False
def K9(μ:bU)(d mu:Deferred):Prop:=
 (∃fv cap ew,d.target=.fn fv cap/\mu.target=.fn fv ew/\zm fv=true/\bW μ cap.toList ew.toList/\bW μ d.args.toList mu.args.toList)\/(∃r L,d.target=.collected r/\μ r=some L/\mu.target=.collected L.r)
inductive uI (μ:bU):List Deferred->List Deferred->Prop
 |nil:uI μ [] []
 |cons (d mu:Deferred) (l a9:List Deferred):K9 μ d mu->uI μ l a9->uI μ (d::l) (mu::a9)
def Br(μ:bU):Ending->Ending->Prop
 |.returned v,.returned v'=>bk μ v v'
 |.panicked c,.panicked c'=>jC μ c c'
 |_,_=>False
section
variable {P:Program}{B:Nat->Prop}{w0 w:World}{μ bh:bU}{H H':aw}
def jC.mono{c c':List PanicEntry}(h:jC μ c c')(e:Ext μ bh):jC bh c c':=⟨h.1,fun i a b x y=>by obtain⟨p,q,r⟩:=h.2 i a b x y;exact⟨p,q,r.mono e⟩⟩
def qs.mono{m m':FrameMode}(h:qs μ m m')(e:Ext μ bh):qs bh m m':=by
 cases m<;>cases m'<;>first|trivial|exact h.elim|exact jC.mono h e
def K9.mono{d mu:Deferred}(h:K9 μ d mu)(e:Ext μ bh):K9 bh d mu:=by
 rcases h with⟨fv,cap,ew,ae,ag,aE,a6,dK⟩|⟨r,L,ae,ag,aE⟩
 ·exact .inl ⟨fv,cap,ew,ae,ag,aE,a6.mono e,dK.mono e⟩
 ·exact .inr ⟨r,L,ae,e _ _ ag,aE⟩
def uI.mono{l a9:List Deferred}(h:uI μ l a9)(e:Ext μ bh):uI bh l a9:=by
 induction h with
 |nil=>exact .nil
 |cons d mu l a9 av _ aC=>exact .cons d mu l a9 (av.mono e) aC
def jC.single{v v':Value}(h:bk μ v v'):jC μ [{v:=v,recovered:=false}] [{v:=v',recovered:=false}]:=
 ⟨I,fun i e bA x y=>by
  cases i with
  |zero=>simp at x y;subst x;subst y;exact⟨I,I,h⟩
  |succ i=>simp at x⟩
structure iW (P:Program) (μ:bU) (S:aY) (fr:Frame) (tmps:Array Value) (ds:List Deferred) (cs:List Frame):Prop where
 t:lj μ S.T S.n tmps
 d:uI μ S.ds ds
 kind:fr.kind=if S.bQ then .deferred else .normal
 vU:S.cx=none->fr.roundOf=none
 A6:∀l,S.cx=some l->∃L,μ l=some L/\fr.roundOf=some L.r
 bg:S.bQ=true->∃c rest,cs=c::rest/\qs μ S.bg c.mode
 fn:∃fn,P.funcs[fr.fn]?=some fn
def iW.mono{S:aY}{fr:Frame}{tmps:Array Value}{ds:List Deferred}{cs:List Frame}(h:iW P μ S fr tmps ds cs)(e:Ext μ bh):iW P bh S fr tmps ds cs:=
 ⟨h.t.mono e,h.d.mono e,h.kind,h.vU,fun l q=>by obtain⟨L,a,b⟩:=h.A6 l q;exact⟨L,e _ _ a,b⟩,fun q=>by obtain⟨c,r,a,b⟩:=h.bg q;exact⟨c,r,a,b.mono e⟩,h.fn⟩
def kR(d:Bool)(cs cT:List Frame):Prop:=if d then ∃c rest m,cs=c::rest/\cT={c with mode:=m}::rest else cT=cs
def kR.refl(d:Bool)(cs:List Frame)(h:d=true->∃c rest,cs=c::rest):kR d cs cs:=by
 cases d with
 |false=>rfl
 |true=>obtain⟨c,rest,rfl⟩:=h I;exact⟨c,rest,c.mode,I,I⟩
def kR.trans{d:Bool}{a b c:List Frame}(h:kR d a b)(k:kR d b c):kR d a c:=by
 cases d with
 |false=>exact Eq.trans k h
 |true=>
  obtain⟨x,rest,m,rfl,rfl⟩:=h;obtain⟨y,zx,m',e,rfl⟩:=k;injection e with aF aV;subst aF;subst aV
  exact⟨x,rest,m',I,I⟩
def qk(P:Program)(B:Nat->Prop)(w0:World)(call:eW):Prop:=
 ∀f args H e H',call f args H=some (e,H')->∀μ w bV,bZ P B w0 μ H w->bW μ args bV->
  (∃v v' a' bh,e=.returned v/\(callFunc f bV.toArray).run P w=.ok (.value v') a'/\bZ P B w0 bh H' a'/\Step μ bh H H'/\bk bh v v')\/
  ((callFunc f bV.toArray).run P w=.ok (.enter f bV.toArray) w/\Calls P f bV.toArray w (fun bA a'=>∃bh,bZ P B w0 bh H' a'/\Step μ bh H H'/\Br bh e bA))
def ahP(c:Frame):Ending->Frame
 |.returned v=>c.finish v
 |.panicked bx=>c.raise bx
 |.outgrown=>c
def yf(P:Program)(B:Nat->Prop)(w0:World)(aO:hX):Prop:=
 ∀l args H e H',aO l args H=some (e,H')->∀μ w L bV,bZ P B w0 μ H w->μ l=some L->bW μ args bV->
  ∃f qf a b,(Instr.yield L.r bV.toArray).run P w=.ok (.round L.r f qf a b) w/\
   ∀caller cs,∃bA a' bh,bZ P B w0 bh H' a'/\Step μ bh H H'/\Br bh e bA/\Steps P (lone (Frame.round L.r f qf a b .normal) (caller::cs) w) (lone (ahP caller bA) cs a')
def aaG{ops:Array Oper}{T:aZ Value}{n:Nat}{tmps:Array Value}{o:Oper}{b:Bool}(aM:lj μ T n tmps)(he:gK ops.toList T o=some b):Region.wanted o (yielded ops tmps)=b:=by
 unfold gK at he;unfold Region.wanted;cases aB:o.guard with
 |none=>rw[aB] at he;simp at he;exact he.symm▸rfl
 |some p=>
  obtain⟨j,want⟩:=p;rw[aB] at he;have he:w3 ops.toList T (j,want)=some b:=he;simp only[w3,lQ] at he;simp only[yielded];have aW:ops.toList[j]?=ops[j]?:=by simp
  rw[aW] at he;cases ap:ops[j]? with
  |none=>rw[ap] at he;simp at he;subst he;simp
  |some p=>
   rw[ap] at he;simp only at he;cases av:p.dst with
   |none=>rw[av] at he;simp at he;subst he;simp[av]
   |some d=>
    rw[av] at he;simp only at he;cases cq:T.get d with
    |none=>rw[cq] at he;simp at he
    |some v=>
     rw[cq] at he;have az:=aM.2 d v cq;have hN:tmps[d]?=some (tmps.getD d undef)\/(tmps[d]?=none/\tmps.getD d undef=undef):=by
      rcases ha d tmps.size with q|q
      ·left;simp[q]
      ·right;simp[q]
     simp only[Ye,av];have auO:(∀c,v≠.bool c)->v≠.chan none->∀c,tmps.getD d undef≠.bool c:=fun aA hw c q=>by
      rw[q] at az;cases az with
      |atom _ _=>exact aA c I
      |zI _ _=>exact hw I
     by_cases sY:∃c,v=.bool c
     ·obtain⟨c,rfl⟩:=sY;simp only[cb] at he;subst he;have Av:=az.Hw;rcases hN with q|⟨_,q⟩
      ·rw[q,Av];simp
      ·rw[q] at Av;cases Av
     ·have fB:∀c,v≠.bool c:=fun c q=>sY ⟨c,q⟩;have arf:v≠.chan none:=fun q=>by rw[q] at he;cases he
      have ak:b=false:=by
       cases v<;>first|(simp only[cb] at he;exact he.symm)|exact absurd ⟨_,I⟩ sY|cases he
      subst ak;rcases hN with q|⟨q,_⟩
      ·rw[q];have:=auO fB arf;cases U:tmps.getD d undef<;>first|rfl|exact absurd U (this _)
      ·rw[q];rfl
def V0{S aL:aY}{fr:Frame}{tmps:Array Value}{ds:List Deferred}{cs:List Frame}{dst:Option Tmp}{v v':Value}(h:iW P μ S fr tmps ds cs)(az:bk μ v v')(he:S.put dst v=some aL):
 iW P μ aL fr (vS tmps dst v') ds cs/\aL.bQ=S.bQ/\aL.cx=S.cx/\aL.bg=S.bg/\aL.ds=S.ds:=by
 cases dst with
 |none=>
  have he:some S=some aL:=he;injection he with he;subst he
  exact⟨h,I,I,I,I⟩
 |some d=>
  obtain⟨T,n,gy,bQ,bg,cx⟩:=S;have he:Bool.rec (motive:=fun _=>Option aY) none (aY.r3 n gy bQ bg cx (aZ.put v T d)) (Nat.ble (Nat.succ d) n)=some aL:=he;cases ak:Nat.ble (Nat.succ d) n with
  |false=>rw[ak] at he;cases he
  |true=>
   rw[ak] at he;have ak:=iE ak;have he:aY.r3 n gy bQ bg cx (aZ.put v T d)=some aL:=he;cases ap:aZ.put v T d with
   |none=>rw[ap] at he;cases he
   |some ea=>
    rw[ap] at he;have he:some (aY.mk ea n gy bQ bg cx)=some aL:=he;injection he with he;subst he
    refine⟨⟨⟨by have:=h.t.1;simpa[vS] using this,fun t u q=>?_⟩,h.d,h.kind,h.vU,h.A6,h.bg,h.fn⟩,I,I,I,I⟩;have q:ea.get t=some u:=q;rw[aZ.get_put ap] at q;have en:n<=tmps.size:=h.t.1;show bk μ u ((tmps.setIfInBounds d v').getD t undef);by_cases Ur:t=d
    ·subst Ur;rw[aP I] at q;injection q with q;subst q
     have:(tmps.setIfInBounds t v').getD t undef=v':=by
      have:t<tmps.size:=by omega
      simp[this]
     rw[this];exact az
    ·rw[aG Ur] at q;have:(tmps.setIfInBounds d v').getD t undef=tmps.getD t undef:=by
      simp[Xr (Ne.symm Ur)]
     rw[this];exact h.t.2 t u q
def lZ(P:Program)(B:Nat->Prop)(w0:World)(μ:bU)(H:aw)(S:aY)(fr:Frame)(cs:List Frame)(m:Machine)(todo:List Item):dP->Prop
 |.ok aL H'=>∃bh a' hx fy cT,bZ P B w0 bh H' a'/\Step μ bh H H'/\iW P bh aL fr hx fy cT/\kR S.bQ cs cT/\aL.bQ=S.bQ/\aL.cx=S.cx/\Steps P m (lone (bR fr hx fy todo) cT a')
 |.gN chain aL H'=>∃bh a' hx fy cT HK ik,bZ P B w0 bh H' a'/\Step μ bh H H'/\iW P bh aL fr hx fy cT/\kR S.bQ cs cT/\aL.bQ=S.bQ/\aL.cx=S.cx/\jC bh chain HK/\
  Steps P m (lone {bR fr hx fy ik with mode:=.panicking HK} cT a')
end
section
variable {P:Program}{B:Nat->Prop}{w0 w:World}{μ:bU}{H H':aw}{S:aY}{fr:Frame}{tmps:Array Value}{ds:List Deferred}{cs:List Frame}{call:eW}{aO:hX}
variable {ops:Array Oper}{i:Nat}{rest:List Nat}{k:List Item}{o:Oper}
def iW.vm(ay:iW P μ S fr tmps ds cs):S.bQ=true->∃c rest,cs=c::rest:=fun q=>by obtain⟨c,r,a,_⟩:=ay.bg q;exact⟨c,r,a⟩
def al1{r:cY}(he:cA P call aO S H o=some r){c:Call}(al:o.op=.defer c):S.cx=none:=by
 unfold cA fi at he;simp only at he;rw[al] at he;have he:xL P ⟨call,aO,S,H,o⟩ c=some r:=he;unfold xL at he;cases ar:S.cx with
 |none=>rfl
 |some l=>simp only[ar] at he;cases he
def Da{v v':Value}{bh:bU}{H':aw}{a':World}{m:Machine}{cf:dP}(ay:iW P bh S fr tmps ds cs)(h4:bZ P B w0 bh H' a')(hs:Step μ bh H H')(az:bk bh v v')
 (c4:Steps P m (lone (bR fr (vS tmps o.dst v') ds (.inRegion ops rest::k)) cs a'))(he:m5 S o.dst v H'=some cf):lZ P B w0 μ H S fr cs m (.inRegion ops rest::k) cf:=by
 unfold m5 oq at he;cases ap:S.put o.dst v with
 |none=>rw[ap] at he;cases he
 |some aL=>
  rw[ap] at he;have he:some (dP.ok aL H')=some cf:=he;injection he with he;subst he
  obtain⟨a,b,c,_,_⟩:=V0 ay az ap;exact⟨bh,a',_,ds,cs,h4,hs,a,kR.refl _ _ ay.vm,b,c,c4⟩
def lZ.congr{S a3:aY}{m:Machine}{todo:List Item}{cf:dP}(ae:a3.bQ=S.bQ)(ag:a3.cx=S.cx)(h:lZ P B w0 μ H a3 fr cs m todo cf):lZ P B w0 μ H S fr cs m todo cf:=by
 cases cf with
 |ok aL H'=>obtain⟨a,b,c,d,e,ca,b7,cw,f',gJ,hL,hd⟩:=h;exact⟨a,b,c,d,e,ca,b7,cw,ae▸f',gJ.trans ae,hL.trans ag,hd⟩
 |gN chain aL H'=>obtain⟨a,b,c,d,e,x,y,ca,b7,cw,f',gJ,hL,hd,pR⟩:=h;exact⟨a,b,c,d,e,x,y,ca,b7,cw,ae▸f',gJ.trans ae,hL.trans ag,hd,pR⟩
def ay4{ops:Array Oper}{i:Nat}{rest:List Nat}{o:Oper}{a':World}{v:Value}{cT:List Frame}(al:ops[i]?=some o)(hw:Region.wanted o (yielded ops tmps)=true)(vx:fr.roundOf=none)
 (ar:(execOp (dk tmps) o).run P w=.ok .recover a')(aM:(tryRecover (bR fr tmps ds (.inRegion ops (i::rest)::k)) cs).getD (.nilIface,cs)=(v,cT)):
 step P (lone (bR fr tmps ds (.inRegion ops (i::rest)::k)) cs w)=.next (lone (bR fr (vS tmps o.dst v) ds (.inRegion ops rest::k)) cT a'):=by
 rw[<-BY al];refine step_lone_go ?_;rw[Dd al hw (.inl vx)];have acn:(bR fr tmps ds (.inRegion ops (i::rest)::k)).roundOf=none:=vx;cases U:tryRecover (bR fr tmps ds (.inRegion ops (i::rest)::k)) cs with
 |none=>
  rw[U] at aM;simp at aM;obtain⟨rfl,rfl⟩:=aM;simp[stepG.apply,ar,acn,U]
 |some p=>
  obtain⟨v1,g4⟩:=p;rw[U] at aM;simp at aM;obtain⟨rfl,rfl⟩:=aM;simp[stepG.apply,ar,acn,U]
def axD{ops:Array Oper}{i:Nat}{rest:List Nat}{v:Value}{bg:FrameMode}(ay:iW P μ S fr tmps ds cs)(he:q5 S=some (v,bg)):
 ∃v' cT,(tryRecover (bR fr tmps ds (.inRegion ops (i::rest)::k)) cs).getD (.nilIface,cs)=(v',cT)/\bk μ v v'/\iW P μ (S.zJ bg) fr tmps ds cT/\kR S.bQ cs cT/\fr.roundOf=none:=by
 unfold q5 at he;cases vx:S.cx with
 |some l=>rw[vx] at he;cases he
 |none=>
  rw[vx] at he;have dL:=ay.vU vx;obtain⟨T,n,gy,bQ,KM,cx⟩:=S;cases bQ with
  |false=>
   simp only[dQ] at he;injection he with he;injection he with aF aV;subst aF;subst aV
   have hk:(bR fr tmps ds (.inRegion ops (i::rest)::k)).kind=.normal:=ay.kind;have:tryRecover (bR fr tmps ds (.inRegion ops (i::rest)::k)) cs=none:=by
    cases cs<;>simp[tryRecover,hk]
   rw[this];exact⟨_,_,I,bk.atom _ I,ay,I,dL⟩
  |true=>
   simp only[cd] at he;have hk:(bR fr tmps ds (.inRegion ops (i::rest)::k)).kind=.deferred:=ay.kind;obtain⟨c,Dc,rfl,hm⟩:=ay.bg I;rw[tryRecover_deferred hk];have fB:recoverD (c::Dc)=none->v=.nilIface->bg=KM->∃v' cT,(recoverD (c::Dc)).getD (.nilIface,c::Dc)=(v',cT)/\bk μ v v'/\iW P μ (aY.zJ bg ⟨T,n,gy,true,KM,cx⟩) fr tmps ds cT/\kR true (c::Dc) cT/\fr.roundOf=none:=by
    intro ae ag aE;subst ag;subst aE;rw[ae];exact⟨_,_,I,bk.atom _ I,ay,⟨c,Dc,c.mode,I,I⟩,dL⟩
   cases Uw:KM with
   |run=>
    subst Uw;simp only at he;injection he with he;injection he with aF aV
    refine fB ?_ aF.symm aV.symm;cases sK:c.mode<;>rw[sK] at hm<;>first|exact hm.elim|simp[recoverD,sK]
   |returning=>
    subst Uw;simp only at he;injection he with he;injection he with aF aV
    refine fB ?_ aF.symm aV.symm;cases sK:c.mode<;>rw[sK] at hm<;>first|exact hm.elim|simp[recoverD,sK]
   |panicking bx=>
    subst Uw;cases sK:c.mode with
    |run=>rw[sK] at hm;exact hm.elim
    |returning=>rw[sK] at hm;exact hm.elim
    |panicking yp=>
     rw[sK] at hm;have hm:jC μ bx yp:=hm;cases bx with
     |nil=>
      have:yp=[]:=mQ hm.1.symm;subst this;simp only at he;injection he with he;injection he with aF aV
      exact fB (by simp[recoverD,sK]) aF.symm aV.symm
     |cons x OI=>
      cases yp with
      |nil=>have:=hm.1;simp at this
      |cons dy avz=>
       obtain⟨ba,br,bG⟩:=hm.2 0 x dy I I;obtain⟨Dx,aBe,aBc⟩:=x;obtain⟨Xf,Xe,ahM⟩:=dy;simp only at ba br bG;subst ba;subst br;cases Xe with
       |true=>
        simp only at he;injection he with he;injection he with aF aV
        exact fB (by simp[recoverD,sK]) aF.symm aV.symm
       |false=>
        cases ahM with
        |true=>
         simp only at he;injection he with he;injection he with aF aV
         exact fB (by simp[recoverD,sK]) aF.symm aV.symm
        |false=>
         simp only at he;injection he with he;injection he with aF aV
         subst aF;subst aV;refine⟨Xf,{c with mode:=.panicking ({v:=Xf,recovered:=true}::avz)}::Dc,by simp[recoverD,sK],bG,⟨ay.t,ay.d,ay.kind,ay.vU,ay.A6,(fun _=>⟨_,_,I,?_⟩),ay.fn⟩,⟨c,Dc,_,I,I⟩,dL⟩;refine⟨by have:=hm.1;simpa using this,fun j e bA q dE=>?_⟩;cases j with
         |zero=>simp at q dE;subst q;subst dE;exact⟨I,I,bG⟩
         |succ j=>exact hm.2 (j+1) e bA (by simpa using q) (by simpa using dE)
def CX(gT:qk P B w0 call)(od:yf P B w0 aO)(h:bZ P B w0 μ H w)(ay:iW P μ S fr tmps ds cs)(al:ops[i]?=some o){cf:dP}(he:one P call aO ops.toList S H o=some cf):
 lZ P B w0 μ H S fr cs (lone (bR fr tmps ds (.inRegion ops (i::rest)::k)) cs w) (.inRegion ops rest::k) cf:=by
 unfold one at he;cases aB:gK ops.toList S.T o with
 |none=>rw[aB] at he;cases he
 |some b=>
  rw[aB] at he;have hw:=aaG ay.t aB;cases b with
  |false=>
   have he:m5 S o.dst undef H=some cf:=he;exact Da ay h (Step.refl _ _) (bk.undef μ) (.one (ay9 al hw)) he
  |true=>
   have he:o2 S H o.dst (cA P call aO S H o)=some cf:=he;cases eF:cA P call aO S H o with
   |none=>rw[eF] at he;cases he
   |some r=>
    rw[eF] at he;have he:aeE S H o.dst r=some cf:=he;have cG:=ann h ay.t eF;have eb:fr.roundOf=none\/∀c,o.op≠.defer c:=by
     by_cases av:∃c,o.op=.defer c
     ·obtain⟨c,av⟩:=av;exact .inl (ay.vU (al1 eF av))
     ·exact .inr fun c q=>av ⟨c,q⟩
    cases r with
    |val v H1=>
     have he:m5 S o.dst v H1=some cf:=he;rcases cG with⟨v',a',bh,dc,c9,fI,iL⟩|⟨f,args,bV,dc,c9,fI⟩|⟨l,L,args,bV,q3,dc,c9,fI⟩
     ·exact Da (ay.mono fI.ext) c9 fI iL (.one (Wz al hw eb dc)) he
     ·rcases gT f args H _ _ fI μ w bV h c9 with⟨d',v',a',bh,aF,aV,cj,eT,cR⟩|⟨aF,aV⟩
      ·injection aF with aF;subst aF
       exact Da (ay.mono eT.ext) cj eT cR (.one (Wz al hw eb (dc.trans aV))) he
      ·obtain⟨bA,a',aar,⟨bh,ca,b7,cw⟩,E1,_,Fb⟩:=aV (bR fr tmps ds (.inRegion ops (i::rest)::k)::cs);cases bA with
       |returned v'=>
        refine Da (ay.mono b7.ext) ca b7 cw ?_ he;rw[<-BY al];exact .head (agl al hw eb (dc.trans aF)) (Steps.trans E1 (.one (step_leave_returned Fb)))
       |panicked c=>exact cw.elim
       |outgrown=>exact cw.elim
     ·obtain⟨f,qf,a,b,aV,cj⟩:=od l args H _ _ fI μ w L bV h q3 c9;obtain⟨bA,a',bh,ca,b7,cw,f'⟩:=cj (bR fr tmps ds (.inRegion ops (i::rest)::k)) cs;cases bA with
      |returned v'=>
       refine Da (ay.mono b7.ext) ca b7 cw ?_ he;rw[<-BY al];exact .head (agp al hw eb (dc.trans aV)) f'
      |panicked c=>exact cw.elim
      |outgrown=>exact cw.elim
    |skip H1=>
     have he:m5 S o.dst undef H1=some cf:=he;obtain⟨a',dc,c9,fI⟩:=cG;exact Da ay c9 fI (bk.undef μ) (.one (ay8 al hw eb dc)) he
    |g6 d=>
     have he:AX S H o.dst d=some cf:=he;unfold AX at he;cases Ud:S.cx with
     |some l=>rw[Ud] at he;cases he
     |none=>
     rw[Ud] at he;have he:m5 (S.Gy d) o.dst undef H=some cf:=he;obtain⟨fv,cap,ew,args,bV,rfl,dc,c9,fI,iL⟩:=cG;have vx:fr.roundOf=none:=ay.vU Ud;obtain⟨T,n,gy,bQ,bg,cx⟩:=S
     have Tj:iW P μ (aY.Gy {target:=.fn fv cap,args:=args.toArray} ⟨T,n,gy,bQ,bg,cx⟩) fr tmps ({target:=.fn fv ew,args:=bV.toArray}::ds) cs:=
      ⟨ay.t,.cons _ _ _ _ (.inl ⟨fv,cap,ew,I,I,c9,fI,by simpa using iL⟩) ay.d,ay.kind,ay.vU,ay.A6,ay.bg,ay.fn⟩
     exact lZ.congr (a3:=aY.Gy {target:=.fn fv cap,args:=args.toArray} ⟨T,n,gy,bQ,bg,cx⟩) I I (Da Tj h (Step.refl _ _) (bk.undef μ) (.one (ayQ al hw vx dc)) he)
    |gN chain H1=>
     have he:some (dP.gN chain S H1)=some cf:=he;injection he with he;subst he
     rcases cG with⟨v,v',rfl,rfl,dc,c9⟩|⟨f,args,bV,dc,c9,fI⟩|⟨l,L,args,bV,q3,dc,c9,fI⟩
     ·exact⟨μ,w,tmps,ds,cs,_,_,h,Step.refl _ _,ay,kR.refl _ _ ay.vm,I,I,jC.single c9,.one (ay0 al hw eb dc)⟩
     ·rcases gT f args H _ _ fI μ w bV h c9 with⟨d',v',a',bh,aF,_⟩|⟨aF,aV⟩
      ·cases aF
      ·obtain⟨bA,a',aar,⟨bh,ca,b7,cw⟩,E1,_,Fb⟩:=aV (bR fr tmps ds (.inRegion ops (i::rest)::k)::cs);cases bA with
       |returned v'=>exact cw.elim
       |panicked c=>
        refine⟨bh,a',tmps,ds,cs,c,.inRegion ops (i::rest)::k,ca,b7,ay.mono b7.ext,kR.refl _ _ ay.vm,I,I,cw,?_⟩;exact .head (agl al hw eb (dc.trans aF)) (Steps.trans E1 (.one (step_leave_panicked Fb)))
       |outgrown=>exact cw.elim
     ·obtain⟨f,qf,a,b,aV,cj⟩:=od l args H _ _ fI μ w L bV h q3 c9;obtain⟨bA,a',bh,ca,b7,cw,f'⟩:=cj (bR fr tmps ds (.inRegion ops (i::rest)::k)) cs;cases bA with
      |returned v'=>exact cw.elim
      |panicked c=>
       refine⟨bh,a',tmps,ds,cs,c,.inRegion ops (i::rest)::k,ca,b7,ay.mono b7.ext,kR.refl _ _ ay.vm,I,I,cw,?_⟩;exact .head (agp al hw eb (dc.trans aV)) f'
      |outgrown=>exact cw.elim
    |A4=>
     have he:F3 S H o.dst (q5 S)=some cf:=he;cases qO:q5 S with
     |none=>rw[qO] at he;cases he
     |some p=>
      obtain⟨v,bg⟩:=p;rw[qO] at he;have he:m5 (S.zJ bg) o.dst v H=some cf:=he;obtain⟨v',cT,t1,t2,t3,t4,t5⟩:=axD (k:=k) (ops:=ops) (i:=i) (rest:=rest) ay qO;unfold m5 oq at he;cases ap:(S.zJ bg).put o.dst v with
      |none=>rw[ap] at he;cases he
      |some aL=>
       rw[ap] at he;have he:some (dP.ok aL H)=some cf:=he;injection he with he;subst he
       obtain⟨a,b,c,_,_⟩:=V0 t3 t2 ap;exact⟨μ,w,_,ds,cT,h,Step.refl _ _,a,t4,b,c,.one (ay4 al hw t5 cG t1)⟩
end
section
variable {P:Program}{B:Nat->Prop}{w0 w:World}{μ:bU}{H H':aw}{S:aY}{fr:Frame}{tmps:Array Value}{ds:List Deferred}{cs:List Frame}{call:eW}{aO:hX}
variable {ops:Array Oper}{k:List Item}
def lZ.steps{m m':Machine}{todo:List Item}{cf:dP}(hs:Steps P m m')(h:lZ P B w0 μ H S fr cs m' todo cf):lZ P B w0 μ H S fr cs m todo cf:=by
 cases cf with
 |ok aL H'=>obtain⟨a,b,c,d,e,ca,b7,cw,f',gJ,hL,hd⟩:=h;exact⟨a,b,c,d,e,ca,b7,cw,f',gJ,hL,hs.trans hd⟩
 |gN chain aL H'=>obtain⟨a,b,c,d,e,x,y,ca,b7,cw,f',gJ,hL,hd,pR⟩:=h;exact⟨a,b,c,d,e,x,y,ca,b7,cw,f',gJ,hL,hd,hs.trans pR⟩
def lZ.bind{a3:aY}{H1:aw}{m:Machine}{agJ agK:List Item}{cf:dP}(h:lZ P B w0 μ H S fr cs m agJ (.ok a3 H1))
 (hk:∀fO bE Bg wT g4,bZ P B w0 fO H1 bE->Step μ fO H H1->iW P fO a3 fr Bg wT g4->kR S.bQ cs g4->a3.bQ=S.bQ->a3.cx=S.cx->lZ P B w0 fO H1 a3 fr g4 (lone (bR fr Bg wT agJ) g4 bE) agK cf):lZ P B w0 μ H S fr cs m agK cf:=by
 obtain⟨fO,bE,Bg,wT,g4,ca,b7,cw,f',gJ,hL,hd⟩:=h;have dB:=(hk fO bE Bg wT g4 ca b7 cw f' gJ hL).steps hd;cases cf with
 |ok aL H'=>obtain⟨a,b,c,d,e,aN,aH,bo,db,fH,hS,mI⟩:=dB;exact⟨a,b,c,d,e,aN,b7.trans aH,bo,f'.trans (gJ▸db),fH.trans gJ,hS.trans hL,mI⟩
 |gN chain aL H'=>obtain⟨a,b,c,d,e,x,y,aN,aH,bo,db,fH,hS,mI,o4⟩:=dB;exact⟨a,b,c,d,e,x,y,aN,b7.trans aH,bo,f'.trans (gJ▸db),fH.trans gJ,hS.trans hL,mI,o4⟩
def ano(gT:qk P B w0 call)(od:yf P B w0 aO)(l:List Oper):∀(i:Nat) (μ:bU) (w:World) (S:aY) (H:aw) (tmps:Array Value) (ds:List Deferred) (cs:List Frame) (cf:dP),
 ops.toList.drop i=l->bZ P B w0 μ H w->iW P μ S fr tmps ds cs->EE P call aO ops.toList l S H=some cf->
 lZ P B w0 μ H S fr cs (lone (bR fr tmps ds (.inRegion ops (List.range' i l.length)::k)) cs w) k cf:=by
 induction l with
 |nil=>
  intro i μ w S H tmps ds cs cf _ h ay he;have he:some (dP.ok S H)=some cf:=he;injection he with he;subst he
  exact⟨μ,w,tmps,ds,cs,h,Step.refl _ _,ay,kR.refl _ _ ay.vm,I,I,.one Wx⟩
 |cons o l aC=>
  intro i μ w S H tmps ds cs cf av h ay he;have he:aaa (EE P call aO ops.toList l) (one P call aO ops.toList S H o)=some cf:=he;have al:ops[i]?=some o:=by
   have:(ops.toList.drop i)[0]?=some o:=by rw[av];rfl
   simpa using this
  have vq:ops.toList.drop (i+1)=l:=by
   have:(ops.toList.drop i).drop 1=l:=by rw[av];rfl
   rw[zU] at this;exact this
  show lZ P B w0 μ H S fr cs (lone (bR fr tmps ds (.inRegion ops (i::List.range' (i+1) l.length)::k)) cs w) k cf;cases ob:one P call aO ops.toList S H o with
  |none=>rw[ob] at he;cases he
  |some dc=>
   rw[ob] at he;have ae:=CX (k:=k) (rest:=List.range' (i+1) l.length) gT od h ay al ob;cases dc with
   |gN chain a3 H1=>
    have he:some (dP.gN chain a3 H1)=some cf:=he;injection he with he;subst he
    exact ae
   |ok a3 H1=>
    have he:EE P call aO ops.toList l a3 H1=some cf:=he;exact ae.bind fun fO bE Bg wT g4 ca _ cw _ _ _=>aC (i+1) fO bE a3 H1 Bg wT g4 cf vq ca cw he
end
section
variable {P:Program}{H:aw}{S aL:aY}{o:Oper}{call:eW}{aO:hX}
def Kl{T ea:aZ Value}:∀{l:List Operand},(∀x∈l,a5 ea H x=a5 T H x)->gp ea H l=gp T H l:=by
 intro l;induction l with
 |nil=>intro _;rfl
 |cons x l aC=>
  intro h;simp only[gp];rw[h x (by simp),aC fun y an=>h y (by simp[an])]
def aeO{T ea:aZ Value}:∀{l:List (Nat×Operand)},(∀x∈l.map (·.2),a5 ea H x=a5 T H x)->mH ea H l=mH T H l:=by
 intro l;induction l with
 |nil=>intro _;rfl
 |cons x l aC=>
  intro h;obtain⟨i,x⟩:=x;simp only[mH];rw[h x (by simp),aC fun y an=>h y (by simp at an ⊢;exact .inr an)]
def anp{T ea:aZ Value}(hs:∀cs b,o.op≠.select cs b)(h:∀x∈o.op.operands,a5 ea H x=a5 T H x):fQ P ea H o=fQ P T H o:=by
 unfold fQ;rw[Kl fun x U=>h x (by simpa using U)];have:execOp (s' ea H) o=execOp (s' T H) o:=execOp_congr o hs fun x U=>by unfold s';rw[h x U]
 rw[this]
def aeG{T ea:aZ Value}{x:Option Operand}(h:∀y∈x.toArray,a5 ea H y=a5 T H y):iT ea H x=iT T H x:=by
 cases x with
 |none=>rfl
 |some x=>simp only[iT];rw[h x (by simp)]
def Ie(ar:aL.cx=S.cx)(h:∀x∈o.op.operands,a5 aL.T H x=a5 S.T H x):cA P call aO aL H o=cA P call aO S H o:=by
 have dX:(∀cs b,o.op≠.select cs b)->fQ P aL.T H o=fQ P S.T H o:=fun hs=>anp hs h;unfold cA fi;obtain⟨dst,op,type,pos,after,guard⟩:=o;simp only at h dX;cases op<;>simp only[Op.operands] at h<;>simp only
 case move x=>show hH (a5 aL.T H x) H=hH (a5 S.T H x) H;rw[h x (by simp)]
 case assign x=>show hH (a5 aL.T H x) H=hH (a5 S.T H x) H;rw[h x (by simp)]
 case pick c a b=>
  show AZ P _ a b (a5 aL.T H c)=AZ P _ a b (a5 S.T H c);rw[h c (by simp)];have aF:a5 aL.T H a=a5 S.T H a:=h a (by simp);have aV:a5 aL.T H b=a5 S.T H b:=h b (by simp);unfold AZ eI.a5;simp only[aF,aV]
 case alloc e=>rfl
 case box e x=>show Kg P _ e (a5 aL.T H x)=Kg P _ e (a5 S.T H x);rw[h x (by simp)];rfl
 case build t ps=>show CY P _ t (mH aL.T H ps.toList)=CY P _ t (mH S.T H ps.toList);rw[aeO fun x U=>h x (by simpa using U)];rfl
 case buildSlice t n ps=>show Kh P _ t n (mH aL.T H ps.toList)=Kh P _ t n (mH S.T H ps.toList);rw[aeO fun x U=>h x (by simpa using U)];rfl
 case load t a=>show C1 P _ t (a5 aL.T H a)=C1 P _ t (a5 S.T H a);rw[h a (by simp)];rfl
 case store t a v=>show F6 P _ t (a5 aL.T H a) (a5 aL.T H v)=F6 P _ t (a5 S.T H a) (a5 S.T H v);rw[h a (by simp),h v (by simp)];rfl
 case nilCheck x=>show C4 P _ (a5 aL.T H x)=C4 P _ (a5 S.T H x);rw[h x (by simp)];rfl
 case binOp op t x y u=>
  have ap:=dX (fun _ _=>by simp);show mG P _ op t (a5 aL.T H x) (a5 aL.T H y)=mG P _ op t (a5 S.T H x) (a5 S.T H y);rw[h x (by simp),h y (by simp)];have Fo:∀a b,vM P ⟨call,aO,aL,H,⟨dst,.binOp op t x y u,type,pos,after,guard⟩⟩ op t a b=vM P ⟨call,aO,S,H,⟨dst,.binOp op t x y u,type,pos,after,guard⟩⟩ op t a b:=fun a b=>by
   unfold vM eI.pC;simp only[ap];unfold xK;rfl
  unfold mG VM eI.pC;simp only[ap,Fo]
 case unOp op t x=>
  have ap:=dX (fun _ _=>by simp);exact ap
 case convert s d x=>
  have ap:=dX (fun _ _=>by simp);show zq P _ s d (a5 aL.T H x)=zq P _ s d (a5 S.T H x);rw[h x (by simp)];unfold zq eI.pC;simp only[ap]
 case makeInterface t x=>show C3 P _ t (a5 aL.T H x) _=C3 P _ t (a5 S.T H x) _;rw[h x (by simp)];rfl
 case makeFunc fn first captured=>
  show C2 P _ fn (gp aL.T H first.toList) (gp aL.T H captured.toList)=C2 P _ fn (gp S.T H first.toList) (gp S.T H captured.toList);rw[Kl fun x U=>h x (by simp at U;simp[U]),Kl fun x U=>h x (by simp at U;simp[U])];rfl
 case makeSlice t l c=>show Ki P _ t (a5 aL.T H l) (a5 aL.T H c)=Ki P _ t (a5 S.T H l) (a5 S.T H c);rw[h l (by simp),h c (by simp)];rfl
 case slice t x lo hi hG=>
  have ap:=dX (fun _ _=>by simp);cases hG with
  |some m=>rfl
  |none=>
   show oi P _ t (a5 aL.T H x) (iT aL.T H lo) (iT aL.T H hi)=oi P _ t (a5 S.T H x) (iT S.T H lo) (iT S.T H hi);rw[h x (by simp),aeG (x:=lo) fun y an=>h y (by simp at an;simp[an]),aeG (x:=hi) fun y an=>h y (by simp at an;simp[an])];unfold oi eI.pC;simp only[ap]
 case fieldAddr t x f=>show C0 P _ t f (a5 aL.T H x)=C0 P _ t f (a5 S.T H x);rw[h x (by simp)];rfl
 case field t x f=>show F5 P _ f (a5 aL.T H x) _=F5 P _ f (a5 S.T H x) _;rw[h x (by simp)];rfl
 case indexAddr t x i=>show zr P _ t (a5 aL.T H x) (a5 aL.T H i)=zr P _ t (a5 S.T H x) (a5 S.T H i);rw[h x (by simp),h i (by simp)];rfl
 case index t x i=>show AY P _ (a5 aL.T H x) (a5 aL.T H i) _=AY P _ (a5 S.T H x) (a5 S.T H i) _;rw[h x (by simp),h i (by simp)];rfl
 case typeAssert x t a ok=>show C5 P _ a ok (a5 aL.T H x)=C5 P _ a ok (a5 S.T H x);rw[h x (by simp)];rfl
 case extract x dM=>show CZ P _ dM (a5 aL.T H x)=CZ P _ dM (a5 S.T H x);rw[h x (by simp)];rfl
 case call c=>
  have ap:=dX (fun _ _=>by simp);have qI:gp aL.T H c.args.toList=gp S.T H c.args.toList:=Kl fun x U=>h x (by simp[Call.operands,GI.1 U]);show kN P _ c=kN P _ c;unfold kN;cases ax:c.callee with
  |builtin b=>
   simp only
   unfold tB;simp only[qI,ap]
  |value f=>
   have ay:a5 aL.T H f=a5 S.T H f:=h f (by simp[Call.operands,ax]);simp only
   unfold nj;simp only[qI,ax,ay]
  |invoke r m=>
   have ay:a5 aL.T H r=a5 S.T H r:=h r (by simp[Call.operands,ax]);simp only
   unfold nj;simp only[qI,ax,ay]
 case defer c=>
  have qI:gp aL.T H c.args.toList=gp S.T H c.args.toList:=Kl fun x U=>h x (by simp[Call.operands,GI.1 U]);show xL P _ c=xL P _ c;unfold xL Ia;simp only[ar,qI];cases ax:c.callee with
  |builtin b=>rfl
  |value f=>
   have ay:a5 aL.T H f=a5 S.T H f:=h f (by simp[Call.operands,ax]);simp only[ay]
  |invoke r m=>
   have ay:a5 aL.T H r=a5 S.T H r:=h r (by simp[Call.operands,ax]);simp only[ay]
 case panic x=>show Kj P _ (a5 aL.T H x)=Kj P _ (a5 S.T H x);rw[h x (by simp)];rfl
end
section
variable {P:Program}{H H':aw}{S aL:aY}{o:Oper}{call:eW}{aO:hX}{v:Value}
def q'{x:Option Value}(he:hH x H=some (.val v H')):H'=H:=by
 cases x with
 |none=>cases he
 |some x=>have he:some (cY.val x H)=some (.val v H'):=he;injection he with he;injection he with _ he;exact he.symm
def anq{T:aZ Value}(he:fQ P T H o=some (.val v H')):H'=H:=by
 unfold fQ at he;cases ae:gp T H o.op.operands.toList with
 |none=>rw[ae] at he;cases he
 |some vs=>
  rw[ae] at he;cases ag:vs.all plain with
  |false=>simp only[ag] at he;cases he
  |true=>
   simp only[ag,cd] at he;cases aE:fw P (execOp (s' T H) o) with
   |none=>rw[aE] at he;cases he
   |some r=>
    rw[aE] at he;cases r with
    |value u=>
     simp only at he;cases a6:plain u with
     |false=>rw[a6] at he;cases he
     |true=>rw[a6] at he;injection he with he;injection he with _ he;exact he.symm
    |skip=>injection he with he;cases he
    |_=>cases he
def aeI{a b:Option cY}(aI:a=some (.val v H')->H'=H)(ak:b=some (.val v H')->H'=H)(he:orElse a b=some (.val v H')):H'=H:=by
 cases a with
 |none=>exact ak he
 |some a=>exact aI he
def O9{n:Int}{k:IntKind}(he:sA n (q6 H k)=some (.val v H')):H'=H:=by
 rcases n with(_|m)|(_|m)<;>(injection he with he;injection he with _ he;exact he.symm)
def axQ{b:Bool}(he:zy H b=some (.val v H')):H'=H:=by
 cases b<;>(injection he with he;injection he with _ he;exact he.symm)
def ajR{b:Bool}{u:Value}(h:(bif b then none else some (cY.val u H))=some (.val v H')):H'=H:=by
 cases b<;>simp at h;exact h.2.symm
def Z'(ax:FB o.op=false)(aI:AK o.op=false)(he:cA P call aO S H o=some (.val v H'))(hZ:H'.ao=H.ao):H'=H:=by
 unfold cA fi at he;obtain⟨dst,op,type,pos,after,guard⟩:=o;have dX:∀o',fQ P S.T H o'=some (.val v H')->H'=H:=fun o' q=>anq q;cases op<;>simp only[FB,AK] at ax aI<;>simp only at he
 case move x=>exact q' (x:=a5 S.T H x) he
 case assign x=>exact q' (x:=a5 S.T H x) he
 case pick c a b=>
  have he:AZ P _ a b (a5 S.T H c)=_:=he;unfold AZ at he;split at he
  ·exact q' he
  ·exact q' he
  ·cases he
 case alloc=>cases aI
 case box=>cases aI
 case build t ps=>
  have he:CY P _ t (mH S.T H ps.toList)=_:=he;unfold CY at he;split at he
  ·exact q' he
  ·cases he
 case buildSlice=>cases aI
 case load t a=>
  have he:C1 P _ t (a5 S.T H a)=_:=he;unfold C1 at he;split at he
  ·exact q' he
  ·cases he
 case nilCheck x=>
  have he:C4 P _ (a5 S.T H x)=_:=he;unfold C4 at he;split at he<;>first|(injection he with he;injection he with _ he;exact he.symm)|cases he
 case binOp op t x y u=>
  have he:mG P _ op t (a5 S.T H x) (a5 S.T H y)=_:=he;have Fo:∀X:eI,X.H=H->X.S=S->∀a b,vM P X op t a b=some (.val v H')->H'=H:=fun X eO au a b q=>by
   unfold vM at q;refine aeI (fun q=>?_) (fun q=>?_) q
   ·unfold eI.pC at q;rw[eO,au] at q;exact dX _ q
   ·unfold xK at q;split at q
    ·split at q
     ·injection q with q;injection q with _ q;rw[<-q,eO]
     ·cases q
    ·split at q
     ·injection q with q;injection q with _ q;rw[<-q,eO]
     ·cases q
    ·cases q
  unfold mG at he;split at he
  ·unfold VM at he;rename_i k a l b _ _;cases hk:ny k l with
   |false=>rw[hk,dQ] at he;exact Fo _ (by rfl) (by rfl) _ _ he
   |true=>
    rw[hk,cd] at he;unfold kf at he;split at he<;>first|exact O9 he|exact axQ he|exact dX _ he
  ·exact Fo _ (by rfl) (by rfl) _ _ he
  ·cases he
 case unOp op t x=>exact dX _ he
 case convert s d x=>
  have he:zq P _ s d (a5 S.T H x)=_:=he;unfold zq at he;split at he
  ·cases he
  ·rename_i ux _;cases az:yB P H s d ux with
   |none=>rw[az] at he;exact dX _ he
   |some p=>
    obtain⟨u,H1⟩:=p;rw[az] at he;have he:some (cY.val u H1)=some (.val v H'):=he;injection he with he;injection he with _ he;subst he
    have:=anv az;omega
  ·exact q' he
  ·exact q' he
  ·split at he
   ·exact O9 he
   ·exact dX _ he
  ·exact dX _ he
 case makeInterface t x=>
  have he:C3 P _ t (a5 S.T H x) (P.underlying t)=_:=he;unfold C3 at he;split at he<;>first|(injection he with he;injection he with _ he;exact he.symm)|cases he
 case makeFunc fn first captured=>
  have he:C2 P _ fn (gp S.T H first.toList) (gp S.T H captured.toList)=_:=he;unfold C2 at he;split at he
  ·split at he
   ·cases he
   ·injection he with he;injection he with _ he;exact he.symm
  ·cases he
 case makeMap=>cases aI
 case makeSlice=>cases aI
 case slice t x lo hi hG=>
  cases hG with
  |some m=>cases he
  |none=>
   have he:oi P _ t (a5 S.T H x) (iT S.T H lo) (iT S.T H hi)=_:=he;unfold oi at he;split at he
   ·exact aeI (fun q=>q' q) (fun q=>dX _ q) he
   ·cases he
 case fieldAddr t x f=>
  have he:C0 P _ t f (a5 S.T H x)=_:=he;unfold C0 at he;split at he
  ·exact q' he
  ·cases he
 case field t x f=>
  have he:F5 P _ f (a5 S.T H x) (P.underlying t)=_:=he;unfold F5 at he;split at he
  ·split at he
   ·exact q' he
   ·cases he
  ·cases he
 case indexAddr t x i=>
  have he:zr P _ t (a5 S.T H x) (a5 S.T H i)=_:=he;unfold zr at he;split at he
  ·exact q' he
  ·cases he
 case index t x i=>
  have he:AY P _ (a5 S.T H x) (a5 S.T H i) (P.underlying t)=_:=he;unfold AY at he;split at he
  ·split at he
   ·exact q' he
   ·cases he
  ·split at he
   ·split at he
    ·exact O9 he
    ·cases he
   ·cases he
  ·cases he
 case typeAssert x t a ok=>
  have he:C5 P _ a ok (a5 S.T H x)=_:=he;unfold C5 at he;split at he
  ·exact q' he
  ·cases he
 case extract x dM=>
  have he:CZ P _ dM (a5 S.T H x)=_:=he;unfold CZ at he;split at he
  ·exact q' he
  ·cases he
 case call c=>
  have he:kN P _ c=_:=he;obtain⟨callee,args,argTypes⟩:=c;unfold kN at he;cases callee with
  |value f=>cases ax
  |invoke r m=>cases ax
  |builtin b=>
   simp only at he ax;unfold tB at he;split at he
   ·cases he
   ·cases b<;>simp only at ax<;>first|cases ax|skip
    all_goals simp only at he
    all_goals first
     |exact dX _ he
     |skip
    all_goals (
     split at he
     all_goals first
      |contradiction
      |exact dX _ he
      |(cases he;done)
      |(cases he;rfl)
      |skip
     all_goals (
      split at he
      all_goals first
       |contradiction
       |exact dX _ he
       |(cases he;done)
       |(cases he;rfl)
       |exact ajR he
       |(split at he<;>first|(cases he;done)|exact O9 he)
       |(split at he<;>first|(cases he;done)|(cases he;rfl))))
 all_goals first|(cases ax;done)|(cases he;done)
end
def aZ.Ip{α:Type}(t:aZ α):∀(p:Nat->Bool) (n:Nat),(t.fU p).get n=if p n then t.get n else none:=by
 induction t with
 |leaf=>intro p n;simp[aZ.fU,aZ.aaA]
 |node v l r y' za=>
  intro p n;cases n with
  |zero=>simp[aZ.fU,aZ.Iq]
  |succ m=>
   simp only[aZ.fU,aZ.sB];by_cases h:m % 2=0
   ·rw[aP h,aP h,y'];have:2*(m / 2)+1=m+1:=by omega
    rw[this]
   ·rw[aG h,aG h,za];have:2*(m / 2)+2=m+1:=by omega
    rw[this]
def aZ.ae9{α:Type}{a:α}{t:aZ α}:∀{j0:aZ α} {n:Nat} (p:Nat->Bool),aZ.put a t n=some j0->∃azu,aZ.put a (t.fU p) n=some azu:=by
 induction t with
 |leaf=>
  intro j0 n p h;exact⟨j0,h⟩
 |node v l r y' za=>
  intro j0 n p h;cases n with
  |zero=>exact⟨_,I⟩
  |succ m=>
   simp only[aZ.fU];rw[aZ.OW] at h ⊢;by_cases hm:m % 2=0
   ·rw[aP hm] at h ⊢;cases aj:aZ.put a l (m / 2) with
    |none=>rw[aj] at h;cases h
    |some a9=>obtain⟨N4,e⟩:=y' (fun k=>p (2*k+1)) aj;rw[e];exact⟨_,I⟩
   ·rw[aG hm] at h ⊢;cases ar:aZ.put a r (m / 2) with
    |none=>rw[ar] at h;cases h
    |some cu=>obtain⟨aFH,e⟩:=za (fun k=>p (2*k+2)) ar;rw[e];exact⟨_,I⟩
def aY.put_eq{S aL:aY}{dst:Option Tmp}{v:Value}(he:S.put dst v=some aL):
 aL.n=S.n/\aL.ds=S.ds/\aL.bQ=S.bQ/\aL.bg=S.bg/\aL.cx=S.cx/\∀t,aL.T.get t=if dst=some t then some v else S.T.get t:=by
 cases dst with
 |none=>
  have he:some S=some aL:=he;injection he with he;subst he
  exact⟨I,I,I,I,I,fun t=>by simp⟩
 |some d=>
  obtain⟨T,n,gy,bQ,bg,cx⟩:=S;have he:Bool.rec (motive:=fun _=>Option aY) none (aY.r3 n gy bQ bg cx (aZ.put v T d)) (Nat.ble (Nat.succ d) n)=some aL:=he;cases ak:Nat.ble (Nat.succ d) n with
  |false=>rw[ak] at he;cases he
  |true=>
   rw[ak] at he;have he:aY.r3 n gy bQ bg cx (aZ.put v T d)=some aL:=he;cases ap:aZ.put v T d with
   |none=>rw[ap] at he;cases he
   |some ea=>
    rw[ap] at he;have he:some (aY.mk ea n gy bQ bg cx)=some aL:=he;injection he with he;subst he
    refine⟨I,I,I,I,I,fun t=>?_⟩;show ea.get t=_;rw[aZ.get_put ap];by_cases h:t=d
    ·subst h;simp
    ·rw[aG h,aG (fun q=>h (by injection q with q;exact q.symm))]
def aY.axg{S aL:aY}{dst:Option Tmp}{v:Value}(p:Nat->Bool)(he:S.put dst v=some aL):∃qx,(S.only p).put dst v=some qx:=by
 cases dst with
 |none=>exact⟨_,I⟩
 |some d=>
  obtain⟨T,n,gy,bQ,bg,cx⟩:=S;have he:Bool.rec (motive:=fun _=>Option aY) none (aY.r3 n gy bQ bg cx (aZ.put v T d)) (Nat.ble (Nat.succ d) n)=some aL:=he;show ∃qx,Bool.rec (motive:=fun _=>Option aY) none (aY.r3 n gy bQ bg cx (aZ.put v (T.fU p) d)) (Nat.ble (Nat.succ d) n)=some qx;cases ak:Nat.ble (Nat.succ d) n with
  |false=>rw[ak] at he;cases he
  |true=>
   rw[ak] at he;have he:aY.r3 n gy bQ bg cx (aZ.put v T d)=some aL:=he;cases ap:aZ.put v T d with
   |none=>rw[ap] at he;cases he
   |some ea=>
    obtain⟨aBB,e⟩:=aZ.ae9 p ap;rw[e];exact⟨_,I⟩
section
variable {P:Program}{H:aw}{T ea:aZ Value}{ops:List Oper}{o:Oper}
def ado{t:Tmp}(h:Operand.tmp t∈o.op.operands):t∈looks ops o:=by
 unfold looks;exact tq _ (List.mem_filterMap.2 ⟨.tmp t,by simpa using h,I⟩)
def Kk(h:∀t∈looks ops o,ea.get t=T.get t):∀x∈o.op.operands,a5 ea H x=a5 T H x:=fun x U=>by
 cases x with
 |tmp t=>exact h t (ado U)
 |const c=>rfl
 |global g=>rfl
 |func f=>rfl
def av4(h:∀t∈looks ops o,ea.get t=T.get t):∀x∈o.op.operands,r2 ea x=r2 T x:=fun x U=>by
 cases x with
 |tmp t=>exact h t (ado U)
 |const c=>rfl
 |global g=>rfl
 |func f=>rfl
def tF(h:∀t∈looks ops o,ea.get t=T.get t):gK ops ea o=gK ops T o:=by
 unfold gK;cases aB:o.guard with
 |none=>rfl
 |some q=>
  obtain⟨j,want⟩:=q;show w3 ops ea (j,want)=w3 ops T (j,want);unfold w3;simp only
  cases aA:nth ops j with
  |none=>rfl
  |some p=>
   simp only
   cases av:p.dst with
   |none=>rfl
   |some d=>
    simp only
    rw[h d (by unfold looks;rw[aB];simp only[aA,av];exact j7 _ (by simp))]
def awl:∀{l:List (Nat×Operand)},(∀x∈l.map (·.2),r2 ea x=r2 T x)->ur ea l=ur T l:=by
 intro l;induction l with
 |nil=>intro _;rfl
 |cons x l aC=>
  intro h;obtain⟨i,x⟩:=x;simp only[ur];rw[h x (by simp),aC fun y an=>h y (by simp at an ⊢;exact .inr an)]
def QB(h:∀t∈looks ops o,ea.get t=T.get t):oG P ea o.op=oG P T o.op:=by
 have h:=av4 h;cases al:o.op<;>rw[al] at h<;>simp only[Op.operands] at h<;>simp only[oG]
 case box e x=>rw[h x (by simp)]
 case buildSlice t n ps=>rw[awl fun x U=>h x (by simpa using U)]
 case makeSlice t l c=>rw[h l (by simp),h c (by simp)]
 case makeMap t r=>cases r<;>rfl
end
def ajl{f:Value->Value->Bool}(ay:∀x y,f x y=true->x=y):∀{l m:List Value},js f l m=true->l=m:=by
 intro l;induction l with
 |nil=>intro m h;cases m with
  |nil=>rfl
  |cons=>cases h
 |cons x l aC=>intro m h;cases m with
  |nil=>cases h
  |cons y m=>
   simp only[js,gQ] at h;rw[ay x y h.1,aC h.2]
def Yu{a b:Option Addr}(h:addrEq a b=true):a=b:=by
 unfold addrEq at h;split at h
 ·rfl
 ·simp only[gQ] at h;rw[eM h.1,eM h.2]
 ·rfl
 ·cases h
def aAB:∀{n:Nat} {a b:Value},ep n a b=true->a=b:=by
 intro n;induction n with
 |zero=>intro a b h;cases h
 |succ n aC=>
  intro a b h;have arr:∀{x y:Array Value},js (ep n) x.toList y.toList=true->x=y:=fun q=>r9 (ajl (fun _ _ z=>aC z) q);unfold ep at h;split at h
  ·rename_i a b;cases a<;>cases b<;>first|rfl|cases h
  ·simp only[gQ] at h;rw[ac7 h.1];have:=h.2;rw[Fy] at this;rw[eq_of_beq this]
  ·rename_i a b;have:=OE h;obtain⟨⟨x⟩⟩:=a;obtain⟨⟨y⟩⟩:=b;simp at this;rw[this]
  ·rw[Yu h]
  ·simp only[gQ] at h;rw[Yu h.1.1,eM h.1.2,eM h.2]
  ·rename_i a b;cases a<;>cases b<;>simp only[ad9] at h<;>first|rfl|cases h|(rw[eM h])
  ·rfl
  ·rfl
  ·simp only[gQ] at h;rw[eM h.1,aC h.2]
  ·rw[arr h]
  ·rw[arr h]
  ·simp only[gQ] at h;rename_i f a b g c d;have:f=g:=by
    have:=h.1.1;unfold aan at this;split at this
    ·rw[eM this]
    ·cases this
   rw[this,arr h.1.2,arr h.2]
  ·cases h
section
variable {P:Program}{B:Nat->Prop}{w0 w:World}{μ:bU}{H H':aw}
def bZ.awG(h:bZ P B w0 μ H w){a:Nat}{b:fP}(aA:H.new b=some (a,H'))(al:lr (some b)=false):bZ P B w0 μ H' w:=by
 obtain⟨rfl,aF,aV,cj,eT,cR⟩:=aw.p4 aA;have ed:∀x L,μ x=some L->H'.mem.get x=H.mem.get x:=fun x L U=>by
  have:=h.lt x L U;rw[cR,aG (by omega)]
 refine⟨h.below,h.ph,?_,?_,?_,?_,?_,?_,?_,?_,?_,?_⟩
 ·intro x L U;obtain⟨b',o',ae,ag,aE⟩:=h.gS x L U;exact⟨b',o',by rw[ed x L U];exact ae,ag,aE⟩
 ·intro x y gU h3 eU U an pt;rcases h.sep x y gU h3 eU U an pt with d|d|⟨f,l,⟨c,e,z,s,q⟩,⟨c',bA,h8,de,dE⟩,aj,cz,cX⟩
  ·exact .inl (by rw[ed x gU U];exact d)
  ·exact .inr (.inl (by rw[ed y h3 an];exact d))
  ·exact .inr (.inr ⟨f,l,⟨c,e,z,s,by rw[ed x gU U];exact q⟩,⟨c',bA,h8,de,by rw[ed y h3 an];exact dE⟩,by rw[aV];exact aj,cz,cX⟩)
 ·intro x L U;have:=h.lt x L U;omega
 ·intro x L U aB;exact h.own x L U (by omega)
 ·intro x L U aB eb;exact h.new x L U (by omega) (by rw[ed x L U] at eb;exact eb)
 ·intro g c e o f z s aB hm;have pX:g≠H.ao:=by have:=h.lH;omega
  rw[cR,aG pX] at hm;exact h.vd g c e o f z s (by omega) hm
 ·have:=h.lH;omega
 ·intro x c e f z s hm;rw[cR] at hm;split at hm
  ·injection hm with hm;rw[hm] at al;simp[lr] at al
  ·rw[cj];exact h.sw x c e f z s hm
 ·intro f l x aj U;rw[aV] at aj;obtain⟨a,d⟩:=h.mv f l x aj U;refine⟨by omega,?_⟩;rw[cR,aG (by omega)];exact d
 ·intro f l aj;rw[aV] at aj;refine(h.wZ f l aj).imp_of_mem ?_;intro x y U an eU c e f1 z s c' bA ck h8 de q dE;have gd:=(h.mv f l x aj U).1;have s0:=(h.mv f l y aj an).1;rw[cR,aG (by omega)] at q dE;exact eU c e _ z s c' bA ck h8 de q dE
def bZ.fill(h:bZ P B w0 μ H w){a:Nat}{b:fP}{o:Obj}{L:Loc}(hm:μ a=none)(cI:a<H.ao)(aB:H.bJ<=a)(jI:H.mem.get a=some b)(ar:L.r=w.heap.size)(ak:kP P μ L b o):
 bZ P B w0 (μ.put a L) H (w.alloc o)/\Ext μ (μ.put a L):=by
 have h7:Ext μ (μ.put a L):=fun id bM U=>by
  by_cases e:id=a
  ·subst e;rw[hm] at U;cases U
  ·rw[bU.vT _ _ e];exact U
 have ed:∀x bM,(μ.put a L) x=some bM->x≠a->μ x=some bM:=fun x bM q b=>by rwa [bU.vT _ _ b] at q
 have TK:∀x bM,μ x=some bM->bM.r<w.heap.size:=fun x bM U=>by
  obtain⟨b',o',_,al,_⟩:=h.gS x bM U;rcases ha bM.r w.heap.size with dB|dB
  ·exact dB
  ·rw[uG dB] at al;cases al
 refine⟨⟨h.below.alloc h.ph o,?_,?_,?_,?_,?_,?_,?_,h.lH,h.sw,h.mv,h.wZ⟩,h7⟩
 ·intro k hk;have:=h.ph k hk;show k<(w.heap.push o).size;rw[Xs];omega
 ·intro x bM U;by_cases dD:x=a
  ·subst dD;rw[bU.k9] at U;injection U with U;subst U
   exact⟨b,o,jI,by rw[E3,ar];simp,ak.mono h7⟩
  ·have gd:=ed x bM U dD;obtain⟨b',o',ae,ag,aE⟩:=h.gS x bM gd;exact⟨b',o',ae,by rw[E3,aG (by have:=TK x bM gd;omega)];exact ag,aE.mono h7⟩
 ·intro x y gU h3 eU U an pt;by_cases dD:x=a
  ·subst dD;rw[bU.k9] at U;injection U with U;subst U
   have:=TK y h3 (ed y h3 an (Ne.symm eU));omega
  ·by_cases me:y=a
   ·subst me;rw[bU.k9] at an;injection an with an;subst an
    have:=TK x gU (ed x gU U dD);omega
   ·exact h.sep x y gU h3 eU (ed x gU U dD) (ed y h3 an me) pt
 ·intro x bM U;by_cases dD:x=a
  ·omega
  ·exact h.lt x bM (ed x bM U dD)
 ·intro x bM U I6;have dD:x≠a:=by omega
  exact h.own x bM (ed x bM U dD) I6
 ·intro x bM U I6 eb;by_cases dD:x=a
  ·subst dD;rw[bU.k9] at U;injection U with U;subst U
   rw[ar];exact fun q=>DY _ (h.ph _ q)
  ·exact h.new x bM (ed x bM U dD) I6 eb
 ·intro g c e o f z s I6 TL;obtain⟨bM,bi⟩:=h.vd g c e o f z s I6 TL;exact⟨bM,h7 _ _ bi⟩
def Wg{cells cells':List Value}{elem:TypeId}(ax:bW μ cells cells')(r:Nat):kP P μ ⟨r,cells.length,P.cellsOf elem⟩ (.row cells elem false 0 0 false) (.cells cells'.toArray elem):=
 ⟨I,by simp[ax.1],I,b2 _,fun _=>rfl,fun i v v' a b=>ax.2 i v v' a (by simpa using b),fun off _ ae ag=>by simp at ag,fun _=>.inl I⟩
def jL.ok:jL->Bool
 |.De _ c=>decide (c<cK)
 |_=>true
def jL.rel{eK:jL}(h:eK.ok=true){a:Nat}{L:Loc}(hm:μ a=some L):bk μ (eK.at a) (eK.at L.r):=by
 cases eK with
 |ptr=>exact .ptr a 0 L hm
 |De l c=>exact .o5 a 0 l c L hm (OE h)
 |map=>exact .map a L hm
def PT(P:Program)(μ:bU)(w:World)(s:Sem Value)(b:fP)(eK:jL):Prop:=
 ∃kk N sz,s.run P w=.ok (eK.at w.heap.size) (w.alloc kk)/\kP P μ ⟨w.heap.size,N,sz⟩ b kk/\lr (some b)=false/\eK.ok=true
def Yz{elem:TypeId}{v v':Value}{b:fP}{eK:jL}(az:bk μ v v')(he:BD elem v=some (b,eK))(w:World):PT P μ w (Instr.box elem v') b eK:=by
 unfold BD at he;cases al:v.cells.toList.all fx with
 |false=>rw[al] at he;cases he
 |true=>
  rw[al,cd] at he;simp only[cb,c8] at he;obtain⟨rfl,rfl⟩:=he;refine⟨_,_,_,?_,Wg az.cells _,I,I⟩;simp[Instr.box,newVar,newRow,newObj,Sem.run,jL.at]
def ajr{t:TypeId}{l a9 c c':Value}{b:fP}{eK:jL}(aj:bk μ l a9)(ax:bk μ c c')(he:Hm P t l c=some (b,eK))(w:World):PT P μ w (Instr.makeSlice t a9 c') b eK:=by
 unfold Hm at he;cases l with
 |int aX l=>
  cases c with
  |int aT c=>
   obtain rfl:=aj.rW;obtain rfl:=ax.rW;cases hu:P.underlying t with
   |none=>rw[hu] at he;simp at he
   |some d=>
    rw[hu] at he;cases d with
    |slice elem=>
     simp only at he;cases aR:h2 P elem with
     |none=>rw[aR] at he;simp at he
     |some z=>
      rw[aR] at he;cases iR:wL P elem with
      |none=>rw[iR] at he;simp at he
      |some jR=>
       rw[iR] at he;cases hs:e6 P elem with
       |none=>rw[hs] at he;simp at he
       |some sz=>
        rw[hs] at he;simp only at he;cases vn:rV c 1000000 with
        |none=>rw[vn] at he;simp at he
        |some bu=>
         rw[vn] at he;cases dC:rV l 1000000 with
         |none=>rw[dC] at he;simp at he
         |some hO=>
          rw[dC] at he;simp only at he;cases yP:(Nat.ble hO bu&&Nat.ble jR 1000000&&Nat.beq z.cells.toList.length sz&&z.cells.toList.all fx&&plain z) with
          |false=>rw[yP] at he;simp at he
          |true=>
           rw[yP,cd] at he;simp only[gQ] at yP;obtain⟨⟨⟨⟨aN,aH⟩,bo⟩,db⟩,fH⟩:=yP;have aN:=iE aN;have aH:=iE aH;have bo:=eM bo;obtain⟨rfl,hM⟩:=FA vn;obtain⟨rfl,pZ⟩:=FA dC;simp only[cb,c8] at he;obtain⟨rfl,rfl⟩:=he;have t':bW μ z.cells.toList z.cells.toList:=(q1 fH).cells;have yN:bW μ (fp z.cells.toList bu) (fp z.cells.toList bu):=bW.Gi fun v az=>by
               exact K4 (p:=fun v=>bk μ v v) az (fun u hu=>by
                obtain⟨i,hi⟩:=nK.1 hu;exact t'.2 i u u hi hi)
           refine⟨_,_,_,?_,Wg yN _,I,lm (by have:(1000000:Nat)<cK:=by decide
                                            omega)⟩
           obtain⟨i,hi,rfl⟩:=QW iR
           have s3:i.zero=some z:=by simpa[h2,hi] using aR
           have tU:i.size=sz:=by simpa[e6,hi] using hs
           have hmul:i.bytes*bu<=1000000*1000000:=zY aH hM;have jj:=K5 z.cells.toList bu;have hE:=run_make (P:=P) w t elem i z hu hi s3 aX aT (hO:Int) (bu:Int) (by omega) (by omega) (by
               have:(i.bytes:Int)*(bu:Int)=((i.bytes*bu:Nat):Int):=by simp
               rw[this];omega) (by omega)
           rw[hE];simp only[ff,jL.at];congr 3
           rw[<-jj];simp[madeCells,tU,<-bo]
    |_=>simp at he
  |_=>simp at he
 |_=>simp at he
def ajp{t:TypeId}{len:Nat}{parts nY:List (Nat×Value)}{b:fP}{eK:jL}(ap:ya μ parts nY)(he:Hl P t len parts=some (b,eK))(w:World):PT P μ w (Instr.buildSlice t len nY.toArray) b eK:=by
 unfold Hl at he;cases hu:P.underlying t with
 |none=>rw[hu] at he;simp at he
 |some d=>
  rw[hu] at he;cases d with
  |slice elem=>
   simp only at he;cases hs:e6 P elem with
   |none=>rw[hs] at he;simp at he
   |some sz=>
    rw[hs] at he;cases aR:h2 P elem with
    |none=>rw[aR] at he;simp at he
    |some z=>
     rw[aR] at he;simp only at he;cases ax:(Nat.ble len 100000&&Nat.ble (len*sz) 100000&&plain z&&Nat.beq z.cells.toList.length sz) with
     |false=>rw[ax] at he;simp at he
     |true=>
      rw[ax,cd] at he;simp only[gQ] at ax;obtain⟨⟨⟨k',aN⟩,aH⟩,bo⟩:=ax;have k':=iE k';have aN:=iE aN;have bo:=eM bo;cases ay:oN (fun i=>some (i*sz,sz)) (fp z.cells.toList len) parts with
      |none=>rw[ay] at he;simp at he
      |some cells=>
       rw[ay] at he;simp only at he;cases al:cells.all fx with
       |false=>rw[al] at he;simp at he
       |true=>
        rw[al,cd] at he;simp only[cb,c8] at he;obtain⟨rfl,rfl⟩:=he;have t':bW μ z.cells.toList z.cells.toList:=(q1 aH).cells;have yN:bW μ (fp z.cells.toList len) (fp z.cells.toList len):=bW.Gi fun v az=>
         K4 (p:=fun v=>bk μ v v) az (fun u hu=>by
           obtain⟨i,hi⟩:=nK.1 hu;exact t'.2 i u u hi hi)
        obtain⟨cu,a,b⟩:=MB ap yN ay
        refine⟨_,_,_,?_,Wg b _,I,lm (by have:(100000:Nat)<cK:=by decide
                                        omega)⟩
        have jj:=K5 z.cells.toList len;have asK:z.cells.size=sz:=by simpa using bo
        have S5:¬(16777216<len*sz):=by omega
        rw[bo] at jj;simp only[ah2] at jj;by_cases aQ:len*sz=0
        ·have qM:fp z.cells.toList len=[]:=zV.1 (by rw[Xk,bo];exact aQ)
         rw[qM] at a;have bD:Instr.fill (fun i=>some (i*sz,sz)) (Array.map (fun _=>(default:Value)) (Array.range 0)) nY=some cu.toArray:=by
          have kz:Array.map (fun _:Nat=>(default:Value)) (Array.range 0)=#[]:=by simp
          rw[kz];exact a
         simp[Instr.buildSlice,fo hu,lS hs,aQ,bD,newRow,newObj,Sem.run,jL.at]
        ·have bD:Instr.fill (fun i=>some (i*sz,sz)) ((Array.range (len*sz)).map fun i=>z.cells[i % z.cells.size]!) nY=some cu.toArray:=by rw[jj];exact a
         simp[Instr.buildSlice,fo hu,lS hs,S5,aQ,x0 aR,bD,newRow,newObj,Sem.run,jL.at]
  |_=>simp at he
def OK{T:aZ Value}{n:Nat}{tmps:Array Value}(aM:lj μ T n tmps){x:Operand}{v:Value}(he:r2 T x=some v):bk μ v (dk tmps x):=by
 cases x with
 |tmp t=>exact aM.2 t v he
 |const c=>
  have he:(bif plain c then some c else none)=some v:=he;cases ap:plain c with
  |false=>rw[ap] at he;simp at he
  |true=>rw[ap] at he;simp at he;subst he;exact q1 ap
 |global g=>cases he
 |func f=>
  have he:some (Value.func (.func f) #[] #[])=some v:=he;injection he with he;subst he
  exact .func _ _ _ _ _ I I I (fun i v v' q=>by simp at q) (fun i v v' q=>by simp at q)
def awn{T:aZ Value}{n:Nat}{tmps:Array Value}(aM:lj μ T n tmps):∀{l:List (Nat×Operand)} {ps:List (Nat×Value)},ur T l=some ps->ya μ ps (l.map fun(i,x)=>(i,dk tmps x)):=by
 intro l;induction l with
 |nil=>intro ps h;simp[ur] at h;subst h;exact⟨I,fun i p iK q=>by simp at q⟩
 |cons x l aC=>
  intro ps h;obtain⟨i,x⟩:=x;simp only[ur] at h;cases ae:r2 T x with
  |none=>rw[ae] at h;cases h
  |some v=>
   rw[ae] at h;cases ag:ur T l with
   |none=>rw[ag] at h;cases h
   |some r=>
    rw[ag] at h;injection h with h;subst h
    have:=aC ag;refine⟨by simp[this.1],fun j p iK q dE=>?_⟩;cases j with
    |zero=>simp at q dE;subst q;subst dE;exact⟨I,OK aM ae⟩
    |succ j=>exact this.2 j p iK (by simpa using q) (by simpa using dE)
def adl{t:TypeId}{r:Operand}{b:fP}{eK:jL}(he:JR P t r=some (b,eK)):b=.dead/\eK=.map/\r=.const (.int .i64 (.ofNat 0))/\∃key el,P.underlying t=some (.map key el):=by
 unfold JR at he;split at he
 ·cases hu:P.underlying t with
  |none=>rw[hu] at he;cases he
  |some d=>
   rw[hu] at he;cases d with
   |map a c=>
    simp only[cb,c8] at he;exact⟨he.1.symm,he.2.symm,I,a,c,I⟩
   |_=>cases he
 ·cases he
def ajs{T:aZ Value}{n:Nat}{tmps:Array Value}{o:Oper}{b:fP}{eK:jL}(aM:lj μ T n tmps)(he:oG P T o.op=some (b,eK))(w:World):
 ∃kk N sz,(execOp (dk tmps) o).run P w=.ok (.value (eK.at w.heap.size)) (w.alloc kk)/\kP P μ ⟨w.heap.size,N,sz⟩ b kk/\lr (some b)=false/\eK.ok=true:=by
 cases al:o.op<;>rw[al] at he<;>simp only[oG] at he
 case alloc elem=>
  cases aR:h2 P elem with
  |none=>rw[aR] at he;cases he
  |some z=>
   rw[aR] at he;cases ap:plain z with
   |false=>simp only[ap] at he;cases he
   |true=>
    simp only[ap,cd] at he;obtain⟨kk,N,sz,ba,br,bG,cD⟩:=Yz (P:=P) (q1 (μ:=μ) ap) he w;refine⟨kk,N,sz,?_,br,bG,cD⟩;have:(Instr.alloc elem true (.tuple #[])).run P w=.ok (eK.at w.heap.size) (w.alloc kk):=by simpa[Instr.alloc,Instr.box,x0 aR] using ba
    simp[execOp,al,this]
 case box elem x=>
  cases U:r2 T x with
  |none=>rw[U] at he;cases he
  |some v=>
   rw[U] at he;obtain⟨kk,N,sz,ba,br,bG,cD⟩:=Yz (P:=P) (OK aM U) he w;exact⟨kk,N,sz,by simp[execOp,al,ba],br,bG,cD⟩
 case buildSlice t len parts=>
  cases U:ur T parts.toList with
  |none=>rw[U] at he;cases he
  |some ps=>
   rw[U] at he;obtain⟨kk,N,sz,ba,br,bG,cD⟩:=ajp (P:=P) (awn aM U) he w;have aF:(parts.toList.map fun(i,x)=>(i,dk tmps x)).toArray=parts.map fun(i,x)=>(i,dk tmps x):=by apply r9;simp
   rw[aF] at ba;exact⟨kk,N,sz,by simp[execOp,al,ba],br,bG,cD⟩
 case makeMap t r=>
  cases r with
  |some r=>
   obtain⟨rfl,rfl,rfl,key,el,hu⟩:=adl (show JR P t r=some (b,eK) from he);exact⟨.map #[] 0,0,0,by simp[execOp,al,Instr.makeMap,newObj,Sem.run,jL.at,fo hu,dk,asInt,asIntOf],trivial,I,I⟩
  |none=>
   simp only[cb,c8] at he;obtain⟨rfl,rfl⟩:=he;exact⟨.map #[] 0,0,0,by simp[execOp,al,Instr.makeMap,newObj,Sem.run,jL.at],Bq.nil _,I,I⟩
 case makeSlice t l c=>
  cases ae:r2 T l with
  |none=>rw[ae] at he;cases he
  |some lv=>
   cases ag:r2 T c with
   |none=>rw[ae,ag] at he;cases he
   |some i'=>
    rw[ae,ag] at he;obtain⟨kk,N,sz,ba,br,bG,cD⟩:=ajr (P:=P) (OK aM ae) (OK aM ag) he w;exact⟨kk,N,sz,by simp[execOp,al,ba],br,bG,cD⟩
 all_goals cases he
end
def Be(a b i:Nat):Nat.testBit (Nat.lor a b) i=(a.testBit i||b.testBit i):=Nat.testBit_or a b i
def Ps(a b i:Nat):Nat.testBit (Nat.land a b) i=(a.testBit i&&b.testBit i):=Nat.testBit_and a b i
def Pt(i j:Nat):Nat.testBit (Nat.pow 2 i) j=decide (i=j):=Nat.testBit_two_pow (n:=i) (m:=j)
def mL{C i j:Nat}:Nat.testBit (Nat.lor C (Nat.pow 2 i)) j=true↔Nat.testBit C j=true\/i=j:=by
 rw[Be,Pt];simp
def WB{a b:Nat}(h:sub a b=true){i:Nat}(hi:a.testBit i=true):b.testBit i=true:=by
 have h:=eM h;rw[<-h,Ps] at hi;simp at hi;exact hi.2
def ZV{l:List Edge}{i:Nat}:(Ez l).testBit i=true↔∃e∈l,Region.binds .any e=true/\e.on=i:=by
 induction l with
 |nil=>simp[Ez]
 |cons e l aC=>
  simp only[Ez];cases ak:Region.binds .any e with
  |false=>simp[aC,ak]
  |true=>rw[cd,Be,Pt];simp[aC,ak]
def auf{l:List Nat}{i:Nat}:(CI l).testBit i=true↔i∈l:=by
 induction l with
 |nil=>simp[CI]
 |cons e l aC=>
  simp only[CI];rw[Be,Pt,zO,aC,fs,Eu];exact⟨fun q=>q.imp Eq.symm id,fun q=>q.imp Eq.symm id⟩
def as4{C:Nat}:∀{n:Nat},NW C n=true->∀i,i<n->C.testBit i=true:=by
 intro n;induction n with
 |zero=>intro _ i hi;omega
 |succ n aC=>
  intro h i hi;simp only[NW,gQ] at h;by_cases e:i=n
  ·subst e;exact h.1
  ·exact aC h.2 i (by omega)
def avG{C i:Nat}:∀{l:List Oper} {k:Nat},only C i l k=true->∀j o,l[j]?=some o->C.testBit (k+j)=true\/k+j=i\/sub (Oper.gE o) C=false:=by
 intro l;induction l with
 |nil=>intro k _ j o h;simp at h
 |cons a l aC=>
  intro k h j o al;simp only[only,gQ,zO,tj] at h;cases j with
  |zero=>
   simp at al;subst al;rcases h.1 with(q|q)|q
   ·exact .inl q
   ·exact .inr (.inl (eM q))
   ·exact .inr (.inr q)
  |succ j=>
   have:=aC h.2 j o (by simpa using al);have e:k+1+j=k+(j+1):=by omega
   rw[e] at this;exact this
def ajn{bx dg C:Nat}:∀{l:List Nat},LP bx dg C l=true->∀i∈l,C.testBit i=true/\dg.testBit i=false:=by
 intro l;induction l with
 |nil=>intro _ i hi;simp at hi
 |cons a l aC=>
  intro h i hi;simp only[LP,gQ,tj] at h;rcases fs.1 hi with rfl|hi
  ·exact h.1
  ·exact aC h.2 i hi
def alk{ops:List Oper}{D:Nat->Bool}(av:∀i o j,D i=true->ops[i]?=some o->(Oper.gE o).testBit j=true->D j=true):∀{n K:Nat},(∀i,K.testBit i=true->D i=true)->∀i,(wN ops n K).testBit i=true->D i=true:=by
 intro n;induction n with
 |zero=>intro K h i hi;exact h i hi
 |succ n aC=>
  intro K h i hi;simp only[wN] at hi;refine aC (fun j aW=>?_) i hi;cases ak:K.testBit n with
  |false=>rw[ak] at aW;exact h j aW
  |true=>
   rw[ak,cd] at aW;rw[lQ] at aW;cases al:ops[n]? with
   |none=>rw[al] at aW;exact h j aW
   |some o=>
    rw[al] at aW;simp only at aW;rw[Be] at aW;simp only[zO] at aW;rcases aW with q|q
    ·exact h j q
    ·exact av n o j (h n ak) al q
def ajq{l:List Oper}:∀{k j:Nat} {o:Oper},l[j]?=some o->AK o.op=true->(z6 l k).testBit (k+j)=true:=by
 induction l with
 |nil=>intro k j o h;simp at h
 |cons a l aC=>
  intro k j o al aI;simp only[z6];rw[Be];cases j with
  |zero=>simp at al;subst al;rw[aI,cd,Pt];simp
  |succ j=>
   have:=aC (k:=k+1) (by simpa using al) aI;have e:k+1+j=k+(j+1):=by omega
   rw[e] at this;rw[this];simp
structure wF (ops:List Oper) (bx:Nat):Prop where
 dst:∀(i j:Nat) a b d,ops[i]?=some a->ops[j]?=some b->i≠j->a.dst=some d->b.dst≠some d
 look:∀(i j:Nat) a b d,ops[i]?=some a->ops[j]?=some b->a.dst=some d->d∈looks ops b->(Oper.gE b).testBit i=true\/(bx.testBit i=true/\(i=j\/(Oper.gE a).testBit j=true))
 down:∀(i:Nat) a j,ops[i]?=some a->(Oper.gE a).testBit j=true->j<i
 bw:∀(i:Nat) a,ops[i]?=some a->bx.testBit i=false->FB a.op=false
def awk{ops:List Oper}{bx i:Nat}{a:Oper}:∀{l:List Oper} {k:Nat},OM ops bx i a l k=true->∀j b,l[j]?=some b->F9 ops bx i (k+j) a b=true:=by
 intro l;induction l with
 |nil=>intro k _ j b h;simp at h
 |cons c l aC=>
  intro k h j b ak;simp only[OM,gQ] at h;cases j with
  |zero=>simp at ak;subst ak;exact h.1
  |succ j=>
   have:=aC h.2 j b (by simpa using ak);have e:k+1+j=k+(j+1):=by omega
   rw[e] at this;exact this
def VR{ops:List Oper}{bx:Nat}:∀{l:List Oper} {k:Nat},Ko ops bx l k=true->∀i a,l[i]?=some a->
 (∀j b,ops[j]?=some b->F9 ops bx (k+i) j a b=true)/\(Oper.gE a)<2 ^ (k+i)/\(bx.testBit (k+i)=true\/FB a.op=false):=by
 intro l;induction l with
 |nil=>intro k _ i a h;simp at h
 |cons c l aC=>
  intro k h i a aI;simp only[Ko,gQ,zO,tj] at h;cases i with
  |zero=>
   simp at aI;subst aI;refine⟨fun j b ak=>?_,iE h.1.1.2,h.1.2⟩;have:=awk h.1.1.1 j b ak;simpa using this
  |succ i=>
   have:=aC h.2 i a (by simpa using aI);have e:k+1+i=k+(i+1):=by omega
   rw[e] at this;exact this
def ayG{ops:List Oper}{bx:Nat}(h:Ko ops bx ops 0=true):wF ops bx:=by
 have ap:∀(i j:Nat) a b,ops[i]?=some a->ops[j]?=some b->F9 ops bx i j a b=true:=fun i j a b aI ak=>by
  have:=(VR h i a aI).1 j b ak;simpa using this
 refine⟨fun i j a b d aI ak aqR av vq=>?_,fun i j a b d aI ak av aj=>?_,fun i a j aI aW=>?_,fun i a aI ax=>?_⟩
 ·have:=ap i j a b aI ak;simp only[F9,gQ,zO,tj] at this;rcases this.1 with q|q
  ·exact aqR (eM q)
  ·simp[afX,av,vq] at q
 ·have:=ap i j a b aI ak;simp only[F9,gQ,zO,tj] at this;rcases this.2 with(q|q)|q
  ·exfalso;simp only[U2,av] at q;rw[List.any_eq_false] at q;exact q d aj (by simp)
  ·exact .inl q
  ·exact .inr ⟨q.1,q.2.imp (fun x=>eM x) id⟩
 ·have ag:=(VR h i a aI).2.1;rw[j8] at ag;rcases ha j i with q|q
  ·exact q
  ·have aE:(Oper.gE a)<2 ^ j:=kw ag (nd (by omega) q);rw[Nat.testBit_lt_two_pow aE] at aW;cases aW
 ·have ag:=(VR h i a aI).2.2;rw[j8] at ag;rcases ag with q|q
  ·rw[q] at ax;cases ax
  ·exact q
def YA{P:Program}{T:aZ Value}{op:Op}{b:fP}{eK:jL}(he:oG P T op=some (b,eK)):lr (some b)=false:=by
 have box:∀{elem v},BD elem v=some (b,eK)->lr (some b)=false:=fun{elem v} q=>by
  unfold BD at q;cases al:v.cells.toList.all fx with
  |false=>rw[al] at q;cases q
  |true=>rw[al,cd] at q;simp only[cb,c8] at q;obtain⟨rfl,rfl⟩:=q;rfl
 have fin:∀{c:Bool} {cells:List Value} {elem:TypeId} {k:jL},(bif c then some (fP.row cells elem false 0 0 false,k) else none)=some (b,eK)->lr (some b)=false:=fun{c cells elem k} q=>by
  cases c with
  |false=>cases q
  |true=>simp only[cd,cb,c8] at q;obtain⟨rfl,rfl⟩:=q;rfl
 cases op<;>simp only[oG] at he
 case alloc elem=>
  split at he
  ·rename_i z _;cases ap:plain z with
   |false=>rw[ap] at he;cases he
   |true=>rw[ap,cd] at he;exact box he
  ·cases he
 case box elem x=>
  split at he
  ·exact box he
  ·cases he
 case buildSlice t len ps=>
  split at he
  ·unfold Hl at he;split at he
   ·split at he
    ·rename_i sz z _ _;cases ax:(Nat.ble len 100000&&Nat.ble (len*sz) 100000&&plain z&&Nat.beq z.cells.toList.length sz) with
     |false=>rw[ax] at he;cases he
     |true=>
      rw[ax,cd] at he;split at he
      ·exact fin he
      ·cases he
    ·cases he
   ·cases he
  ·cases he
 case makeMap t r=>
  cases r with
  |some r=>obtain⟨rfl,rfl,_⟩:=adl (show JR P t r=some (b,eK) from he);rfl
  |none=>simp only[cb,c8] at he;obtain⟨rfl,rfl⟩:=he;rfl
 case makeSlice t l c=>
  split at he
  ·unfold Hm at he;split at he
   ·split at he
    ·split at he
     ·exact fin he
     ·cases he
    ·cases he
   ·cases he
  ·cases he
 all_goals cases he
end
end Go.Cre
