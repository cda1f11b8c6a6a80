/- A part of the proof of SampleParts. -/
import Derived.Test.YtdbhjgpppmkagaaGreatCaj
import Derived.Laws.Build
import Derived.Defers
import Derived.Recover
set_option linter.unusedVariables false
set_option linter.unusedSimpArgs false
namespace Go.Cre
noncomputable section
open Go.RowKit
section
variable {P:Program}{B:Nat->Prop}{w0 w:World}{μ:bH}{H H':ao}{n:Nat}{tmps:Array Value}
variable {call:eS}{aL:gU}{o:Oper}{S:aQ}
theorem uU(h:bR P B w0 μ H w){s:Sem Next}{v v':Value}{r:cF}(ax:some (cF.val v H)=some r)(gK:s.run P w=.ok (.value v') w)(ap:bj μ v v'):na P B w0 call aL μ H w s r:=by
 injection ax with ax;subst ax
 exact .inl ⟨v',w,μ,gK,h,Step.refl _ _,ap⟩
theorem aar{t:TypeId}{a bA b b':Value}{r:Bool}{x y:Operand}(aW:bj μ a bA)(ai:bj μ b b')(he:w5 P t a b=some r)(w:World):
 (∀op,(eqGuard op t x y bA b').run P w=.ok () w)/\(binOp .eql t bA b').run P w=.ok (.bool r) w/\(binOp .neq t bA b').run P w=.ok (.bool (!r)) w:=by
 have zj:(Op.equal t bA b').run P w=.ok r w:=aaJ aW ai he 9999 w;unfold w5 at he;cases hu:P.underlying t with
 |none=>rw[hu] at he;simp at he
 |some d=>
  rw[hu] at he
  have fin:(∀op,(eqGuard op t x y bA b').run P w=.ok () w)->(binOp .eql t bA b'=(do pure (.bool (<-Op.equal t bA b'))))->(binOp .neq t bA b'=(do pure (.bool (!(<-Op.equal t bA b')))))->
   (∀op,(eqGuard op t x y bA b').run P w=.ok () w)/\(binOp .eql t bA b').run P w=.ok (.bool r) w/\(binOp .neq t bA b').run P w=.ok (.bool (!r)) w:=fun g aD a5=>by
   rw[aD,a5];exact⟨g,by simp[zj],by simp[zj]⟩
  cases a with
  |pointer p=>
   have aw:∃hK,bA=.pointer hK:=by
    cases p with
    |none=>exact⟨_,aW.Ch⟩
    |some p=>obtain⟨_,_,_,_,_,q⟩:=aW.n7;exact⟨_,q⟩
   obtain⟨hK,rfl⟩:=aw;cases b with
   |pointer q=>
    have aw:∃dt,b'=.pointer dt:=by
     cases q with
     |none=>exact⟨_,ai.Ch⟩
     |some q=>obtain⟨_,_,_,_,_,q⟩:=ai.n7;exact⟨_,q⟩
    obtain⟨dt,rfl⟩:=aw;exact fin (fun op=>by cases op<;>simp[eqGuard]) rfl rfl
   |_=>cases d<;>cases p<;>cases he
  |slice p l c=>
   have aw:∃hK l' b1,bA=.slice hK l' b1:=by
    cases p with
    |none=>exact⟨_,_,_,aW.rO⟩
    |some p=>obtain⟨_,_,q⟩:=aW.x4;exact⟨_,_,_,q⟩
   obtain⟨hK,l',b1,rfl⟩:=aw;cases b with
   |slice q eJ bT=>
    have aw:∃hK l' b1,b'=.slice hK l' b1:=by
     cases q with
     |none=>exact⟨_,_,_,ai.rO⟩
     |some p=>obtain⟨_,_,q⟩:=ai.x4;exact⟨_,_,_,q⟩
    obtain⟨aoh,IB,ame,rfl⟩:=aw;exact fin (fun op=>by cases op<;>simp[eqGuard]) rfl rfl
   |_=>cases d<;>cases p<;>cases he
  |map p=>
   have aw:∃hK,bA=.map hK:=by
    cases p with
    |none=>exact⟨_,aW.Fo⟩
    |some p=>obtain⟨_,_,q⟩:=aW.Fm;exact⟨_,q⟩
   obtain⟨hK,rfl⟩:=aw;cases b with
   |map q=>
    have aw:∃hK,b'=.map hK:=by
     cases q with
     |none=>exact⟨_,ai.Fo⟩
     |some p=>obtain⟨_,_,q⟩:=ai.Fm;exact⟨_,q⟩
    obtain⟨dt,rfl⟩:=aw;exact fin (fun op=>by cases op<;>simp[eqGuard]) rfl rfl
   |_=>cases d<;>cases p<;>cases he
  |nilFunc=>
   obtain rfl:=aW.IS;cases b with
   |func fn u v=>
    have aw:∃f u v,b'=.func f u v:=by
     rcases ai.A5 with⟨_,_,q,_⟩|⟨_,_,_,_,_,_,q⟩
     ·exact⟨_,_,_,q⟩
     ·exact⟨_,_,_,q⟩
    obtain⟨_,_,_,rfl⟩:=aw;exact fin (fun op=>by cases op<;>simp[eqGuard]) rfl rfl
   |_=>cases d<;>cases he
  |func fn u v=>
   have aw:∃f u v,bA=.func f u v:=by
    rcases aW.A5 with⟨_,_,q,_⟩|⟨_,_,_,_,_,_,q⟩
    ·exact⟨_,_,_,q⟩
    ·exact⟨_,_,_,q⟩
   obtain⟨_,_,_,rfl⟩:=aw;cases b with
   |nilFunc=>
    obtain rfl:=ai.IS;exact fin (fun op=>by cases op<;>simp[eqGuard]) rfl rfl
   |_=>cases d<;>cases he
  |nilIface=>
   obtain rfl:=aW.Fw;cases b with
   |iface s0 v=>
    obtain⟨_,rfl,_⟩:=ai.vI;exact fin (fun op=>by cases op<;>simp[eqGuard]) rfl rfl
   |_=>cases d<;>cases he
  |iface s0 v=>
   obtain⟨_,rfl,_⟩:=aW.vI;cases b with
   |nilIface=>
    obtain rfl:=ai.Fw;exact fin (fun op=>by cases op<;>simp[eqGuard]) rfl rfl
   |_=>cases d<;>cases he
  |_=>cases d<;>cases he
theorem aaR(h:bR P B w0 μ H w)(aN:jK μ S.T n tmps){r:cF}(he:cY P call aL S H o=some r):na P B w0 call aL μ H w (execOp (c' tmps) o) r:=by
 have dU:∀x v,a6 S.T H x=some v->bj μ v (c' tmps x):=fun x v q=>sQ h aN q;unfold cY fU at he;simp only at he;cases an:o.op with
 |move x=>
  rw[an] at he;have he:g2 (a6 S.T H x) H=some r:=he;have:=oN (call:=call) (aL:=aL) (s:=pure (c' tmps x)) h (fun v q=>⟨_,rfl,dU x v q⟩) he;simpa[execOp,an] using this
 |assign x=>
  rw[an] at he;have he:g2 (a6 S.T H x) H=some r:=he;have:=oN (call:=call) (aL:=aL) (s:=pure (c' tmps x)) h (fun v q=>⟨_,rfl,dU x v q⟩) he;simpa[execOp,an] using this
 |load t a=>
  rw[an] at he;have he:zT P ⟨call,aL,S,H,o⟩ t (a6 S.T H a)=some r:=he;cases aW:a6 S.T H a with
  |none=>rw[aW] at he;cases he
  |some p=>
   rw[aW] at he;have:=oN (call:=call) (aL:=aL) h (fun v q=>aaP h (dU a p aW) q) he;simpa[execOp,an] using this
 |pick c a b=>
  rw[an] at he;have he:xS P ⟨call,aL,S,H,o⟩ a b (a6 S.T H c)=some r:=he;cases av:a6 S.T H c with
  |none=>rw[av] at he;cases he
  |some eY=>
   rw[av] at he;have Md:=dU c eY av;cases eY with
   |bool Kw=>
    have p6:=Md.Di;cases Kw with
    |true=>
     have he:g2 (a6 S.T H a) H=some r:=he;have:=oN (call:=call) (aL:=aL) (s:=pure (c' tmps a)) h (fun v q=>⟨_,rfl,dU a v q⟩) he;simpa[execOp,an,p6,asBool] using this
    |false=>
     have he:g2 (a6 S.T H b) H=some r:=he;have:=oN (call:=call) (aL:=aL) (s:=pure (c' tmps b)) h (fun v q=>⟨_,rfl,dU b v q⟩) he;simpa[execOp,an,p6,asBool] using this
   |_=>cases he
 |alloc elem=>
  rw[an] at he;have he:NQ P ⟨call,aL,S,H,o⟩ elem (fO P elem)=some r:=he;cases bC:fO P elem with
  |none=>rw[bC] at he;cases he
  |some z=>
   rw[bC] at he;have he:(bif plain z then l8 (vg H elem z) else none)=some r:=he;cases au:plain z with
   |false=>rw[au] at he;cases he
   |true=>
    rw[au,cc] at he;have:=v3 (call:=call) (aL:=aL) (s:=Instr.alloc elem true (.tuple #[])) (fun v H' q=>by
     obtain⟨bl,bF,bO,b3,c2,cX,g5⟩:=RC h (oO au) q;refine⟨bl,bF,bO,?_,c2,cX,g5⟩;simpa[Instr.alloc,Instr.box,uE bC] using b3) he
    simpa[execOp,an] using this
 |box elem x=>
  rw[an] at he;have he:FC P ⟨call,aL,S,H,o⟩ elem (a6 S.T H x)=some r:=he;cases I:a6 S.T H x with
  |none=>rw[I] at he;cases he
  |some v=>
   rw[I] at he;have:=v3 (call:=call) (aL:=aL) (fun v H' q=>RC h (dU x _ I) q) he;simpa[execOp,an] using this
 |build t parts=>
  rw[an] at he;have he:zQ P ⟨call,aL,S,H,o⟩ t (kX S.T H parts.toList)=some r:=he;cases au:kX S.T H parts.toList with
  |none=>rw[au] at he;cases he
  |some dx=>
   rw[au] at he;have EN:=U1 h aN au;have:=oN (call:=call) (aL:=aL) h (fun v q=>aaC EN q w) he;have aD:(parts.toList.map fun(i,x)=>(i,c' tmps x)).toArray=parts.map fun(i,x)=>(i,c' tmps x):=by apply qI;simp
   rw[aD] at this;simpa[execOp,an] using this
 |buildSlice t len parts=>
  rw[an] at he;have he:FD P ⟨call,aL,S,H,o⟩ t len (kX S.T H parts.toList)=some r:=he;cases au:kX S.T H parts.toList with
  |none=>rw[au] at he;cases he
  |some dx=>
   rw[au] at he;have EN:=U1 h aN au;have:=v3 (call:=call) (aL:=aL) (fun v H' q=>aaB h EN q) he;have aD:(parts.toList.map fun(i,x)=>(i,c' tmps x)).toArray=parts.map fun(i,x)=>(i,c' tmps x):=by apply qI;simp
   rw[aD] at this;simpa[execOp,an] using this
 |store t a x=>
  rw[an] at he;have he:B9 P ⟨call,aL,S,H,o⟩ t (a6 S.T H a) (a6 S.T H x)=some r:=he;cases aW:a6 S.T H a with
  |none=>rw[aW] at he;cases he
  |some p=>
   cases I:a6 S.T H x with
   |none=>rw[aW,I] at he;cases he
   |some v=>
    rw[aW,I] at he;have:=agR (call:=call) (aL:=aL) (fun H' q=>aaY h (dU a p aW) (dU x v I) q) he;simpa[execOp,an] using this
 |nilCheck x=>
  rw[an] at he;have he:zW P ⟨call,aL,S,H,o⟩ (a6 S.T H x)=some r:=he;cases I:a6 S.T H x with
  |none=>rw[I] at he;cases he
  |some v=>
   rw[I] at he;have ax:=dU x v I;cases v with
   |pointer a=>
    cases a with
    |none=>cases he
    |some a=>
     obtain⟨id,off,L,rfl,bB,ap⟩:=ax.n7;exact uU h he (v':=c' tmps x) (by simp[execOp,an,ap]) ax
   |func fn a b=>
    cases fn with
    |func f=>
     rcases ax.A5 with⟨bA,b',ap,_⟩|⟨l,L,q,_⟩
     ·exact uU h he (v':=c' tmps x) (by simp[execOp,an,ap]) ax
     ·cases q
    |_=>cases he
   |iface t v=>
    obtain⟨dD,ap,_⟩:=ax.vI;exact uU h he (v':=c' tmps x) (by simp[execOp,an,ap]) ax
   |_=>cases he
 |unOp op t x=>
  rw[an] at he;exact DQ h aN (fun cs b q=>by rw[an] at q;cases q) he
 |makeInterface t x=>
  rw[an] at he;have he:zV P ⟨call,aL,S,H,o⟩ t (a6 S.T H x) (P.underlying t)=some r:=he;cases I:a6 S.T H x with
  |none=>rw[I] at he;cases P.underlying t<;>cases he
  |some v=>
   cases hu:P.underlying t with
   |none=>rw[I,hu] at he;cases he
   |some d=>
    rw[I,hu] at he;have SE:P.concrete t=true/\some (cF.val (.iface t v) H)=some r:=by
     cases d<;>first|(cases he;done)|exact⟨by simp[Program.concrete,hu],he⟩
    exact uU h SE.2 (by simp[execOp,an,run_makeInterface w t _ SE.1]) (.iface t v _ (dU x v I))
 |makeFunc fn first captured=>
  rw[an] at he;have he:zU P ⟨call,aL,S,H,o⟩ fn (fQ S.T H first.toList) (fQ S.T H captured.toList)=some r:=he;cases aa:fQ S.T H first.toList with
  |none=>rw[aa] at he;cases he
  |some a=>
   cases ab:fQ S.T H captured.toList with
   |none=>rw[aa,ab] at he;cases he
   |some b=>
    rw[aa,ab] at he;have dZ:=FG h aN aa;have eJ:=FG h aN ab;have sA:vT fn=true/\some (cF.val (.func fn a.toArray b.toArray) H)=some r:=by
     cases fn<;>first|(cases he;done)|exact⟨rfl,he⟩
    refine uU h sA.2 (v':=.func fn (first.map (c' tmps)) (captured.map (c' tmps))) (by simp[execOp,an,Instr.makeFunc]) ?_;exact .func _ _ _ _ _ sA.1 (by simpa using dZ.1) (by simpa using eJ.1) (fun i v v' q dt=>dZ.2 i v v' (by simpa using q) (by simpa using dt)) (fun i v v' q dt=>eJ.2 i v v' (by simpa using q) (by simpa using dt))
 |makeMap t g1=>rw[an] at he;cases he
 |makeSlice t l c=>
  rw[an] at he;have he:FE P ⟨call,aL,S,H,o⟩ t (a6 S.T H l) (a6 S.T H c)=some r:=he;cases aa:a6 S.T H l with
  |none=>rw[aa] at he;cases he
  |some lv=>
   cases ab:a6 S.T H c with
   |none=>rw[aa,ab] at he;cases he
   |some eY=>
    rw[aa,ab] at he;have:=v3 (call:=call) (aL:=aL) (fun v H' q=>aaQ h (dU l lv aa) (dU c eY ab) q) he;simpa[execOp,an] using this
 |slice t x cL ak px=>
  rw[an] at he;cases px with
  |some m=>cases he
  |none=>
   have he:n5 P ⟨call,aL,S,H,o⟩ t (a6 S.T H x) (h7 S.T H cL) (h7 S.T H ak)=some r:=he;cases aa:a6 S.T H x with
   |none=>rw[aa] at he;cases he
   |some Ag=>
    cases ab:h7 S.T H cL with
    |none=>rw[aa,ab] at he;cases he
    |some Ul=>
     cases aK:h7 S.T H ak with
     |none=>rw[aa,ab,aK] at he;cases he
     |some Bi=>
      rw[aa,ab,aK] at he;have he:orElse (g2 (mP P H t Ag Ul Bi) H) (gH P S.T H o)=some r:=he;cases ap:g2 (mP P H t Ag Ul Bi) H with
      |none=>rw[ap] at he;exact DQ h aN (fun cs b q=>by rw[an] at q;cases q) he
      |some b7=>
       rw[ap] at he;have he:some b7=some r:=he;injection he with he;subst he
       have:=oN (call:=call) (aL:=aL) h (fun v q=>aaX h (dU x Ag aa) (UU h aN ab) (UU h aN aK) q) ap;simpa[execOp,an] using this
 |fieldAddr s x f=>
  rw[an] at he;have he:zS P ⟨call,aL,S,H,o⟩ s f (a6 S.T H x)=some r:=he;cases I:a6 S.T H x with
  |none=>rw[I] at he;cases he
  |some p=>
   rw[I] at he;have:=oN (call:=call) (aL:=aL) h (fun v q=>aaL (dU x p I) q w) he;simpa[execOp,an] using this
 |indexAddr t x bf=>
  rw[an] at he;have he:xR P ⟨call,aL,S,H,o⟩ t (a6 S.T H x) (a6 S.T H bf)=some r:=he;cases aa:a6 S.T H x with
  |none=>rw[aa] at he;cases he
  |some Ag=>
   cases ab:a6 S.T H bf with
   |none=>rw[aa,ab] at he;cases he
   |some e8=>
    rw[aa,ab] at he;have:=oN (call:=call) (aL:=aL) h (fun v q=>aaM (dU x Ag aa) (dU bf e8 ab) q w) he;simpa[execOp,an] using this
 |lookup t x k ok=>rw[an] at he;cases he
 |mapUpdate t m k x=>rw[an] at he;cases he
 |insert t m k x=>rw[an] at he;cases he
 |typeAssert x xt asserted ok=>
  rw[an] at he;have he:B' P ⟨call,aL,S,H,o⟩ asserted ok (a6 S.T H x)=some r:=he;cases I:a6 S.T H x with
  |none=>rw[I] at he;cases he
  |some v=>
   rw[I] at he;have:=oN (call:=call) (aL:=aL) h (fun u q=>aa5 (xt:=xt) (dU x v I) q w) he;simpa[execOp,an] using this
 |extract t bf=>
  rw[an] at he;have he:zR P ⟨call,aL,S,H,o⟩ bf (a6 S.T H t)=some r:=he;cases I:a6 S.T H t with
  |none=>rw[I] at he;cases he
  |some v=>
   rw[I] at he;cases v with
   |tuple vs=>
    obtain⟨bA,ap,ay⟩:=(dU t _ I).aj9;have he:g2 (nth vs.toList bf) H=some r:=he;have:=oN (call:=call) (aL:=aL) (s:=Instr.extract (c' tmps t) bf) h (fun v q=>by
     rw[kk] at q;obtain⟨v',aZ,aR⟩:=ay.get q;refine⟨v',?_,aR⟩;have aZ:bA[bf]?=some v':=by simpa using aZ
     simp[Instr.extract,ap,aZ]) he
    simpa[execOp,an] using this
   |_=>cases he
 |panic x=>
  rw[an] at he;have he:IZ P ⟨call,aL,S,H,o⟩ (a6 S.T H x)=some r:=he;cases I:a6 S.T H x with
  |none=>rw[I] at he;cases he
  |some v=>
   rw[I] at he;cases v with
   |iface t v=>
    obtain⟨dD,ap,ax⟩:=(dU x _ I).vI;have he:some (cF.jh [{v:=.iface t v,recovered:=false}] H)=some r:=he;injection he with he;subst he
    refine .inl ⟨.iface t v,.iface t dD,rfl,rfl,?_,.iface t v dD ax⟩;simp[execOp,an,ap,Instr.panic,goPanic,Sem.run]
   |_=>cases he
 |call c=>
  rw[an] at he;have he:lg P ⟨call,aL,S,H,o⟩ c=some r:=he;unfold lg at he;cases mm:c.callee with
  |builtin b=>
   rw[mm] at he;exact aaD h aN an mm he
  |value f=>
   rw[mm] at he;exact RD h aN an (fun b q=>by rw[mm] at q;cases q) he
  |invoke aoR Fx=>
   rw[mm] at he;exact RD h aN an (fun b q=>by rw[mm] at q;cases q) he
 |defer c=>
  rw[an] at he;have he:xO P ⟨call,aL,S,H,o⟩ c=some r:=he;unfold xO at he;cases ax:S.cB with
  |some l=>simp only[ax] at he;cases he
  |none=>simp only[ax] at he;exact aaH h aN an he
 |field t x f=>
  rw[an] at he;have he:xP P ⟨call,aL,S,H,o⟩ f (a6 S.T H x) (P.underlying t)=some r:=he;cases I:a6 S.T H x with
  |none=>rw[I] at he;cases he
  |some v=>
   rw[I] at he;cases v with
   |agg cs=>
    obtain⟨bA,ap,ay⟩:=(dU x _ I).Qm;cases hu:P.underlying t with
    |none=>rw[hu] at he;cases he
    |some d=>
     rw[hu] at he;cases d with
     |struct fields=>
      have he:(match fields[f]? with|some f=>g2 (lS P f.type cs.toList f.offset) H|none=>none)=some r:=he
      cases aw:fields[f]? with
      |none=>rw[aw] at he;cases he
      |some fd=>
       rw[aw] at he;have:=oN (call:=call) (aL:=aL) (s:=Instr.field t (c' tmps x) f) h (fun v q=>by
        obtain⟨v',aZ,aR⟩:=RI ay q w;refine⟨v',?_,aR⟩;have aZ:(part fd.type bA fd.offset).run P w=.ok v' w:=by simpa using aZ
        simp[Instr.field,eP hu,aw,ap,asAgg,aZ]) he
       simpa[execOp,an] using this
     |_=>cases he
   |_=>cases he
 |index t x bf=>
  rw[an] at he;have he:xQ P ⟨call,aL,S,H,o⟩ (a6 S.T H x) (a6 S.T H bf) (P.underlying t)=some r:=he;cases I:a6 S.T H x with
  |none=>rw[I] at he;cases he
  |some v=>
   cases ak:a6 S.T H bf with
   |none=>rw[I,ak] at he;cases v<;>cases he
   |some e8=>
    rw[I,ak] at he;have uc:=dU x v I;have SX:=dU bf e8 ak;cases v with
    |agg cs=>
     obtain⟨bA,ap,ay⟩:=uc.Qm;cases e8 with
     |int k i=>
      have Bi:=SX.pu;cases hu:P.underlying t with
      |none=>rw[hu] at he;cases he
      |some d=>
       rw[hu] at he;cases d with
       |array len elem=>
        have nj:(match sF i len,eB P elem with|some n,some aj=>g2 (lS P elem cs.toList (n*aj)) H|_,_=>none)=some r:=he
        cases aM:sF i len with
        |none=>rw[aM] at nj;cases nj
        |some m=>
         rw[aM] at nj;cases al:eB P elem with
         |none=>rw[al] at nj;cases nj
         |some aj=>
          rw[al] at nj;obtain⟨rfl,cP⟩:=Nj aM;have:=oN (call:=call) (aL:=aL) (s:=Instr.index t (c' tmps x) (c' tmps bf)) h (fun v q=>by
           obtain⟨v',aZ,aR⟩:=RI ay q w;refine⟨v',?_,aR⟩;have aZ:(part elem bA (m*aj)).run P w=.ok v' w:=by simpa using aZ
           simp[Instr.index,Bi,asIntOf,eP hu,ap,cP,km al,aZ]) nj
          simpa[execOp,an] using this
       |_=>cases he
     |_=>cases he
    |string s=>
     have ap:=uc.FZ;cases e8 with
     |int k i=>
      have Bi:=SX.pu;cases hu:P.underlying t with
      |none=>rw[hu] at he;cases he
      |some d=>
       rw[hu] at he;cases d with
       |string=>
        cases i with
        |negSucc m=>cases he
        |ofNat m=>
         have he:(match nth s.data.toList m with|some b=>pY (.ofNat b.toNat) (oQ H .u8)|none=>none)=some r:=he
         cases ai:nth s.data.toList m with
         |none=>rw[ai] at he;cases he
         |some b=>
          rw[ai] at he;have he:pY (.ofNat b.toNat) (oQ H .u8)=some r:=he;rw[sg] at he;have BE:s[m]?=some b:=by
           rw[kk] at ai;have cP:m<s.size:=by have:=(dv.1 ai).1;simpa using this
           rw[getElem?_pos s m cP];have ab:s.data[m]?=some b:=by simpa using ai
           rw[Aj cP] at ab;injection ab with ab;rw[<-ab];rfl
          refine uU h he (v':=.int .u8 b.toNat) ?_ (.atom _ rfl);simp[execOp,an,Instr.index,Bi,asIntOf,eP hu,ap,BE]
       |_=>cases he
     |_=>cases he
    |_=>cases he
 |convert src dst x=>
  rw[an] at he;have dq:gH P S.T H o=some r->na P B w0 call aL μ H w (execOp (c' tmps) o) r:=DQ h aN (fun cs b q=>by rw[an] at q;cases q);have he:v0 P ⟨call,aL,S,H,o⟩ src dst (a6 S.T H x)=some r:=he;cases I:a6 S.T H x with
  |none=>rw[I] at he;cases he
  |some v=>
   rw[I] at he;have uc:=dU x v I;cases v with
   |string s=>
    have he:orElse (l8 (vh P H src dst s)) (gH P S.T H o)=some r:=he;cases ap:vh P H src dst s with
    |none=>rw[ap] at he;exact dq he
    |some p=>
     have he:l8 (vh P H src dst s)=some r:=by rw[ap] at he ⊢;obtain⟨a,b⟩:=p;exact he
     have:=v3 (call:=call) (aL:=aL) (fun v H' q=>aa1 h q) he;simpa[execOp,an,uc.FZ] using this
   |pointer a=>
    cases a with
    |none=>exact dq he
    |some a=>
     have:=oN (call:=call) (aL:=aL) h (fun v q=>aaF h uc q) he;simpa[execOp,an] using this
   |slice a l c=>
    have:=oN (call:=call) (aL:=aL) h (fun v q=>aa4 h uc (aa2 q)) he;simpa[execOp,an] using this
   |int k i=>
    have he:(match P.underlying src,P.underlying dst with|some _,some (.int k)=>pY (yf k i) (oQ H k)|_,_=>gH P S.T H o)=some r:=he
    cases al:P.underlying src with
    |none=>rw[al] at he;exact dq he
    |some ds=>
    cases aS:P.underlying dst with
    |none=>rw[al,aS] at he;exact dq he
    |some d=>
     rw[al,aS] at he;cases d with
     |int fw=>
      have he:pY (yf fw i) (oQ H fw)=some r:=he;rw[sg,CA] at he;refine uU h he (v':=.int fw (fw.wrap i)) ?_ (.atom _ rfl);simp[execOp,an,uc.pu,convert,eP al,eP aS,Conv.intToInt]
     |_=>exact dq he
   |_=>exact dq he
 |binOp op t x y JM=>
  rw[an] at he;have dq:gH P S.T H o=some r->na P B w0 call aL μ H w (execOp (c' tmps) o) r:=DQ h aN (fun cs b q=>by rw[an] at q;cases q);have he:nr P ⟨call,aL,S,H,o⟩ op t (a6 S.T H x) (a6 S.T H y)=some r:=he;cases I:a6 S.T H x with
  |none=>rw[I] at he;cases he
  |some a=>
   cases ah:a6 S.T H y with
   |none=>rw[I,ah] at he;cases a<;>cases he
   |some b=>
    rw[I,ah] at he;have uc:=dU x a I;have TL:=dU y b ah;have x5:sP P ⟨call,aL,S,H,o⟩ op t a b=some r->na P B w0 call aL μ H w (execOp (c' tmps) o) r:=by
     intro he;have he:orElse (gH P S.T H o) (vZ P ⟨call,aL,S,H,o⟩ t a b op)=some r:=he;cases au:gH P S.T H o with
     |some b7=>
      rw[au] at he;have he:some b7=some r:=he;injection he with he;subst he
      exact dq au
     |none=>
      rw[au] at he;have he:vZ P ⟨call,aL,S,H,o⟩ t a b op=some r:=he;cases cn:w5 P t a b with
      |none=>
       unfold vZ at he;simp only[cn] at he;cases op<;>cases he
      |some VB=>
       obtain⟨aD,a5,cC⟩:=aar (x:=x) (y:=y) uc TL cn w;unfold vZ at he;simp only[cn] at he;cases op with
       |eql=>exact uU h he (v':=.bool VB) (by simp[execOp,an,aD .eql,a5]) (.atom _ rfl)
       |neq=>exact uU h he (v':=.bool (!VB)) (by simp[execOp,an,aD .neq,cC]) (.atom _ rfl)
       |_=>cases he
    cases a with
    |int k i=>
     cases b with
     |int l j=>
      have nj:(bif sG k l then mu H k i j (gH P S.T H o) op else sP P ⟨call,aL,S,H,o⟩ op t (.int k i) (.int l j))=some r:=he;cases aH:sG k l with
      |false=>rw[aH,dN] at nj;exact x5 nj
      |true=>
       rw[aH,cc] at nj;have:=T8 aH;subst this;exact ae2 h uc.pu TL.pu ⟨JM,an⟩ dq nj
     |_=>exact x5 he
    |_=>exact x5 (by cases b<;>exact he)
 |ready g=>rw[an] at he;cases he
 |waits g=>rw[an] at he;cases he
 |sliceToArrayPointer d x=>rw[an] at he;cases he
 |makeChan t s=>rw[an] at he;cases he
 |mapEntry t m k=>rw[an] at he;cases he
 |entryStore t m s x=>rw[an] at he;cases he
 |range t x=>rw[an] at he;cases he
 |next it b=>rw[an] at he;cases he
 |entry it=>rw[an] at he;cases he
 |go c=>rw[an] at he;cases he
 |send a b=>rw[an] at he;cases he
 |recv a b c=>rw[an] at he;cases he
 |select a b=>rw[an] at he;cases he
end
end
end Go.Cre
namespace Go.Cre
noncomputable section
open Go.RowKit
def bG(fr:Frame)(tmps:Array Value)(ds:List Deferred)(todo:List Item):Frame:={fr with tmps:=tmps,todo:=todo,defers:=ds,mode:=.run}
section
variable {P:Program}{fr:Frame}{tmps:Array Value}{ds:List Deferred}{k:List Item}{cs:List Frame}{w:World}
theorem Hp(todo:List Item):(bG fr tmps ds todo).eval=c' tmps:=by
 funext x;cases x<;>rfl
theorem ajE:step P (lone (bG fr tmps ds (.code .skip::k)) cs w)=.next (lone (bG fr tmps ds k) cs w):=step_lone_go (by simp[stepG,stepG.exec,bG])
theorem ajs{l:Nat}:step P (lone (bG fr tmps ds (.code (.label l)::k)) cs w)=.next (lone (bG fr tmps ds k) cs w):=step_lone_go (by simp[stepG,stepG.exec,bG])
theorem ajq{id:Nat}:step P (lone (bG fr tmps ds (.inBlock id::k)) cs w)=.next (lone (bG fr tmps ds k) cs w):=step_lone_go (by simp[stepG,stepG.exec,bG])
theorem ajr{c:Code}:step P (lone (bG fr tmps ds (.inScope c::k)) cs w)=.next (lone (bG fr tmps ds k) cs w):=step_lone_go (by simp[stepG,stepG.exec,bG])
theorem OD{x y:Code}:step P (lone (bG fr tmps ds (.code (.seq x y)::k)) cs w)=.next (lone (bG fr tmps ds (.code x::.code y::k)) cs w):=step_lone_go (by simp[stepG,stepG.exec,bG])
theorem Wj{c:Operand}{x y:Code}{t:Bool}(h:c' tmps c=.bool t):step P (lone (bG fr tmps ds (.code (.cond c x y)::k)) cs w)=.next (lone (bG fr tmps ds (.code (if t then x else y)::k)) cs w):=
 step_lone_go (by
  have he:=congrFun (Hp (fr:=fr) (tmps:=tmps) (ds:=ds) (.code (.cond c x y)::k)) c;rw[h] at he;simp only[bG] at he;simp[stepG,stepG.exec,bG,he])
theorem ajl{id:Nat}{c:Code}:step P (lone (bG fr tmps ds (.code (.block id c)::k)) cs w)=.next (lone (bG fr tmps ds (.code c::.inBlock id::k)) cs w):=step_lone_go (by simp[stepG,stepG.exec,bG])
theorem ajD{c:Code}:step P (lone (bG fr tmps ds (.code (.scope c)::k)) cs w)=.next (lone (bG fr tmps ds (.code c::.inScope c::k)) cs w):=step_lone_go (by simp[stepG,stepG.exec,bG])
theorem Wm{c:Code}:step P (lone (bG fr tmps ds (.code (.loop c)::k)) cs w)=.next (lone (bG fr tmps ds (.code c::.inLoop c::k)) cs w):=step_lone_go (by simp[stepG,stepG.exec,bG])
theorem Wl{c:Code}:step P (lone (bG fr tmps ds (.inLoop c::k)) cs w)=.next (lone (bG fr tmps ds (.code c::.inLoop c::k)) cs w):=step_lone_go (by simp[stepG,stepG.exec,bG])
theorem ajp{id:Nat}{fw:List Item}(h:exitTo id k=some fw):step P (lone (bG fr tmps ds (.code (.exit id)::k)) cs w)=.next (lone (bG fr tmps ds fw) cs w):=step_lone_go (by simp[stepG,stepG.exec,bG,h])
theorem Wn{id:Nat}{ops:Array Oper}:step P (lone (bG fr tmps ds (.code (.region id ops false)::k)) cs w)=.next (lone (bG fr tmps ds (.inRegion ops (List.range ops.size)::k)) cs w):=step_lone_go (by simp[stepG,stepG.exec,bG])
theorem OC{ops:Array Oper}:step P (lone (bG fr tmps ds (.inRegion ops []::k)) cs w)=.next (lone (bG fr tmps ds k) cs w):=step_lone_go (by simp[stepG,stepG.exec,bG])
theorem ajn{id:Nat}{ops:Array Oper}:step P (lone (bG fr tmps ds (.code (.region id ops true)::k)) cs w)=
 .next (lone (bG fr tmps ds (.inRegion ops (Region.schedule (P.follows .mixedOrders) ops (w.tape w.drawn (.order fr.fn id)))::k)) cs {w with drawn:=w.drawn+1}):=
 step_lone_go (by simp[stepG,stepG.exec,bG,choose,Sem.run,Question.forced,Question.cut])
def sT(tmps:Array Value)(dst:Option Tmp)(v:Value):Array Value:=match dst with|some d=>tmps.setIfInBounds d v|none=>tmps
theorem yZ{ops:Array Oper}{i:Nat}{rest:List Nat}{o:Oper}(an:ops[i]?=some o)(v:Value):(bG fr tmps ds (.inRegion ops (i::rest)::k)).finish v=bG fr (sT tmps o.dst v) ds (.inRegion ops rest::k):=by
 simp only[Frame.finish,bG,an,Option.bind_some,sT];cases o.dst<;>rfl
theorem ajG{ops:Array Oper}{i:Nat}{rest:List Nat}{o:Oper}(an:ops[i]?=some o)(hw:Region.wanted o (yielded ops tmps)=false):
 step P (lone (bG fr tmps ds (.inRegion ops (i::rest)::k)) cs w)=.next (lone (bG fr (sT tmps o.dst undef) ds (.inRegion ops rest::k)) cs w):=by
 rw[<-yZ an];exact step_lone_go (by simp[stepG,stepG.exec,bG,an,hw])
theorem z5{ops:Array Oper}{i:Nat}{rest:List Nat}{o:Oper}(an:ops[i]?=some o)(hw:Region.wanted o (yielded ops tmps)=true)(dL:fr.roundOf=none\/∀c,o.op≠.defer c):
 stepG P true {frame:=bG fr tmps ds (.inRegion ops (i::rest)::k),callers:=cs,status:=.running,dying:=none} w=
  stepG.apply P true (bG fr tmps ds (.inRegion ops (i::rest)::k)) cs none (execOp (c' tmps) o) w:=by
 have he:=Hp (fr:=fr) (tmps:=tmps) (ds:=ds) (.inRegion ops (i::rest)::k);simp only[bG] at he;simp only[stepG,stepG.exec,stepG.oper,Frame.oper?,bG,an,hw,he,C3,P1,if_true];rcases dL with h|h
 ·rw[h]
 ·cases ax:fr.roundOf with
  |none=>rfl
  |some l=>
   cases dU:o.op with
   |defer c=>exact absurd dU (h c)
   |_=>rfl
theorem OE{ops:Array Oper}{i:Nat}{rest:List Nat}{o:Oper}{v:Value}{bb:World}(an:ops[i]?=some o)(hw:Region.wanted o (yielded ops tmps)=true)(dL:fr.roundOf=none\/∀c,o.op≠.defer c)
 (ax:(execOp (c' tmps) o).run P w=.ok (.value v) bb):
 step P (lone (bG fr tmps ds (.inRegion ops (i::rest)::k)) cs w)=.next (lone (bG fr (sT tmps o.dst v) ds (.inRegion ops rest::k)) cs bb):=by
 rw[<-yZ an];exact step_lone_go (by rw[z5 an hw dL];simp[stepG.apply,ax])
theorem ajF{ops:Array Oper}{i:Nat}{rest:List Nat}{o:Oper}{bb:World}(an:ops[i]?=some o)(hw:Region.wanted o (yielded ops tmps)=true)(dL:fr.roundOf=none\/∀c,o.op≠.defer c)
 (ax:(execOp (c' tmps) o).run P w=.ok .skip bb):
 step P (lone (bG fr tmps ds (.inRegion ops (i::rest)::k)) cs w)=.next (lone (bG fr (sT tmps o.dst undef) ds (.inRegion ops rest::k)) cs bb):=by
 rw[<-yZ an];exact step_lone_go (by rw[z5 an hw dL];simp[stepG.apply,ax])
theorem ajw{ops:Array Oper}{i:Nat}{rest:List Nat}{o:Oper}{v:Value}{bb:World}(an:ops[i]?=some o)(hw:Region.wanted o (yielded ops tmps)=true)(dL:fr.roundOf=none\/∀c,o.op≠.defer c)
 (ax:(execOp (c' tmps) o).run P w=.halt (.panic v) bb):
 step P (lone (bG fr tmps ds (.inRegion ops (i::rest)::k)) cs w)=.next (lone {bG fr tmps ds (.inRegion ops (i::rest)::k) with mode:=.panicking [{v,recovered:=false}]} cs bb):=
 step_lone_go (by rw[z5 an hw dL];simp[stepG.apply,ax,Frame.raise,bG])
theorem ajm{ops:Array Oper}{i:Nat}{rest:List Nat}{o:Oper}{d:Deferred}{bb:World}(an:ops[i]?=some o)(hw:Region.wanted o (yielded ops tmps)=true)(dL:fr.roundOf=none)
 (ax:(execOp (c' tmps) o).run P w=.ok (.defer d) bb):
 step P (lone (bG fr tmps ds (.inRegion ops (i::rest)::k)) cs w)=.next (lone (bG fr (sT tmps o.dst undef) (d::ds) (.inRegion ops rest::k)) cs bb):=by
 have aw:({bG fr tmps ds (.inRegion ops (i::rest)::k) with defers:=d::ds}:Frame).finish undef=bG fr (sT tmps o.dst undef) (d::ds) (.inRegion ops rest::k):=
  yZ (fr:=fr) (tmps:=tmps) (ds:=d::ds) (k:=k) (rest:=rest) an undef
 refine step_lone_go ?_;rw[z5 an hw (.inl dL)];simp only[stepG.apply,Sem.runT_eq,ax,GStep.bare_after,if_true];exact fl (fun f=>GStep.go {frame:=f,callers:=cs,status:=.running,dying:=none} bb) aw
theorem Wk{ops:Array Oper}{i:Nat}{rest:List Nat}{o:Oper}{f:FuncId}{args:Array Value}{bb:World}(an:ops[i]?=some o)(hw:Region.wanted o (yielded ops tmps)=true)(dL:fr.roundOf=none\/∀c,o.op≠.defer c)
 (ax:(execOp (c' tmps) o).run P w=.ok (.enter f args) bb):
 step P (lone (bG fr tmps ds (.inRegion ops (i::rest)::k)) cs w)=.next (lone (Frame.enter P f args .normal) (bG fr tmps ds (.inRegion ops (i::rest)::k)::cs) bb):=
 step_lone_go (by rw[z5 an hw dL];simp[stepG.apply,ax,bG])
theorem ajC{ops:Array Oper}{i:Nat}{rest:List Nat}{o:Oper}{l:Nat}{f:FuncId}{oU:Array Value}{a b:Code}{bb:World}(an:ops[i]?=some o)(hw:Region.wanted o (yielded ops tmps)=true)(dL:fr.roundOf=none\/∀c,o.op≠.defer c)
 (ax:(execOp (c' tmps) o).run P w=.ok (.round l f oU a b) bb):
 step P (lone (bG fr tmps ds (.inRegion ops (i::rest)::k)) cs w)=.next (lone (Frame.round l f oU a b .normal) (bG fr tmps ds (.inRegion ops (i::rest)::k)::cs) bb):=
 step_lone_go (by rw[z5 an hw dL];simp[stepG.apply,ax])
end
end
end Go.Cre
