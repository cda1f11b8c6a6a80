/- A part of the proof of TableTurns. -/
import Derived.Test.YtlgjlbpafcifoaaGreatDoorCaf
import Derived.Laws.Build
import Derived.Defers
import Derived.Recover
set_option linter.unusedVariables false
set_option linter.unusedSimpArgs false
namespace Go.Cre
noncomputable section
open Go.RowKit
section
variable {P:Program}{B:Nat->Prop}{w0 w:World}{μ:bL}{H H':an}{n:Nat}{tmps:Array Value}
variable {call:eo}{aE:gU}{o:Oper}{S:aV}
theorem vQ(h:bX P B w0 μ H w){s:Sem Next}{v v':Value}{r:cE}(aq:some (cE.val v H)=some r)(gG:s.run P w=.ok (.value v') w)(ar:bg μ v v'):nF P B w0 call aE μ H w s r:=by
 injection aq with aq;subst aq
 exact .inl ⟨v',w,μ,gG,h,Step.refl _ _,ar⟩
theorem afy{t:TypeId}{a bO b b':Value}{r:Bool}{x y:Operand}(aF:bg μ a bO)(ai:bg μ b b')(he:ya P t a b=some r)(w:World):
 (∀op,(eqGuard op t x y bO b').run P w=.ok () w)/\(binOp .eql t bO b').run P w=.ok (.bool r) w/\(binOp .neq t bO b').run P w=.ok (.bool (!r)) w:=by
 have Aa:(Op.equal t bO b').run P w=.ok r w:=afL aF ai he 9999 w;unfold ya at he;cases hu:P.underlying t with
 |none=>rw[hu] at he;simp at he
 |some d=>
  rw[hu] at he
  have fin:(∀op,(eqGuard op t x y bO b').run P w=.ok () w)->(binOp .eql t bO b'=(do pure (.bool (<-Op.equal t bO b'))))->(binOp .neq t bO b'=(do pure (.bool (!(<-Op.equal t bO b')))))->
   (∀op,(eqGuard op t x y bO b').run P w=.ok () w)/\(binOp .eql t bO b').run P w=.ok (.bool r) w/\(binOp .neq t bO b').run P w=.ok (.bool (!r)) w:=fun g aw aR=>by
   rw[aw,aR];exact⟨g,by simp[Aa],by simp[Aa]⟩
  cases a with
  |pointer p=>
   have aA:∃hG,bO=.pointer hG:=by
    cases p with
    |none=>exact⟨_,aF.Dz⟩
    |some p=>obtain⟨_,_,_,_,_,q⟩:=aF.oK;exact⟨_,q⟩
   obtain⟨hG,rfl⟩:=aA;cases b with
   |pointer q=>
    have aA:∃dj,b'=.pointer dj:=by
     cases q with
     |none=>exact⟨_,ai.Dz⟩
     |some q=>obtain⟨_,_,_,_,_,q⟩:=ai.oK;exact⟨_,q⟩
    obtain⟨dj,rfl⟩:=aA;exact fin (fun op=>by cases op<;>simp[eqGuard]) rfl rfl
   |_=>cases d<;>cases p<;>cases he
  |slice p l c=>
   have aA:∃hG l' c',bO=.slice hG l' c':=by
    cases p with
    |none=>exact⟨_,_,_,aF.sx⟩
    |some p=>obtain⟨_,_,q⟩:=aF.y7;exact⟨_,_,_,q⟩
   obtain⟨hG,l',c',rfl⟩:=aA;cases b with
   |slice q du bN=>
    have aA:∃hG l' c',b'=.slice hG l' c':=by
     cases q with
     |none=>exact⟨_,_,_,ai.sx⟩
     |some p=>obtain⟨_,_,q⟩:=ai.y7;exact⟨_,_,_,q⟩
    obtain⟨aur,Ki,ass,rfl⟩:=aA;exact fin (fun op=>by cases op<;>simp[eqGuard]) rfl rfl
   |_=>cases d<;>cases p<;>cases he
  |map p=>
   have aA:∃hG,bO=.map hG:=by
    cases p with
    |none=>exact⟨_,aF.GI⟩
    |some p=>obtain⟨_,_,q⟩:=aF.GG;exact⟨_,q⟩
   obtain⟨hG,rfl⟩:=aA;cases b with
   |map q=>
    have aA:∃hG,b'=.map hG:=by
     cases q with
     |none=>exact⟨_,ai.GI⟩
     |some p=>obtain⟨_,_,q⟩:=ai.GG;exact⟨_,q⟩
    obtain⟨dj,rfl⟩:=aA;exact fin (fun op=>by cases op<;>simp[eqGuard]) rfl rfl
   |_=>cases d<;>cases p<;>cases he
  |nilFunc=>
   obtain rfl:=aF.KA;cases b with
   |func fn u v=>
    have aA:∃f u v,b'=.func f u v:=by
     rcases ai.Cm with⟨_,_,q,_⟩|⟨_,_,_,_,_,_,q⟩
     ·exact⟨_,_,_,q⟩
     ·exact⟨_,_,_,q⟩
    obtain⟨_,_,_,rfl⟩:=aA;exact fin (fun op=>by cases op<;>simp[eqGuard]) rfl rfl
   |_=>cases d<;>cases he
  |func fn u v=>
   have aA:∃f u v,bO=.func f u v:=by
    rcases aF.Cm with⟨_,_,q,_⟩|⟨_,_,_,_,_,_,q⟩
    ·exact⟨_,_,_,q⟩
    ·exact⟨_,_,_,q⟩
   obtain⟨_,_,_,rfl⟩:=aA;cases b with
   |nilFunc=>
    obtain rfl:=ai.KA;exact fin (fun op=>by cases op<;>simp[eqGuard]) rfl rfl
   |_=>cases d<;>cases he
  |nilIface=>
   obtain rfl:=aF.GU;cases b with
   |iface tU v=>
    obtain⟨_,rfl,_⟩:=ai.wX;exact fin (fun op=>by cases op<;>simp[eqGuard]) rfl rfl
   |_=>cases d<;>cases he
  |iface tU v=>
   obtain⟨_,rfl,_⟩:=aF.wX;cases b with
   |nilIface=>
    obtain rfl:=ai.GU;exact fin (fun op=>by cases op<;>simp[eqGuard]) rfl rfl
   |_=>cases d<;>cases he
  |_=>cases d<;>cases he
theorem afT(h:bX P B w0 μ H w)(aJ:jU μ S.T n tmps){r:cE}(he:cj P call aE S H o=some r):nF P B w0 call aE μ H w (execOp (cU tmps) o) r:=by
 have eg:∀x v,a1 S.T H x=some v->bg μ v (cU tmps x):=fun x v q=>tL h aJ q;unfold cj eF at he;simp only at he;cases ah:o.op with
 |move x=>
  rw[ah] at he;have he:gH (a1 S.T H x) H=some r:=he;have:=pw (call:=call) (aE:=aE) (s:=pure (cU tmps x)) h (fun v q=>⟨_,rfl,eg x v q⟩) he;simpa[execOp,ah] using this
 |assign x=>
  rw[ah] at he;have he:gH (a1 S.T H x) H=some r:=he;have:=pw (call:=call) (aE:=aE) (s:=pure (cU tmps x)) h (fun v q=>⟨_,rfl,eg x v q⟩) he;simpa[execOp,ah] using this
 |load t a=>
  rw[ah] at he;have he:AU P ⟨call,aE,S,H,o⟩ t (a1 S.T H a)=some r:=he;cases aF:a1 S.T H a with
  |none=>rw[aF] at he;cases he
  |some p=>
   rw[aF] at he;have:=pw (call:=call) (aE:=aE) h (fun v q=>afR h (eg a p aF) q) he;simpa[execOp,ah] using this
 |pick c a b=>
  rw[ah] at he;have he:yT P ⟨call,aE,S,H,o⟩ a b (a1 S.T H c)=some r:=he;cases aD:a1 S.T H c with
  |none=>rw[aD] at he;cases he
  |some o5=>
   rw[aD] at he;have Fy:=eg c o5 aD;cases o5 with
   |bool fj=>
    have Vz:=Fy.Ev;cases fj with
    |true=>
     have he:gH (a1 S.T H a) H=some r:=he;have:=pw (call:=call) (aE:=aE) (s:=pure (cU tmps a)) h (fun v q=>⟨_,rfl,eg a v q⟩) he;simpa[execOp,ah,Vz,asBool] using this
    |false=>
     have he:gH (a1 S.T H b) H=some r:=he;have:=pw (call:=call) (aE:=aE) (s:=pure (cU tmps b)) h (fun v q=>⟨_,rfl,eg b v q⟩) he;simpa[execOp,ah,Vz,asBool] using this
   |_=>cases he
 |alloc elem=>
  rw[ah] at he;have he:Q0 P ⟨call,aE,S,H,o⟩ elem (gX P elem)=some r:=he;cases aG:gX P elem with
  |none=>rw[aG] at he;cases he
  |some z=>
   rw[aG] at he;have he:(bif plain z then mS (wb H elem z) else none)=some r:=he;cases ao:plain z with
   |false=>rw[ao] at he;cases he
   |true=>
    rw[ao,b4] at he;have:=xi (call:=call) (aE:=aE) (s:=Instr.alloc elem true (.tuple #[])) (fun v H' q=>by
     obtain⟨a7,bc,cu,c9,cI,ee,fh⟩:=Uy h (py ao) q;refine⟨a7,bc,cu,?_,cI,ee,fh⟩;simpa[Instr.alloc,Instr.box,vx aG] using c9) he
    simpa[execOp,ah] using this
 |box elem x=>
  rw[ah] at he;have he:G8 P ⟨call,aE,S,H,o⟩ elem (a1 S.T H x)=some r:=he;cases U:a1 S.T H x with
  |none=>rw[U] at he;cases he
  |some v=>
   rw[U] at he;have:=xi (call:=call) (aE:=aE) (fun v H' q=>Uy h (eg x _ U) q) he;simpa[execOp,ah] using this
 |build t parts=>
  rw[ah] at he;have he:AR P ⟨call,aE,S,H,o⟩ t (k5 S.T H parts.toList)=some r:=he;cases ao:k5 S.T H parts.toList with
  |none=>rw[ao] at he;cases he
  |some ps=>
   rw[ao] at he;have mi:=YB h aJ ao;have:=pw (call:=call) (aE:=aE) h (fun v q=>afE mi q w) he;have aw:(parts.toList.map fun(i,x)=>(i,cU tmps x)).toArray=parts.map fun(i,x)=>(i,cU tmps x):=by apply qz;simp
   rw[aw] at this;simpa[execOp,ah] using this
 |buildSlice t len parts=>
  rw[ah] at he;have he:G9 P ⟨call,aE,S,H,o⟩ t len (k5 S.T H parts.toList)=some r:=he;cases ao:k5 S.T H parts.toList with
  |none=>rw[ao] at he;cases he
  |some ps=>
   rw[ao] at he;have mi:=YB h aJ ao;have:=xi (call:=call) (aE:=aE) (fun v H' q=>afD h mi q) he;have aw:(parts.toList.map fun(i,x)=>(i,cU tmps x)).toArray=parts.map fun(i,x)=>(i,cU tmps x):=by apply qz;simp
   rw[aw] at this;simpa[execOp,ah] using this
 |store t a x=>
  rw[ah] at he;have he:Dw P ⟨call,aE,S,H,o⟩ t (a1 S.T H a) (a1 S.T H x)=some r:=he;cases aF:a1 S.T H a with
  |none=>rw[aF] at he;cases he
  |some p=>
   cases U:a1 S.T H x with
   |none=>rw[aF,U] at he;cases he
   |some v=>
    rw[aF,U] at he;have:=amW (call:=call) (aE:=aE) (fun H' q=>afZ h (eg a p aF) (eg x v U) q) he;simpa[execOp,ah] using this
 |nilCheck x=>
  rw[ah] at he;have he:AX P ⟨call,aE,S,H,o⟩ (a1 S.T H x)=some r:=he;cases U:a1 S.T H x with
  |none=>rw[U] at he;cases he
  |some v=>
   rw[U] at he;have aq:=eg x v U;cases v with
   |pointer a=>
    cases a with
    |none=>cases he
    |some a=>
     obtain⟨id,off,L,rfl,a4,ar⟩:=aq.oK;exact vQ h he (v':=cU tmps x) (by simp[execOp,ah,ar]) aq
   |func fn a b=>
    cases fn with
    |func f=>
     rcases aq.Cm with⟨bO,b',ar,_⟩|⟨l,L,q,_⟩
     ·exact vQ h he (v':=cU tmps x) (by simp[execOp,ah,ar]) aq
     ·cases q
    |_=>cases he
   |iface t v=>
    obtain⟨dv,ar,_⟩:=aq.wX;exact vQ h he (v':=cU tmps x) (by simp[execOp,ah,ar]) aq
   |_=>cases he
 |unOp op t x=>
  rw[ah] at he;exact E5 h aJ (fun cs b q=>by rw[ah] at q;cases q) he
 |makeInterface t x=>
  rw[ah] at he;have he:AW P ⟨call,aE,S,H,o⟩ t (a1 S.T H x) (P.underlying t)=some r:=he;cases U:a1 S.T H x with
  |none=>rw[U] at he;cases P.underlying t<;>cases he
  |some v=>
   cases hu:P.underlying t with
   |none=>rw[U,hu] at he;cases he
   |some d=>
    rw[U,hu] at he;have Vx:P.concrete t=true/\some (cE.val (.iface t v) H)=some r:=by
     cases d<;>first|(cases he;done)|exact⟨by simp[Program.concrete,hu],he⟩
    exact vQ h Vx.2 (by simp[execOp,ah,run_makeInterface w t _ Vx.1]) (.iface t v _ (eg x v U))
 |makeFunc fn first captured=>
  rw[ah] at he;have he:AV P ⟨call,aE,S,H,o⟩ fn (fy S.T H first.toList) (fy S.T H captured.toList)=some r:=he;cases ab:fy S.T H first.toList with
  |none=>rw[ab] at he;cases he
  |some a=>
   cases ad:fy S.T H captured.toList with
   |none=>rw[ab,ad] at he;cases he
   |some b=>
    rw[ab,ad] at he;have dL:=Hd h aJ ab;have du:=Hd h aJ ad;have tu:w9 fn=true/\some (cE.val (.func fn a.toArray b.toArray) H)=some r:=by
     cases fn<;>first|(cases he;done)|exact⟨rfl,he⟩
    refine vQ h tu.2 (v':=.func fn (first.map (cU tmps)) (captured.map (cU tmps))) (by simp[execOp,ah,Instr.makeFunc]) ?_;exact .func _ _ _ _ _ tu.1 (by simpa using dL.1) (by simpa using du.1) (fun i v v' q dj=>dL.2 i v v' (by simpa using q) (by simpa using dj)) (fun i v v' q dj=>du.2 i v v' (by simpa using q) (by simpa using dj))
 |makeMap t rs=>rw[ah] at he;cases he
 |makeSlice t l c=>
  rw[ah] at he;have he:G' P ⟨call,aE,S,H,o⟩ t (a1 S.T H l) (a1 S.T H c)=some r:=he;cases ab:a1 S.T H l with
  |none=>rw[ab] at he;cases he
  |some Gz=>
   cases ad:a1 S.T H c with
   |none=>rw[ab,ad] at he;cases he
   |some o5=>
    rw[ab,ad] at he;have:=xi (call:=call) (aE:=aE) (fun v H' q=>afS h (eg l Gz ab) (eg c o5 ad) q) he;simpa[execOp,ah] using this
 |slice t x lo ak GO=>
  rw[ah] at he;cases GO with
  |some m=>cases he
  |none=>
   have he:lY P ⟨call,aE,S,H,o⟩ t (a1 S.T H x) (ho S.T H lo) (ho S.T H ak)=some r:=he;cases ab:a1 S.T H x with
   |none=>rw[ab] at he;cases he
   |some Bt=>
    cases ad:ho S.T H lo with
    |none=>rw[ab,ad] at he;cases he
    |some Xv=>
     cases aL:ho S.T H ak with
     |none=>rw[ab,ad,aL] at he;cases he
     |some CG=>
      rw[ab,ad,aL] at he;have he:orElse (gH (jY P H t Bt Xv CG) H) (fl P S.T H o)=some r:=he;cases ar:gH (jY P H t Bt Xv CG) H with
      |none=>rw[ar] at he;exact E5 h aJ (fun cs b q=>by rw[ah] at q;cases q) he
      |some ch=>
       rw[ar] at he;have he:some ch=some r:=he;injection he with he;subst he
       have:=pw (call:=call) (aE:=aE) h (fun v q=>afY h (eg x Bt ab) (Yu h aJ ad) (Yu h aJ aL) q) ar;simpa[execOp,ah] using this
 |fieldAddr s x f=>
  rw[ah] at he;have he:AT P ⟨call,aE,S,H,o⟩ s f (a1 S.T H x)=some r:=he;cases U:a1 S.T H x with
  |none=>rw[U] at he;cases he
  |some p=>
   rw[U] at he;have:=pw (call:=call) (aE:=aE) h (fun v q=>afN (eg x p U) q w) he;simpa[execOp,ah] using this
 |indexAddr t x c7=>
  rw[ah] at he;have he:xh P ⟨call,aE,S,H,o⟩ t (a1 S.T H x) (a1 S.T H c7)=some r:=he;cases ab:a1 S.T H x with
  |none=>rw[ab] at he;cases he
  |some Bt=>
   cases ad:a1 S.T H c7 with
   |none=>rw[ab,ad] at he;cases he
   |some Gp=>
    rw[ab,ad] at he;have:=pw (call:=call) (aE:=aE) h (fun v q=>afO (eg x Bt ab) (eg c7 Gp ad) q w) he;simpa[execOp,ah] using this
 |lookup t x k ok=>rw[ah] at he;cases he
 |mapUpdate t m k x=>rw[ah] at he;cases he
 |insert t m k x=>rw[ah] at he;cases he
 |typeAssert x xt asserted ok=>
  rw[ah] at he;have he:AY P ⟨call,aE,S,H,o⟩ asserted ok (a1 S.T H x)=some r:=he;cases U:a1 S.T H x with
  |none=>rw[U] at he;cases he
  |some v=>
   rw[U] at he;have:=pw (call:=call) (aE:=aE) h (fun u q=>af6 (xt:=xt) (eg x v U) q w) he;simpa[execOp,ah] using this
 |extract t c7=>
  rw[ah] at he;have he:AS P ⟨call,aE,S,H,o⟩ c7 (a1 S.T H t)=some r:=he;cases U:a1 S.T H t with
  |none=>rw[U] at he;cases he
  |some v=>
   rw[U] at he;cases v with
   |tuple vs=>
    obtain⟨bO,ar,ap⟩:=(eg t _ U).aqi;have he:gH (nth vs.toList c7) H=some r:=he;have:=pw (call:=call) (aE:=aE) (s:=Instr.extract (cU tmps t) c7) h (fun v q=>by
     rw[kA] at q;obtain⟨v',aK,aH⟩:=ap.get q;refine⟨v',?_,aH⟩;have aK:bO[c7]?=some v':=by simpa using aK
     simp[Instr.extract,ar,aK]) he
    simpa[execOp,ah] using this
   |_=>cases he
 |panic x=>
  rw[ah] at he;have he:Ha P ⟨call,aE,S,H,o⟩ (a1 S.T H x)=some r:=he;cases U:a1 S.T H x with
  |none=>rw[U] at he;cases he
  |some v=>
   rw[U] at he;cases v with
   |iface t v=>
    obtain⟨dv,ar,aq⟩:=(eg x _ U).wX;have he:some (cE.fO [{v:=.iface t v,recovered:=false}] H)=some r:=he;injection he with he;subst he
    refine .inl ⟨.iface t v,.iface t dv,rfl,rfl,?_,.iface t v dv aq⟩;simp[execOp,ah,ar,Instr.panic,goPanic,Sem.run]
   |_=>cases he
 |call c=>
  rw[ah] at he;have he:ju P ⟨call,aE,S,H,o⟩ c=some r:=he;unfold ju at he;cases mc:c.callee with
  |builtin b=>
   rw[mc] at he;exact afF h aJ ah mc he
  |value f=>
   rw[mc] at he;exact Uz h aJ ah (fun b q=>by rw[mc] at q;cases q) he
  |invoke auF GV=>
   rw[mc] at he;exact Uz h aJ ah (fun b q=>by rw[mc] at q;cases q) he
 |defer c=>
  rw[ah] at he;have he:vk P ⟨call,aE,S,H,o⟩ c=some r:=he;unfold vk at he;cases aq:S.cc with
  |some l=>simp only[aq] at he;cases he
  |none=>simp only[aq] at he;exact afJ h aJ ah he
 |field t x f=>
  rw[ah] at he;have he:Dv P ⟨call,aE,S,H,o⟩ f (a1 S.T H x) (P.underlying t)=some r:=he;cases U:a1 S.T H x with
  |none=>rw[U] at he;cases he
  |some v=>
   rw[U] at he;cases v with
   |agg cs=>
    obtain⟨bO,ar,ap⟩:=(eg x _ U).Ty;cases hu:P.underlying t with
    |none=>rw[hu] at he;cases he
    |some d=>
     rw[hu] at he;cases d with
     |struct fields=>
      have he:(match fields[f]? with|some f=>gH (mD P f.type cs.toList f.offset) H|none=>none)=some r:=he
      cases aA:fields[f]? with
      |none=>rw[aA] at he;cases he
      |some fd=>
       rw[aA] at he;have:=pw (call:=call) (aE:=aE) (s:=Instr.field t (cU tmps x) f) h (fun v q=>by
        obtain⟨v',aK,aH⟩:=UE ap q w;refine⟨v',?_,aH⟩;have aK:(part fd.type bO fd.offset).run P w=.ok v' w:=by simpa using aK
        simp[Instr.field,eE hu,aA,ar,asAgg,aK]) he
       simpa[execOp,ah] using this
     |_=>cases he
   |_=>cases he
 |index t x c7=>
  rw[ah] at he;have he:yS P ⟨call,aE,S,H,o⟩ (a1 S.T H x) (a1 S.T H c7) (P.underlying t)=some r:=he;cases U:a1 S.T H x with
  |none=>rw[U] at he;cases he
  |some v=>
   cases ak:a1 S.T H c7 with
   |none=>rw[U,ak] at he;cases v<;>cases he
   |some Gp=>
    rw[U,ak] at he;have u4:=eg x v U;have VM:=eg c7 Gp ak;cases v with
    |agg cs=>
     obtain⟨bO,ar,ap⟩:=u4.Ty;cases Gp with
     |int k i=>
      have CG:=VM.qf;cases hu:P.underlying t with
      |none=>rw[hu] at he;cases he
      |some d=>
       rw[hu] at he;cases d with
       |array len elem=>
        have j0:(match tD i len,ey P elem with|some n,some sz=>gH (mD P elem cs.toList (n*sz)) H|_,_=>none)=some r:=he
        cases az:tD i len with
        |none=>rw[az] at j0;cases j0
        |some m=>
         rw[az] at j0;cases hs:ey P elem with
         |none=>rw[hs] at j0;cases j0
         |some sz=>
          rw[hs] at j0;obtain⟨rfl,b9⟩:=P2 az;have:=pw (call:=call) (aE:=aE) (s:=Instr.index t (cU tmps x) (cU tmps c7)) h (fun v q=>by
           obtain⟨v',aK,aH⟩:=UE ap q w;refine⟨v',?_,aH⟩;have aK:(part elem bO (m*sz)).run P w=.ok v' w:=by simpa using aK
           simp[Instr.index,CG,asIntOf,eE hu,ar,b9,kk hs,aK]) j0
          simpa[execOp,ah] using this
       |_=>cases he
     |_=>cases he
    |string s=>
     have ar:=u4.Hv;cases Gp with
     |int k i=>
      have CG:=VM.qf;cases hu:P.underlying t with
      |none=>rw[hu] at he;cases he
      |some d=>
       rw[hu] at he;cases d with
       |string=>
        cases i with
        |negSucc m=>cases he
        |ofNat m=>
         have he:(match nth s.data.toList m with|some b=>qT (.ofNat b.toNat) (pD H .u8)|none=>none)=some r:=he
         cases ai:nth s.data.toList m with
         |none=>rw[ai] at he;cases he
         |some b=>
          rw[ai] at he;have he:qT (.ofNat b.toNat) (pD H .u8)=some r:=he;rw[tb] at he;have ajD:s[m]?=some b:=by
           rw[kA] at ai;have b9:m<s.size:=by have:=(gS.1 ai).1;simpa using this
           rw[getElem?_pos s m b9];have ad:s.data[m]?=some b:=by simpa using ai
           rw[zf b9] at ad;injection ad with ad;rw[<-ad];rfl
          refine vQ h he (v':=.int .u8 b.toNat) ?_ (.atom _ rfl);simp[execOp,ah,Instr.index,CG,asIntOf,eE hu,ar,ajD]
       |_=>cases he
     |_=>cases he
    |_=>cases he
 |convert src dst x=>
  rw[ah] at he;have eQ:fl P S.T H o=some r->nF P B w0 call aE μ H w (execOp (cU tmps) o) r:=E5 h aJ (fun cs b q=>by rw[ah] at q;cases q);have he:xg P ⟨call,aE,S,H,o⟩ src dst (a1 S.T H x)=some r:=he;cases U:a1 S.T H x with
  |none=>rw[U] at he;cases he
  |some v=>
   rw[U] at he;have u4:=eg x v U;cases v with
   |string s=>
    have he:orElse (mS (wg P H src dst s)) (fl P S.T H o)=some r:=he;cases ar:wg P H src dst s with
    |none=>rw[ar] at he;exact eQ he
    |some p=>
     have he:mS (wg P H src dst s)=some r:=by rw[ar] at he ⊢;obtain⟨a,b⟩:=p;exact he
     have:=xi (call:=call) (aE:=aE) (fun v H' q=>af2 h q) he;simpa[execOp,ah,u4.Hv] using this
   |pointer a=>
    cases a with
    |none=>exact eQ he
    |some a=>
     have:=pw (call:=call) (aE:=aE) h (fun v q=>afH h u4 q) he;simpa[execOp,ah] using this
   |slice a l c=>
    have:=pw (call:=call) (aE:=aE) h (fun v q=>af5 h u4 (af3 q)) he;simpa[execOp,ah] using this
   |int k i=>
    have he:(match P.underlying src,P.underlying dst with|some _,some (.int k)=>qT (ze k i) (pD H k)|_,_=>fl P S.T H o)=some r:=he
    cases hs:P.underlying src with
    |none=>rw[hs] at he;exact eQ he
    |some ds=>
    cases al:P.underlying dst with
    |none=>rw[hs,al] at he;exact eQ he
    |some d=>
     rw[hs,al] at he;cases d with
     |int kX=>
      have he:qT (ze kX i) (pD H kX)=some r:=he;rw[tb,DR] at he;refine vQ h he (v':=.int kX (kX.wrap i)) ?_ (.atom _ rfl);simp[execOp,ah,u4.qf,convert,eE hs,eE al,Conv.intToInt]
     |_=>exact eQ he
   |_=>exact eQ he
 |binOp op t x y qy=>
  rw[ah] at he;have eQ:fl P S.T H o=some r->nF P B w0 call aE μ H w (execOp (cU tmps) o) r:=E5 h aJ (fun cs b q=>by rw[ah] at q;cases q);have he:lX P ⟨call,aE,S,H,o⟩ op t (a1 S.T H x) (a1 S.T H y)=some r:=he;cases U:a1 S.T H x with
  |none=>rw[U] at he;cases he
  |some a=>
   cases au:a1 S.T H y with
   |none=>rw[U,au] at he;cases a<;>cases he
   |some b=>
    rw[U,au] at he;have u4:=eg x a U;have WG:=eg y b au;have y8:tK P ⟨call,aE,S,H,o⟩ op t a b=some r->nF P B w0 call aE μ H w (execOp (cU tmps) o) r:=by
     intro he;have he:orElse (fl P S.T H o) (xf P ⟨call,aE,S,H,o⟩ t a b op)=some r:=he;cases ao:fl P S.T H o with
     |some ch=>
      rw[ao] at he;have he:some ch=some r:=he;injection he with he;subst he
      exact eQ ao
     |none=>
      rw[ao] at he;have he:xf P ⟨call,aE,S,H,o⟩ t a b op=some r:=he;cases bI:ya P t a b with
      |none=>
       unfold xf at he;simp only[bI] at he;cases op<;>cases he
      |some Y5=>
       obtain⟨aw,aR,cf⟩:=afy (x:=x) (y:=y) u4 WG bI w;unfold xf at he;simp only[bI] at he;cases op with
       |eql=>exact vQ h he (v':=.bool Y5) (by simp[execOp,ah,aw .eql,aR]) (.atom _ rfl)
       |neq=>exact vQ h he (v':=.bool (!Y5)) (by simp[execOp,ah,aw .neq,cf]) (.atom _ rfl)
       |_=>cases he
    cases a with
    |int k i=>
     cases b with
     |int l j=>
      have j0:(bif lT k l then iY H k i j (fl P S.T H o) op else tK P ⟨call,aE,S,H,o⟩ op t (.int k i) (.int l j))=some r:=he;cases hk:lT k l with
      |false=>rw[hk,da] at j0;exact y8 j0
      |true=>
       rw[hk,b4] at j0;have:=W0 hk;subst this;exact akm h u4.qf WG.qf ⟨qy,ah⟩ eQ j0
     |_=>exact y8 he
    |_=>exact y8 (by cases b<;>exact he)
 |ready g=>rw[ah] at he;cases he
 |waits g=>rw[ah] at he;cases he
 |sliceToArrayPointer d x=>rw[ah] at he;cases he
 |makeChan t s=>rw[ah] at he;cases he
 |mapEntry t m k=>rw[ah] at he;cases he
 |entryStore t m s x=>rw[ah] at he;cases he
 |range t x=>rw[ah] at he;cases he
 |next it b=>rw[ah] at he;cases he
 |entry it=>rw[ah] at he;cases he
 |go c=>rw[ah] at he;cases he
 |send a b=>rw[ah] at he;cases he
 |recv a b c=>rw[ah] at he;cases he
 |select a b=>rw[ah] at he;cases he
end
end
end Go.Cre
namespace Go.Cre
noncomputable section
open Go.RowKit
def bH(fr:Frame)(tmps:Array Value)(ds:List Deferred)(todo:List Item):Frame:={fr with tmps:=tmps,todo:=todo,defers:=ds,mode:=.run}
section
variable {P:Program}{fr:Frame}{tmps:Array Value}{ds:List Deferred}{k:List Item}{cs:List Frame}{w:World}
theorem I9(todo:List Item):(bH fr tmps ds todo).eval=cU tmps:=by
 funext x;cases x<;>rfl
theorem apE:step P (lone (bH fr tmps ds (.code .skip::k)) cs w)=.next (lone (bH fr tmps ds k) cs w):=step_lone_go (by simp[stepG,stepG.exec,bH])
theorem apt{l:Nat}:step P (lone (bH fr tmps ds (.code (.label l)::k)) cs w)=.next (lone (bH fr tmps ds k) cs w):=step_lone_go (by simp[stepG,stepG.exec,bH])
theorem apr{id:Nat}:step P (lone (bH fr tmps ds (.inBlock id::k)) cs w)=.next (lone (bH fr tmps ds k) cs w):=step_lone_go (by simp[stepG,stepG.exec,bH])
theorem aps{c:Code}:step P (lone (bH fr tmps ds (.inScope c::k)) cs w)=.next (lone (bH fr tmps ds k) cs w):=step_lone_go (by simp[stepG,stepG.exec,bH])
theorem RE{x y:Code}:step P (lone (bH fr tmps ds (.code (.seq x y)::k)) cs w)=.next (lone (bH fr tmps ds (.code x::.code y::k)) cs w):=step_lone_go (by simp[stepG,stepG.exec,bH])
theorem ZX{c:Operand}{x y:Code}{t:Bool}(h:cU tmps c=.bool t):step P (lone (bH fr tmps ds (.code (.cond c x y)::k)) cs w)=.next (lone (bH fr tmps ds (.code (if t then x else y)::k)) cs w):=
 step_lone_go (by
  have he:=congrFun (I9 (fr:=fr) (tmps:=tmps) (ds:=ds) (.code (.cond c x y)::k)) c;rw[h] at he;simp only[bH] at he;simp[stepG,stepG.exec,bH,he])
theorem apl{id:Nat}{c:Code}:step P (lone (bH fr tmps ds (.code (.block id c)::k)) cs w)=.next (lone (bH fr tmps ds (.code c::.inBlock id::k)) cs w):=step_lone_go (by simp[stepG,stepG.exec,bH])
theorem apD{c:Code}:step P (lone (bH fr tmps ds (.code (.scope c)::k)) cs w)=.next (lone (bH fr tmps ds (.code c::.inScope c::k)) cs w):=step_lone_go (by simp[stepG,stepG.exec,bH])
theorem Z0{c:Code}:step P (lone (bH fr tmps ds (.code (.loop c)::k)) cs w)=.next (lone (bH fr tmps ds (.code c::.inLoop c::k)) cs w):=step_lone_go (by simp[stepG,stepG.exec,bH])
theorem ZZ{c:Code}:step P (lone (bH fr tmps ds (.inLoop c::k)) cs w)=.next (lone (bH fr tmps ds (.code c::.inLoop c::k)) cs w):=step_lone_go (by simp[stepG,stepG.exec,bH])
theorem apq{id:Nat}{kX:List Item}(h:exitTo id k=some kX):step P (lone (bH fr tmps ds (.code (.exit id)::k)) cs w)=.next (lone (bH fr tmps ds kX) cs w):=step_lone_go (by simp[stepG,stepG.exec,bH,h])
theorem Z1{id:Nat}{ops:Array Oper}:step P (lone (bH fr tmps ds (.code (.region id ops false)::k)) cs w)=.next (lone (bH fr tmps ds (.inRegion ops (List.range ops.size)::k)) cs w):=step_lone_go (by simp[stepG,stepG.exec,bH])
theorem RD{ops:Array Oper}:step P (lone (bH fr tmps ds (.inRegion ops []::k)) cs w)=.next (lone (bH fr tmps ds k) cs w):=step_lone_go (by simp[stepG,stepG.exec,bH])
theorem apn{id:Nat}{ops:Array Oper}:step P (lone (bH fr tmps ds (.code (.region id ops true)::k)) cs w)=
 .next (lone (bH fr tmps ds (.inRegion ops (Region.schedule (P.follows .mixedOrders) ops (w.tape w.drawn (.order fr.fn id)))::k)) cs {w with drawn:=w.drawn+1}):=
 step_lone_go (by simp[stepG,stepG.exec,bH,choose,Sem.run,Question.forced,Question.cut])
def tN(tmps:Array Value)(dst:Option Tmp)(v:Value):Array Value:=match dst with|some d=>tmps.setIfInBounds d v|none=>tmps
theorem zW{ops:Array Oper}{i:Nat}{rest:List Nat}{o:Oper}(ah:ops[i]?=some o)(v:Value):(bH fr tmps ds (.inRegion ops (i::rest)::k)).finish v=bH fr (tN tmps o.dst v) ds (.inRegion ops rest::k):=by
 simp only[Frame.finish,bH,ah,Th,tN];cases o.dst<;>rfl
theorem apG{ops:Array Oper}{i:Nat}{rest:List Nat}{o:Oper}(ah:ops[i]?=some o)(hw:Region.wanted o (yielded ops tmps)=false):
 step P (lone (bH fr tmps ds (.inRegion ops (i::rest)::k)) cs w)=.next (lone (bH fr (tN tmps o.dst undef) ds (.inRegion ops rest::k)) cs w):=by
 rw[<-zW ah];exact step_lone_go (by simp[stepG,stepG.exec,bH,ah,hw])
theorem A6{ops:Array Oper}{i:Nat}{rest:List Nat}{o:Oper}(ah:ops[i]?=some o)(hw:Region.wanted o (yielded ops tmps)=true)(dP:fr.roundOf=none\/∀c,o.op≠.defer c):
 stepG P true {frame:=bH fr tmps ds (.inRegion ops (i::rest)::k),callers:=cs,status:=.running,dying:=none} w=
  stepG.apply P true (bH fr tmps ds (.inRegion ops (i::rest)::k)) cs none (execOp (cU tmps) o) w:=by
 have he:=I9 (fr:=fr) (tmps:=tmps) (ds:=ds) (.inRegion ops (i::rest)::k);simp only[bH] at he;simp only[stepG,stepG.exec,stepG.oper,Frame.oper?,bH,ah,hw,he,Iv,Ti,Kc];rcases dP with h|h
 ·rw[h]
 ·cases aq:fr.roundOf with
  |none=>rfl
  |some l=>
   cases eg:o.op with
   |defer c=>exact absurd eg (h c)
   |_=>rfl
theorem RF{ops:Array Oper}{i:Nat}{rest:List Nat}{o:Oper}{v:Value}{a5:World}(ah:ops[i]?=some o)(hw:Region.wanted o (yielded ops tmps)=true)(dP:fr.roundOf=none\/∀c,o.op≠.defer c)
 (aq:(execOp (cU tmps) o).run P w=.ok (.value v) a5):
 step P (lone (bH fr tmps ds (.inRegion ops (i::rest)::k)) cs w)=.next (lone (bH fr (tN tmps o.dst v) ds (.inRegion ops rest::k)) cs a5):=by
 rw[<-zW ah];exact step_lone_go (by rw[A6 ah hw dP];simp[stepG.apply,aq])
theorem apF{ops:Array Oper}{i:Nat}{rest:List Nat}{o:Oper}{a5:World}(ah:ops[i]?=some o)(hw:Region.wanted o (yielded ops tmps)=true)(dP:fr.roundOf=none\/∀c,o.op≠.defer c)
 (aq:(execOp (cU tmps) o).run P w=.ok .skip a5):
 step P (lone (bH fr tmps ds (.inRegion ops (i::rest)::k)) cs w)=.next (lone (bH fr (tN tmps o.dst undef) ds (.inRegion ops rest::k)) cs a5):=by
 rw[<-zW ah];exact step_lone_go (by rw[A6 ah hw dP];simp[stepG.apply,aq])
theorem apx{ops:Array Oper}{i:Nat}{rest:List Nat}{o:Oper}{v:Value}{a5:World}(ah:ops[i]?=some o)(hw:Region.wanted o (yielded ops tmps)=true)(dP:fr.roundOf=none\/∀c,o.op≠.defer c)
 (aq:(execOp (cU tmps) o).run P w=.halt (.panic v) a5):
 step P (lone (bH fr tmps ds (.inRegion ops (i::rest)::k)) cs w)=.next (lone {bH fr tmps ds (.inRegion ops (i::rest)::k) with mode:=.panicking [{v,recovered:=false}]} cs a5):=
 step_lone_go (by rw[A6 ah hw dP];simp[stepG.apply,aq,Frame.raise,bH])
theorem apm{ops:Array Oper}{i:Nat}{rest:List Nat}{o:Oper}{d:Deferred}{a5:World}(ah:ops[i]?=some o)(hw:Region.wanted o (yielded ops tmps)=true)(dP:fr.roundOf=none)
 (aq:(execOp (cU tmps) o).run P w=.ok (.defer d) a5):
 step P (lone (bH fr tmps ds (.inRegion ops (i::rest)::k)) cs w)=.next (lone (bH fr (tN tmps o.dst undef) (d::ds) (.inRegion ops rest::k)) cs a5):=by
 have aA:({bH fr tmps ds (.inRegion ops (i::rest)::k) with defers:=d::ds}:Frame).finish undef=bH fr (tN tmps o.dst undef) (d::ds) (.inRegion ops rest::k):=
  zW (fr:=fr) (tmps:=tmps) (ds:=d::ds) (k:=k) (rest:=rest) ah undef
 refine step_lone_go ?_;rw[A6 ah hw (.inl dP)];simp only[stepG.apply,Sem.runT_eq,aq,GStep.bare_after,Kc];exact b6 (fun f=>GStep.go {frame:=f,callers:=cs,status:=.running,dying:=none} a5) aA
theorem ZY{ops:Array Oper}{i:Nat}{rest:List Nat}{o:Oper}{f:FuncId}{args:Array Value}{a5:World}(ah:ops[i]?=some o)(hw:Region.wanted o (yielded ops tmps)=true)(dP:fr.roundOf=none\/∀c,o.op≠.defer c)
 (aq:(execOp (cU tmps) o).run P w=.ok (.enter f args) a5):
 step P (lone (bH fr tmps ds (.inRegion ops (i::rest)::k)) cs w)=.next (lone (Frame.enter P f args .normal) (bH fr tmps ds (.inRegion ops (i::rest)::k)::cs) a5):=
 step_lone_go (by rw[A6 ah hw dP];simp[stepG.apply,aq,bH])
theorem Z2{ops:Array Oper}{i:Nat}{rest:List Nat}{o:Oper}{l:Nat}{f:FuncId}{oM:Array Value}{a b:Code}{a5:World}(ah:ops[i]?=some o)(hw:Region.wanted o (yielded ops tmps)=true)(dP:fr.roundOf=none\/∀c,o.op≠.defer c)
 (aq:(execOp (cU tmps) o).run P w=.ok (.round l f oM a b) a5):
 step P (lone (bH fr tmps ds (.inRegion ops (i::rest)::k)) cs w)=.next (lone (Frame.round l f oM a b .normal) (bH fr tmps ds (.inRegion ops (i::rest)::k)::cs) a5):=
 step_lone_go (by rw[A6 ah hw dP];simp[stepG.apply,aq])
end
end
end Go.Cre
namespace Go.Cre
noncomputable section
open Go.RowKit
def ig(μ:bL)(c c':List PanicEntry):Prop:=c.length=c'.length/\∀(i:Nat) e bC,c[i]?=some e->c'[i]?=some bC->bC.recovered=e.recovered/\bC.goexit=e.goexit/\bg μ e.v bC.v
def oY(μ:bL):FrameMode->FrameMode->Prop
 |.run,.run=>True
 |.returning,.returning=>True
 |.panicking c,.panicking c'=>ig μ c c'
 |_,_=>False
def H2(μ:bL)(d kN:Deferred):Prop:=
 (∃kv cap dT,d.target=.fn kv cap/\kN.target=.fn kv dT/\w9 kv=true/\bT μ cap.toList dT.toList/\bT μ d.args.toList kN.args.toList)\/(∃r L,d.target=.collected r/\μ r=some L/\kN.target=.collected L.r)
inductive sI (μ:bL):List Deferred->List Deferred->Prop
 |nil:sI μ [] []
 |cons (d kN:Deferred) (l l':List Deferred):H2 μ d kN->sI μ l l'->sI μ (d::l) (kN::l')
def zi(μ:bL):Ending->Ending->Prop
 |.returned v,.returned v'=>bg μ v v'
 |.panicked c,.panicked c'=>ig μ c c'
 |_,_=>False
section
variable {P:Program}{B:Nat->Prop}{w0 w:World}{μ bf:bL}{H H':an}
theorem ig.mono{c c':List PanicEntry}(h:ig μ c c')(e:Ext μ bf):ig bf c c':=⟨h.1,fun i a b x y=>by obtain⟨p,q,r⟩:=h.2 i a b x y;exact⟨p,q,r.mono e⟩⟩
theorem oY.mono{m m':FrameMode}(h:oY μ m m')(e:Ext μ bf):oY bf m m':=by
 cases m<;>cases m'<;>first|trivial|exact h.elim|exact ig.mono h e
theorem H2.mono{d kN:Deferred}(h:H2 μ d kN)(e:Ext μ bf):H2 bf d kN:=by
 rcases h with⟨kv,cap,dT,ab,ad,aL,a6,fb⟩|⟨r,L,ab,ad,aL⟩
 ·exact .inl ⟨kv,cap,dT,ab,ad,aL,a6.mono e,fb.mono e⟩
 ·exact .inr ⟨r,L,ab,e _ _ ad,aL⟩
theorem sI.mono{l l':List Deferred}(h:sI μ l l')(e:Ext μ bf):sI bf l l':=by
 induction h with
 |nil=>exact .nil
 |cons d kN l l' al _ aP=>exact .cons d kN l l' (al.mono e) aP
theorem ig.single{v v':Value}(h:bg μ v v'):ig μ [{v:=v,recovered:=false}] [{v:=v',recovered:=false}]:=
 ⟨rfl,fun i e bC x y=>by
  cases i with
  |zero=>simp at x y;subst x;subst y;exact⟨rfl,rfl,h⟩
  |succ i=>simp at x⟩
structure hJ (P:Program) (μ:bL) (S:aV) (fr:Frame) (tmps:Array Value) (ds:List Deferred) (cs:List Frame):Prop where
 t:jU μ S.T S.n tmps
 d:sI μ S.ds ds
 kind:fr.kind=if S.bG then .deferred else .normal
 tR:S.cc=none->fr.roundOf=none
 y2:∀l,S.cc=some l->∃L,μ l=some L/\fr.roundOf=some L.r
 bd:S.bG=true->∃c rest,cs=c::rest/\oY μ S.bd c.mode
 fn:∃fn,P.funcs[fr.fn]?=some fn
theorem hJ.mono{S:aV}{fr:Frame}{tmps:Array Value}{ds:List Deferred}{cs:List Frame}(h:hJ P μ S fr tmps ds cs)(e:Ext μ bf):hJ P bf S fr tmps ds cs:=
 ⟨h.t.mono e,h.d.mono e,h.kind,h.tR,fun l q=>by obtain⟨L,a,b⟩:=h.y2 l q;exact⟨L,e _ _ a,b⟩,fun q=>by obtain⟨c,r,a,b⟩:=h.bd q;exact⟨c,r,a,b.mono e⟩,h.fn⟩
def jz(d:Bool)(cs cy:List Frame):Prop:=if d then ∃c rest m,cs=c::rest/\cy={c with mode:=m}::rest else cy=cs
theorem jz.refl(d:Bool)(cs:List Frame)(h:d=true->∃c rest,cs=c::rest):jz d cs cs:=by
 cases d with
 |false=>rfl
 |true=>obtain⟨c,rest,rfl⟩:=h rfl;exact⟨c,rest,c.mode,rfl,rfl⟩
theorem jz.trans{d:Bool}{a b c:List Frame}(h:jz d a b)(k:jz d b c):jz d a c:=by
 cases d with
 |false=>exact Eq.trans k h
 |true=>
  obtain⟨x,rest,m,rfl,rfl⟩:=h;obtain⟨y,xn,m',e,rfl⟩:=k;injection e with aw aR;subst aw;subst aR
  exact⟨x,rest,m',rfl,rfl⟩
def oQ(P:Program)(B:Nat->Prop)(w0:World)(call:eo):Prop:=
 ∀f args H e H',call f args H=some (e,H')->∀μ w bP,bX P B w0 μ H w->bT μ args bP->
  (∃v v' a5 bf,e=.returned v/\(callFunc f bP.toArray).run P w=.ok (.value v') a5/\bX P B w0 bf H' a5/\Step μ bf H H'/\bg bf v v')\/
  ((callFunc f bP.toArray).run P w=.ok (.enter f bP.toArray) w/\Calls P f bP.toArray w (fun bC a5=>∃bf,bX P B w0 bf H' a5/\Step μ bf H H'/\zi bf e bC))
def aa2(c:Frame):Ending->Frame
 |.returned v=>c.finish v
 |.panicked bk=>c.raise bk
 |.outgrown=>c
def vN(P:Program)(B:Nat->Prop)(w0:World)(aE:gU):Prop:=
 ∀l args H e H',aE l args H=some (e,H')->∀μ w L bP,bX P B w0 μ H w->μ l=some L->bT μ args bP->
  ∃f oM a b,(Instr.yield L.r bP.toArray).run P w=.ok (.round L.r f oM a b) w/\
   ∀caller cs,∃bC a5 bf,bX P B w0 bf H' a5/\Step μ bf H H'/\zi bf e bC/\Steps P (lone (Frame.round L.r f oM a b .normal) (caller::cs) w) (lone (aa2 caller bC) cs a5)
theorem U1{ops:Array Oper}{T:aW Value}{n:Nat}{tmps:Array Value}{o:Oper}{b:Bool}(aJ:jU μ T n tmps)(he:fa ops.toList T o=some b):Region.wanted o (yielded ops tmps)=b:=by
 unfold fa at he;unfold Region.wanted;cases ax:o.guard with
 |none=>rw[ax] at he;simp at he;exact he.symm▸rfl
 |some p=>
  obtain⟨j,want⟩:=p;rw[ax] at he;have he:uN ops.toList T (j,want)=some b:=he;simp only[uN,kA] at he;simp only[yielded];have aY:ops.toList[j]?=ops[j]?:=by simp
  rw[aY] at he;cases ao:ops[j]? with
  |none=>rw[ao] at he;simp at he;subst he;simp
  |some p=>
   rw[ao] at he;simp only at he;cases al:p.dst with
   |none=>rw[al] at he;simp at he;subst he;simp[al]
   |some d=>
    rw[al] at he;simp only at he;cases b1:T.get d with
    |none=>rw[b1] at he;simp at he
    |some v=>
     rw[b1] at he;have ar:=aJ.2 d v b1;have mG:tmps[d]?=some (tmps.getD d undef)\/(tmps[d]?=none/\tmps.getD d undef=undef):=by
      rcases hL d tmps.size with q|q
      ·left;simp[q]
      ·right;simp[q]
     simp only[Th,al];have X8:(∀c,v≠.bool c)->v≠.chan none->∀c,tmps.getD d undef≠.bool c:=fun az hw c q=>by
      rw[q] at ar;cases ar with
      |atom _ _=>exact az c rfl
      |xF _ _=>exact hw rfl
     by_cases ph:∃c,v=.bool c
     ·obtain⟨c,rfl⟩:=ph;simp only[cl] at he;subst he;have iW:=ar.Ev;rcases mG with q|⟨_,q⟩
      ·rw[q,iW];simp
      ·rw[q] at iW;cases iW
     ·have gr:∀c,v≠.bool c:=fun c q=>ph ⟨c,q⟩;have ai0:v≠.chan none:=fun q=>by rw[q] at he;cases he
      have ai:b=false:=by
       cases v<;>first|(simp only[cl] at he;exact he.symm)|exact absurd ⟨_,rfl⟩ ph|cases he
      subst ai;rcases mG with q|⟨q,_⟩
      ·rw[q];have:=X8 gr ai0;cases U:tmps.getD d undef<;>first|rfl|exact absurd U (this _)
      ·rw[q];rfl
theorem Rb{S aC:aV}{fr:Frame}{tmps:Array Value}{ds:List Deferred}{cs:List Frame}{dst:Option Tmp}{v v':Value}(h:hJ P μ S fr tmps ds cs)(ar:bg μ v v')(he:S.put dst v=some aC):
 hJ P μ aC fr (tN tmps dst v') ds cs/\aC.bG=S.bG/\aC.cc=S.cc/\aC.bd=S.bd/\aC.ds=S.ds:=by
 cases dst with
 |none=>
  have he:some S=some aC:=he;injection he with he;subst he
  exact⟨h,rfl,rfl,rfl,rfl⟩
 |some d=>
  obtain⟨T,n,fx,bG,bd,cc⟩:=S;have he:Bool.rec (motive:=fun _=>Option aV) none (aV.pz n fx bG bd cc (aW.put v T d)) (Nat.ble (Nat.succ d) n)=some aC:=he;cases ai:Nat.ble (Nat.succ d) n with
  |false=>rw[ai] at he;cases he
  |true=>
   rw[ai] at he;have ai:=hv ai;have he:aV.pz n fx bG bd cc (aW.put v T d)=some aC:=he;cases ao:aW.put v T d with
   |none=>rw[ao] at he;cases he
   |some dD=>
    rw[ao] at he;have he:some (aV.mk dD n fx bG bd cc)=some aC:=he;injection he with he;subst he
    refine⟨⟨⟨by have:=h.t.1;simpa[tN] using this,fun t u q=>?_⟩,h.d,h.kind,h.tR,h.y2,h.bd,h.fn⟩,rfl,rfl,rfl,rfl⟩;have q:dD.get t=some u:=q;rw[aW.get_put ao] at q;have dF:n<=tmps.size:=h.t.1;show bg μ u ((tmps.setIfInBounds d v').getD t undef);by_cases PB:t=d
    ·subst PB;rw[a2 rfl] at q;injection q with q;subst q
     have:(tmps.setIfInBounds t v').getD t undef=v':=by
      have:t<tmps.size:=by omega
      simp[this]
     rw[this];exact ar
    ·rw[aZ PB] at q;have:(tmps.setIfInBounds d v').getD t undef=tmps.getD t undef:=by
      simp[Sq (Ne.symm PB)]
     rw[this];exact h.t.2 t u q
def kq(P:Program)(B:Nat->Prop)(w0:World)(μ:bL)(H:an)(S:aV)(fr:Frame)(cs:List Frame)(m:Machine)(todo:List Item):dd->Prop
 |.ok aC H'=>∃bf a5 gB eL cy,bX P B w0 bf H' a5/\Step μ bf H H'/\hJ P bf aC fr gB eL cy/\jz S.bG cs cy/\aC.bG=S.bG/\aC.cc=S.cc/\Steps P m (lone (bH fr gB eL todo) cy a5)
 |.fO chain aC H'=>∃bf a5 gB eL cy EL jM,bX P B w0 bf H' a5/\Step μ bf H H'/\hJ P bf aC fr gB eL cy/\jz S.bG cs cy/\aC.bG=S.bG/\aC.cc=S.cc/\ig bf chain EL/\
  Steps P m (lone {bH fr gB eL jM with mode:=.panicking EL} cy a5)
end
end
end Go.Cre
