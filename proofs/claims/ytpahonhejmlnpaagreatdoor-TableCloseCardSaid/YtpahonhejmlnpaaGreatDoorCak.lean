/- A part of the proof of TableClose. -/
import Derived.Test.YtpahonhejmlnpaaGreatDoorCaj
import Derived.Laws.Build
import Derived.Defers
import Derived.Recover
set_option linter.unusedVariables false
set_option linter.unusedSimpArgs false
namespace Go.Cre
noncomputable section
open Go.RowKit
section
variable {P:Program}{B:Nat->Prop}{w0 w:World}{μ:bz}{H H':ai}{n:Nat}{tmps:Array Value}
variable {call:ed}{aE:fX}{o:Oper}{S:aT}
theorem sn(h:bL P B w0 μ H w){s:Sem Next}{v v':Value}{r:cv}(al:some (cv.val v H)=some r)(fK:s.run P w=.ok (.value v') w)(ay:bc μ v v'):lz P B w0 call aE μ H w s r:=by
 injection al with al;subst al
 exact .inl ⟨v',w,μ,fK,h,Step.refl _ _,ay⟩
theorem Vh{t:TypeId}{a bE b b':Value}{r:Bool}{x y:Operand}(aK:bc μ a bE)(ah:bc μ b b')(he:sw P t a b=some r)(w:World):
 (∀op,(eqGuard op t x y bE b').run P w=.ok () w)/\(binOp .eql t bE b').run P w=.ok (.bool r) w/\(binOp .neq t bE b').run P w=.ok (.bool (!r)) w:=by
 have vQ:(Op.equal t bE b').run P w=.ok r w:=Vu aK ah he 9999 w;unfold sw at he;cases hu:P.underlying t with
 |none=>rw[hu] at he;simp at he
 |some d=>
  rw[hu] at he
  have fin:(∀op,(eqGuard op t x y bE b').run P w=.ok () w)->(binOp .eql t bE b'=(do pure (.bool (<-Op.equal t bE b'))))->(binOp .neq t bE b'=(do pure (.bool (!(<-Op.equal t bE b')))))->
   (∀op,(eqGuard op t x y bE b').run P w=.ok () w)/\(binOp .eql t bE b').run P w=.ok (.bool r) w/\(binOp .neq t bE b').run P w=.ok (.bool (!r)) w:=fun g aC aZ=>by
   rw[aC,aZ];exact⟨g,by simp[vQ],by simp[vQ]⟩
  cases a with
  |pointer p=>
   have az:∃gg,bE=.pointer gg:=by
    cases p with
    |none=>exact⟨_,aK.yG⟩
    |some p=>obtain⟨_,_,_,_,_,q⟩:=aK.me;exact⟨_,q⟩
   obtain⟨gg,rfl⟩:=az;cases b with
   |pointer q=>
    have az:∃c3,b'=.pointer c3:=by
     cases q with
     |none=>exact⟨_,ah.yG⟩
     |some q=>obtain⟨_,_,_,_,_,q⟩:=ah.me;exact⟨_,q⟩
    obtain⟨c3,rfl⟩:=az;exact fin (fun op=>by cases op<;>simp[eqGuard]) rfl rfl
   |_=>cases d<;>cases p<;>cases he
  |slice p l c=>
   have az:∃gg l' bw,bE=.slice gg l' bw:=by
    cases p with
    |none=>exact⟨_,_,_,aK.pz⟩
    |some p=>obtain⟨_,_,q⟩:=aK.uH;exact⟨_,_,_,q⟩
   obtain⟨gg,l',bw,rfl⟩:=az;cases b with
   |slice q fg bQ=>
    have az:∃gg l' bw,b'=.slice gg l' bw:=by
     cases q with
     |none=>exact⟨_,_,_,ah.pz⟩
     |some p=>obtain⟨_,_,q⟩:=ah.uH;exact⟨_,_,_,q⟩
    obtain⟨ahN,D3,afW,rfl⟩:=az;exact fin (fun op=>by cases op<;>simp[eqGuard]) rfl rfl
   |_=>cases d<;>cases p<;>cases he
  |map p=>
   have az:∃gg,bE=.map gg:=by
    cases p with
    |none=>exact⟨_,aK.Bd⟩
    |some p=>obtain⟨_,_,q⟩:=aK.Bc;exact⟨_,q⟩
   obtain⟨gg,rfl⟩:=az;cases b with
   |map q=>
    have az:∃gg,b'=.map gg:=by
     cases q with
     |none=>exact⟨_,ah.Bd⟩
     |some p=>obtain⟨_,_,q⟩:=ah.Bc;exact⟨_,q⟩
    obtain⟨c3,rfl⟩:=az;exact fin (fun op=>by cases op<;>simp[eqGuard]) rfl rfl
   |_=>cases d<;>cases p<;>cases he
  |nilFunc=>
   obtain rfl:=aK.Ef;cases b with
   |func fn u v=>
    have az:∃f u v,b'=.func f u v:=by
     rcases ah.xA with⟨_,_,q,_⟩|⟨_,_,_,_,_,_,q⟩
     ·exact⟨_,_,_,q⟩
     ·exact⟨_,_,_,q⟩
    obtain⟨_,_,_,rfl⟩:=az;exact fin (fun op=>by cases op<;>simp[eqGuard]) rfl rfl
   |_=>cases d<;>cases he
  |func fn u v=>
   have az:∃f u v,bE=.func f u v:=by
    rcases aK.xA with⟨_,_,q,_⟩|⟨_,_,_,_,_,_,q⟩
    ·exact⟨_,_,_,q⟩
    ·exact⟨_,_,_,q⟩
   obtain⟨_,_,_,rfl⟩:=az;cases b with
   |nilFunc=>
    obtain rfl:=ah.Ef;exact fin (fun op=>by cases op<;>simp[eqGuard]) rfl rfl
   |_=>cases d<;>cases he
  |nilIface=>
   obtain rfl:=aK.Bl;cases b with
   |iface qF v=>
    obtain⟨_,rfl,_⟩:=ah.sY;exact fin (fun op=>by cases op<;>simp[eqGuard]) rfl rfl
   |_=>cases d<;>cases he
  |iface qF v=>
   obtain⟨_,rfl,_⟩:=aK.sY;cases b with
   |nilIface=>
    obtain rfl:=ah.Bl;exact fin (fun op=>by cases op<;>simp[eqGuard]) rfl rfl
   |_=>cases d<;>cases he
  |_=>cases d<;>cases he
theorem VC(h:bL P B w0 μ H w)(aM:iE μ S.T n tmps){r:cv}(he:ct P call aE S H o=some r):lz P B w0 call aE μ H w (execOp (cQ tmps) o) r:=by
 have dC:∀x v,aW S.T H x=some v->bc μ v (cQ tmps x):=fun x v q=>qu h aM q;unfold ct eA at he;simp only at he;cases ag:o.op with
 |move x=>
  rw[ag] at he;have he:fT (aW S.T H x) H=some r:=he;have:=mX (call:=call) (aE:=aE) (s:=pure (cQ tmps x)) h (fun v q=>⟨_,rfl,dC x v q⟩) he;simpa[execOp,ag] using this
 |assign x=>
  rw[ag] at he;have he:fT (aW S.T H x) H=some r:=he;have:=mX (call:=call) (aE:=aE) (s:=pure (cQ tmps x)) h (fun v q=>⟨_,rfl,dC x v q⟩) he;simpa[execOp,ag] using this
 |load t a=>
  rw[ag] at he;have he:wq P ⟨call,aE,S,H,o⟩ t (aW S.T H a)=some r:=he;cases aK:aW S.T H a with
  |none=>rw[aK] at he;cases he
  |some p=>
   rw[aK] at he;have:=mX (call:=call) (aE:=aE) h (fun v q=>VA h (dC a p aK) q) he;simpa[execOp,ag] using this
 |pick c a b=>
  rw[ag] at he;have he:uB P ⟨call,aE,S,H,o⟩ a b (aW S.T H c)=some r:=he;cases aL:aW S.T H c with
  |none=>rw[aL] at he;cases he
  |some gk=>
   rw[aL] at he;have Hs:=dC c gk aL;cases gk with
   |bool ks=>
    have NN:=Hs.zw;cases ks with
    |true=>
     have he:fT (aW S.T H a) H=some r:=he;have:=mX (call:=call) (aE:=aE) (s:=pure (cQ tmps a)) h (fun v q=>⟨_,rfl,dC a v q⟩) he;simpa[execOp,ag,NN,asBool] using this
    |false=>
     have he:fT (aW S.T H b) H=some r:=he;have:=mX (call:=call) (aE:=aE) (s:=pure (cQ tmps b)) h (fun v q=>⟨_,rfl,dC b v q⟩) he;simpa[execOp,ag,NN,asBool] using this
   |_=>cases he
 |alloc elem=>
  rw[ag] at he;have he:Jm P ⟨call,aE,S,H,o⟩ elem (fG P elem)=some r:=he;cases a0:fG P elem with
  |none=>rw[a0] at he;cases he
  |some z=>
   rw[a0] at he;have he:(bif plain z then k1 (sv H elem z) else none)=some r:=he;cases ao:plain z with
   |false=>rw[ao] at he;cases he
   |true=>
    rw[ao,b1] at he;have:=td (call:=call) (aE:=aE) (s:=Instr.alloc elem true (.tuple #[])) (fun v H' q=>by
     obtain⟨bx,bX,cy,c0,cr,dY,fI⟩:=MO h (mZ ao) q;refine⟨bx,bX,cy,?_,cr,dY,fI⟩;simpa[Instr.alloc,Instr.box,r3 a0] using c0) he
    simpa[execOp,ag] using this
 |box elem x=>
  rw[ag] at he;have he:Bw P ⟨call,aE,S,H,o⟩ elem (aW S.T H x)=some r:=he;cases U:aW S.T H x with
  |none=>rw[U] at he;cases he
  |some v=>
   rw[U] at he;have:=td (call:=call) (aE:=aE) (fun v H' q=>MO h (dC x _ U) q) he;simpa[execOp,ag] using this
 |build t parts=>
  rw[ag] at he;have he:wk P ⟨call,aE,S,H,o⟩ t (jF S.T H parts.toList)=some r:=he;cases ao:jF S.T H parts.toList with
  |none=>rw[ao] at he;cases he
  |some ps=>
   rw[ao] at he;have H2:=P9 h aM ao;have:=mX (call:=call) (aE:=aE) h (fun v q=>Vn H2 q w) he;have aC:(parts.toList.map fun(i,x)=>(i,cQ tmps x)).toArray=parts.map fun(i,x)=>(i,cQ tmps x):=by apply oG;simp
   rw[aC] at this;simpa[execOp,ag] using this
 |buildSlice t len parts=>
  rw[ag] at he;have he:Bx P ⟨call,aE,S,H,o⟩ t len (jF S.T H parts.toList)=some r:=he;cases ao:jF S.T H parts.toList with
  |none=>rw[ao] at he;cases he
  |some ps=>
   rw[ao] at he;have H2:=P9 h aM ao;have:=td (call:=call) (aE:=aE) (fun v H' q=>Vm h H2 q) he;have aC:(parts.toList.map fun(i,x)=>(i,cQ tmps x)).toArray=parts.map fun(i,x)=>(i,cQ tmps x):=by apply oG;simp
   rw[aC] at this;simpa[execOp,ag] using this
 |store t a x=>
  rw[ag] at he;have he:yB P ⟨call,aE,S,H,o⟩ t (aW S.T H a) (aW S.T H x)=some r:=he;cases aK:aW S.T H a with
  |none=>rw[aK] at he;cases he
  |some p=>
   cases U:aW S.T H x with
   |none=>rw[aK,U] at he;cases he
   |some v=>
    rw[aK,U] at he;have:=aby (call:=call) (aE:=aE) (fun H' q=>VI h (dC a p aK) (dC x v U) q) he;simpa[execOp,ag] using this
 |nilCheck x=>
  rw[ag] at he;have he:wx P ⟨call,aE,S,H,o⟩ (aW S.T H x)=some r:=he;cases U:aW S.T H x with
  |none=>rw[U] at he;cases he
  |some v=>
   rw[U] at he;have al:=dC x v U;cases v with
   |pointer a=>
    cases a with
    |none=>cases he
    |some a=>
     obtain⟨id,off,L,rfl,bP,ay⟩:=al.me;exact sn h he (v':=cQ tmps x) (by simp[execOp,ag,ay]) al
   |func fn a b=>
    cases fn with
    |func f=>
     rcases al.xA with⟨bE,b',ay,_⟩|⟨l,L,q,_⟩
     ·exact sn h he (v':=cQ tmps x) (by simp[execOp,ag,ay]) al
     ·cases q
    |_=>cases he
   |iface t v=>
    obtain⟨dg,ay,_⟩:=al.sY;exact sn h he (v':=cQ tmps x) (by simp[execOp,ag,ay]) al
   |_=>cases he
 |unOp op t x=>
  rw[ag] at he;exact zX h aM (fun cs b q=>by rw[ag] at q;cases q) he
 |makeInterface t x=>
  rw[ag] at he;have he:wv P ⟨call,aE,S,H,o⟩ t (aW S.T H x) (P.underlying t)=some r:=he;cases U:aW S.T H x with
  |none=>rw[U] at he;cases P.underlying t<;>cases he
  |some v=>
   cases hu:P.underlying t with
   |none=>rw[U,hu] at he;cases he
   |some d=>
    rw[U,hu] at he;have NM:P.concrete t=true/\some (cv.val (.iface t v) H)=some r:=by
     cases d<;>first|(cases he;done)|exact⟨by simp[Program.concrete,hu],he⟩
    exact sn h NM.2 (by simp[execOp,ag,run_makeInterface w t _ NM.1]) (.iface t v _ (dC x v U))
 |makeFunc fn first captured=>
  rw[ag] at he;have he:wu P ⟨call,aE,S,H,o⟩ fn (eQ S.T H first.toList) (eQ S.T H captured.toList)=some r:=he;cases aa:eQ S.T H first.toList with
  |none=>rw[aa] at he;cases he
  |some a=>
   cases ab:eQ S.T H captured.toList with
   |none=>rw[aa,ab] at he;cases he
   |some b=>
    rw[aa,ab] at he;have fM:=BA h aM aa;have fg:=BA h aM ab;have rF:s7 fn=true/\some (cv.val (.func fn a.toArray b.toArray) H)=some r:=by
     cases fn<;>first|(cases he;done)|exact⟨rfl,he⟩
    refine sn h rF.2 (v':=.func fn (first.map (cQ tmps)) (captured.map (cQ tmps))) (by simp[execOp,ag,Instr.makeFunc]) ?_;exact .func _ _ _ _ _ rF.1 (by simpa using fM.1) (by simpa using fg.1) (fun i v v' q c3=>fM.2 i v v' (by simpa using q) (by simpa using c3)) (fun i v v' q c3=>fg.2 i v v' (by simpa using q) (by simpa using c3))
 |makeMap t rs=>rw[ag] at he;cases he
 |makeSlice t l c=>
  rw[ag] at he;have he:By P ⟨call,aE,S,H,o⟩ t (aW S.T H l) (aW S.T H c)=some r:=he;cases aa:aW S.T H l with
  |none=>rw[aa] at he;cases he
  |some Pk=>
   cases ab:aW S.T H c with
   |none=>rw[aa,ab] at he;cases he
   |some gk=>
    rw[aa,ab] at he;have:=td (call:=call) (aE:=aE) (fun v H' q=>VB h (dC l Pk aa) (dC c gk ab) q) he;simpa[execOp,ag] using this
 |slice t x gE ar Bh=>
  rw[ag] at he;cases Bh with
  |some m=>cases he
  |none=>
   have he:lN P ⟨call,aE,S,H,o⟩ t (aW S.T H x) (g4 S.T H gE) (g4 S.T H ar)=some r:=he;cases aa:aW S.T H x with
   |none=>rw[aa] at he;cases he
   |some wR=>
    cases ab:g4 S.T H gE with
    |none=>rw[aa,ab] at he;cases he
    |some Pj=>
     cases aY:g4 S.T H ar with
     |none=>rw[aa,ab,aY] at he;cases he
     |some xV=>
      rw[aa,ab,aY] at he;have he:orElse (fT (jN P H t wR Pj xV) H) (eI P S.T H o)=some r:=he;cases ay:fT (jN P H t wR Pj xV) H with
      |none=>rw[ay] at he;exact zX h aM (fun cs b q=>by rw[ag] at q;cases q) he
      |some cg=>
       rw[ay] at he;have he:some cg=some r:=he;injection he with he;subst he
       have:=mX (call:=call) (aE:=aE) h (fun v q=>VH h (dC x wR aa) (P1 h aM ab) (P1 h aM aY) q) ay;simpa[execOp,ag] using this
 |fieldAddr s x f=>
  rw[ag] at he;have he:wo P ⟨call,aE,S,H,o⟩ s f (aW S.T H x)=some r:=he;cases U:aW S.T H x with
  |none=>rw[U] at he;cases he
  |some p=>
   rw[U] at he;have:=mX (call:=call) (aE:=aE) h (fun v q=>Vw (dC x p U) q w) he;simpa[execOp,ag] using this
 |indexAddr t x bj=>
  rw[ag] at he;have he:tc P ⟨call,aE,S,H,o⟩ t (aW S.T H x) (aW S.T H bj)=some r:=he;cases aa:aW S.T H x with
  |none=>rw[aa] at he;cases he
  |some wR=>
   cases ab:aW S.T H bj with
   |none=>rw[aa,ab] at he;cases he
   |some A1=>
    rw[aa,ab] at he;have:=mX (call:=call) (aE:=aE) h (fun v q=>Vx (dC x wR aa) (dC bj A1 ab) q w) he;simpa[execOp,ag] using this
 |lookup t x k ok=>rw[ag] at he;cases he
 |mapUpdate t m k x=>rw[ag] at he;cases he
 |insert t m k x=>rw[ag] at he;cases he
 |typeAssert x xt asserted ok=>
  rw[ag] at he;have he:yC P ⟨call,aE,S,H,o⟩ asserted ok (aW S.T H x)=some r:=he;cases U:aW S.T H x with
  |none=>rw[U] at he;cases he
  |some v=>
   rw[U] at he;have:=mX (call:=call) (aE:=aE) h (fun u q=>VP (xt:=xt) (dC x v U) q w) he;simpa[execOp,ag] using this
 |extract t bj=>
  rw[ag] at he;have he:wm P ⟨call,aE,S,H,o⟩ bj (aW S.T H t)=some r:=he;cases U:aW S.T H t with
  |none=>rw[U] at he;cases he
  |some v=>
   rw[U] at he;cases v with
   |tuple vs=>
    obtain⟨bE,ay,aA⟩:=(dC t _ U).ad7;have he:fT (nth vs.toList bj) H=some r:=he;have:=mX (call:=call) (aE:=aE) (s:=Instr.extract (cQ tmps t) bj) h (fun v q=>by
     rw[jU] at q;obtain⟨v',aR,aN⟩:=aA.get q;refine⟨v',?_,aN⟩;have aR:bE[bj]?=some v':=by simpa using aR
     simp[Instr.extract,ay,aR]) he
    simpa[execOp,ag] using this
   |_=>cases he
 |panic x=>
  rw[ag] at he;have he:Eo P ⟨call,aE,S,H,o⟩ (aW S.T H x)=some r:=he;cases U:aW S.T H x with
  |none=>rw[U] at he;cases he
  |some v=>
   rw[U] at he;cases v with
   |iface t v=>
    obtain⟨dg,ay,al⟩:=(dC x _ U).sY;have he:some (cv.h9 [{v:=.iface t v,recovered:=false}] H)=some r:=he;injection he with he;subst he
    refine .inl ⟨.iface t v,.iface t dg,rfl,rfl,?_,.iface t v dg al⟩;simp[execOp,ag,ay,Instr.panic,goPanic,Sem.run]
   |_=>cases he
 |call c=>
  rw[ag] at he;have he:jW P ⟨call,aE,S,H,o⟩ c=some r:=he;unfold jW at he;cases kN:c.callee with
  |builtin b=>
   rw[kN] at he;exact Vo h aM ag kN he
  |value f=>
   rw[kN] at he;exact MP h aM ag (fun b q=>by rw[kN] at q;cases q) he
  |invoke Qw Bm=>
   rw[kN] at he;exact MP h aM ag (fun b q=>by rw[kN] at q;cases q) he
 |defer c=>
  rw[ag] at he;have he:rV P ⟨call,aE,S,H,o⟩ c=some r:=he;unfold rV at he;cases al:S.b8 with
  |some l=>simp only[al] at he;cases he
  |none=>simp only[al] at he;exact Vs h aM ag he
 |field t x f=>
  rw[ag] at he;have he:uz P ⟨call,aE,S,H,o⟩ f (aW S.T H x) (P.underlying t)=some r:=he;cases U:aW S.T H x with
  |none=>rw[U] at he;cases he
  |some v=>
   rw[U] at he;cases v with
   |agg cs=>
    obtain⟨bE,ay,aA⟩:=(dC x _ U).LO;cases hu:P.underlying t with
    |none=>rw[hu] at he;cases he
    |some d=>
     rw[hu] at he;cases d with
     |struct fields=>
      have he:(match fields[f]? with|some f=>fT (kv P f.type cs.toList f.offset) H|none=>none)=some r:=he
      cases az:fields[f]? with
      |none=>rw[az] at he;cases he
      |some fd=>
       rw[az] at he;have:=mX (call:=call) (aE:=aE) (s:=Instr.field t (cQ tmps x) f) h (fun v q=>by
        obtain⟨v',aR,aN⟩:=MU aA q w;refine⟨v',?_,aN⟩;have aR:(part fd.type bE fd.offset).run P w=.ok v' w:=by simpa using aR
        simp[Instr.field,ec hu,az,ay,asAgg,aR]) he
       simpa[execOp,ag] using this
     |_=>cases he
   |_=>cases he
 |index t x bj=>
  rw[ag] at he;have he:uA P ⟨call,aE,S,H,o⟩ (aW S.T H x) (aW S.T H bj) (P.underlying t)=some r:=he;cases U:aW S.T H x with
  |none=>rw[U] at he;cases he
  |some v=>
   cases ar:aW S.T H bj with
   |none=>rw[U,ar] at he;cases v<;>cases he
   |some A1=>
    rw[U,ar] at he;have rJ:=dC x v U;have NY:=dC bj A1 ar;cases v with
    |agg cs=>
     obtain⟨bE,ay,aA⟩:=rJ.LO;cases A1 with
     |int k i=>
      have xV:=NY.nD;cases hu:P.underlying t with
      |none=>rw[hu] at he;cases he
      |some d=>
       rw[hu] at he;cases d with
       |array len elem=>
        have lD:(match qf i len,ea P elem with|some n,some sz=>fT (kv P elem cs.toList (n*sz)) H|_,_=>none)=some r:=he
        cases aw:qf i len with
        |none=>rw[aw] at lD;cases lD
        |some m=>
         rw[aw] at lD;cases af:ea P elem with
         |none=>rw[af] at lD;cases lD
         |some sz=>
          rw[af] at lD;obtain⟨rfl,cD⟩:=Iz aw;have:=mX (call:=call) (aE:=aE) (s:=Instr.index t (cQ tmps x) (cQ tmps bj)) h (fun v q=>by
           obtain⟨v',aR,aN⟩:=MU aA q w;refine⟨v',?_,aN⟩;have aR:(part elem bE (m*sz)).run P w=.ok v' w:=by simpa using aR
           simp[Instr.index,xV,asIntOf,ec hu,ay,cD,iX af,aR]) lD
          simpa[execOp,ag] using this
       |_=>cases he
     |_=>cases he
    |string s=>
     have ay:=rJ.BN;cases A1 with
     |int k i=>
      have xV:=NY.nD;cases hu:P.underlying t with
      |none=>rw[hu] at he;cases he
      |some d=>
       rw[hu] at he;cases d with
       |string=>
        cases i with
        |negSucc m=>cases he
        |ofNat m=>
         have he:(match nth s.data.toList m with|some b=>n5 (.ofNat b.toNat) (m5 H .u8)|none=>none)=some r:=he
         cases ah:nth s.data.toList m with
         |none=>rw[ah] at he;cases he
         |some b=>
          rw[ah] at he;have he:n5 (.ofNat b.toNat) (m5 H .u8)=some r:=he;rw[pS] at he;have Ii:s[m]?=some b:=by
           rw[jU] at ah;have cD:m<s.size:=by have:=(hq.1 ah).1;simpa using this
           rw[getElem?_pos s m cD];have ab:s.data[m]?=some b:=by simpa using ah
           rw[wV cD] at ab;injection ab with ab;rw[<-ab];rfl
          refine sn h he (v':=.int .u8 b.toNat) ?_ (.atom _ rfl);simp[execOp,ag,Instr.index,xV,asIntOf,ec hu,ay,Ii]
       |_=>cases he
     |_=>cases he
    |_=>cases he
 |convert src dst x=>
  rw[ag] at he;have ei:eI P S.T H o=some r->lz P B w0 call aE μ H w (execOp (cQ tmps) o) r:=zX h aM (fun cs b q=>by rw[ag] at q;cases q);have he:tb P ⟨call,aE,S,H,o⟩ src dst (aW S.T H x)=some r:=he;cases U:aW S.T H x with
  |none=>rw[U] at he;cases he
  |some v=>
   rw[U] at he;have rJ:=dC x v U;cases v with
   |string s=>
    have he:orElse (k1 (sy P H src dst s)) (eI P S.T H o)=some r:=he;cases ay:sy P H src dst s with
    |none=>rw[ay] at he;exact ei he
    |some p=>
     have he:k1 (sy P H src dst s)=some r:=by rw[ay] at he ⊢;obtain⟨a,b⟩:=p;exact he
     have:=td (call:=call) (aE:=aE) (fun v H' q=>VL h q) he;simpa[execOp,ag,rJ.BN] using this
   |pointer a=>
    cases a with
    |none=>exact ei he
    |some a=>
     have:=mX (call:=call) (aE:=aE) h (fun v q=>Vq h rJ q) he;simpa[execOp,ag] using this
   |slice a l c=>
    have:=mX (call:=call) (aE:=aE) h (fun v q=>VO h rJ (VM q)) he;simpa[execOp,ag] using this
   |int k i=>
    have he:(match P.underlying src,P.underlying dst with|some _,some (.int k)=>n5 (uQ k i) (m5 H k)|_,_=>eI P S.T H o)=some r:=he
    cases af:P.underlying src with
    |none=>rw[af] at he;exact ei he
    |some ds=>
    cases au:P.underlying dst with
    |none=>rw[af,au] at he;exact ei he
    |some d=>
     rw[af,au] at he;cases d with
     |int jE=>
      have he:n5 (uQ jE i) (m5 H jE)=some r:=he;rw[pS,yZ] at he;refine sn h he (v':=.int jE (jE.wrap i)) ?_ (.atom _ rfl);simp[execOp,ag,rJ.nD,convert,ec af,ec au,Conv.intToInt]
     |_=>exact ei he
   |_=>exact ei he
 |binOp op t x y E1=>
  rw[ag] at he;have ei:eI P S.T H o=some r->lz P B w0 call aE μ H w (execOp (cQ tmps) o) r:=zX h aM (fun cs b q=>by rw[ag] at q;cases q);have he:jV P ⟨call,aE,S,H,o⟩ op t (aW S.T H x) (aW S.T H y)=some r:=he;cases U:aW S.T H x with
  |none=>rw[U] at he;cases he
  |some a=>
   cases aF:aW S.T H y with
   |none=>rw[U,aF] at he;cases a<;>cases he
   |some b=>
    rw[U,aF] at he;have rJ:=dC x a U;have ON:=dC y b aF;have uI:qt P ⟨call,aE,S,H,o⟩ op t a b=some r->lz P B w0 call aE μ H w (execOp (cQ tmps) o) r:=by
     intro he;have he:orElse (eI P S.T H o) (rU P ⟨call,aE,S,H,o⟩ t a b op)=some r:=he;cases ao:eI P S.T H o with
     |some cg=>
      rw[ao] at he;have he:some cg=some r:=he;injection he with he;subst he
      exact ei ao
     |none=>
      rw[ao] at he;have he:rU P ⟨call,aE,S,H,o⟩ t a b op=some r:=he;cases cc:sw P t a b with
      |none=>
       unfold rU at he;simp only[cc] at he;cases op<;>cases he
      |some Qv=>
       obtain⟨aC,aZ,cJ⟩:=Vh (x:=x) (y:=y) rJ ON cc w;unfold rU at he;simp only[cc] at he;cases op with
       |eql=>exact sn h he (v':=.bool Qv) (by simp[execOp,ag,aC .eql,aZ]) (.atom _ rfl)
       |neq=>exact sn h he (v':=.bool (!Qv)) (by simp[execOp,ag,aC .neq,cJ]) (.atom _ rfl)
       |_=>cases he
    cases a with
    |int k i=>
     cases b with
     |int l j=>
      have lD:(bif jR k l then ir H k i j (eI P S.T H o) op else qt P ⟨call,aE,S,H,o⟩ op t (.int k i) (.int l j))=some r:=he;cases hk:jR k l with
      |false=>rw[hk,da] at lD;exact uI lD
      |true=>
       rw[hk,b1] at lD;have:=O3 hk;subst this;exact Zs h rJ.nD ON.nD ⟨E1,ag⟩ ei lD
     |_=>exact uI he
    |_=>exact uI (by cases b<;>exact he)
 |ready g=>rw[ag] at he;cases he
 |waits g=>rw[ag] at he;cases he
 |sliceToArrayPointer d x=>rw[ag] at he;cases he
 |makeChan t s=>rw[ag] at he;cases he
 |mapEntry t m k=>rw[ag] at he;cases he
 |entryStore t m s x=>rw[ag] at he;cases he
 |range t x=>rw[ag] at he;cases he
 |next it b=>rw[ag] at he;cases he
 |entry it=>rw[ag] at he;cases he
 |go c=>rw[ag] at he;cases he
 |send a b=>rw[ag] at he;cases he
 |recv a b c=>rw[ag] at he;cases he
 |select a b=>rw[ag] at he;cases he
end
end
end Go.Cre
namespace Go.Cre
noncomputable section
open Go.RowKit
def bt(fr:Frame)(tmps:Array Value)(ds:List Deferred)(todo:List Item):Frame:={fr with tmps:=tmps,todo:=todo,defers:=ds,mode:=.run}
section
variable {P:Program}{fr:Frame}{tmps:Array Value}{ds:List Deferred}{k:List Item}{cs:List Frame}{w:World}
theorem C0(todo:List Item):(bt fr tmps ds todo).eval=cQ tmps:=by
 funext x;cases x<;>rfl
theorem adE:step P (lone (bt fr tmps ds (.code .skip::k)) cs w)=.next (lone (bt fr tmps ds k) cs w):=step_lone_go (by simp[stepG,stepG.exec,bt])
theorem ads{l:Nat}:step P (lone (bt fr tmps ds (.code (.label l)::k)) cs w)=.next (lone (bt fr tmps ds k) cs w):=step_lone_go (by simp[stepG,stepG.exec,bt])
theorem adq{id:Nat}:step P (lone (bt fr tmps ds (.inBlock id::k)) cs w)=.next (lone (bt fr tmps ds k) cs w):=step_lone_go (by simp[stepG,stepG.exec,bt])
theorem adr{c:Code}:step P (lone (bt fr tmps ds (.inScope c::k)) cs w)=.next (lone (bt fr tmps ds k) cs w):=step_lone_go (by simp[stepG,stepG.exec,bt])
theorem JW{x y:Code}:step P (lone (bt fr tmps ds (.code (.seq x y)::k)) cs w)=.next (lone (bt fr tmps ds (.code x::.code y::k)) cs w):=step_lone_go (by simp[stepG,stepG.exec,bt])
theorem Q9{c:Operand}{x y:Code}{t:Bool}(h:cQ tmps c=.bool t):step P (lone (bt fr tmps ds (.code (.cond c x y)::k)) cs w)=.next (lone (bt fr tmps ds (.code (if t then x else y)::k)) cs w):=
 step_lone_go (by
  have he:=congrFun (C0 (fr:=fr) (tmps:=tmps) (ds:=ds) (.code (.cond c x y)::k)) c;rw[h] at he;simp only[bt] at he;simp[stepG,stepG.exec,bt,he])
theorem adl{id:Nat}{c:Code}:step P (lone (bt fr tmps ds (.code (.block id c)::k)) cs w)=.next (lone (bt fr tmps ds (.code c::.inBlock id::k)) cs w):=step_lone_go (by simp[stepG,stepG.exec,bt])
theorem adD{c:Code}:step P (lone (bt fr tmps ds (.code (.scope c)::k)) cs w)=.next (lone (bt fr tmps ds (.code c::.inScope c::k)) cs w):=step_lone_go (by simp[stepG,stepG.exec,bt])
theorem Rb{c:Code}:step P (lone (bt fr tmps ds (.code (.loop c)::k)) cs w)=.next (lone (bt fr tmps ds (.code c::.inLoop c::k)) cs w):=step_lone_go (by simp[stepG,stepG.exec,bt])
theorem Ra{c:Code}:step P (lone (bt fr tmps ds (.inLoop c::k)) cs w)=.next (lone (bt fr tmps ds (.code c::.inLoop c::k)) cs w):=step_lone_go (by simp[stepG,stepG.exec,bt])
theorem adp{id:Nat}{jE:List Item}(h:exitTo id k=some jE):step P (lone (bt fr tmps ds (.code (.exit id)::k)) cs w)=.next (lone (bt fr tmps ds jE) cs w):=step_lone_go (by simp[stepG,stepG.exec,bt,h])
theorem Rc{id:Nat}{ops:Array Oper}:step P (lone (bt fr tmps ds (.code (.region id ops false)::k)) cs w)=.next (lone (bt fr tmps ds (.inRegion ops (List.range ops.size)::k)) cs w):=step_lone_go (by simp[stepG,stepG.exec,bt])
theorem JV{ops:Array Oper}:step P (lone (bt fr tmps ds (.inRegion ops []::k)) cs w)=.next (lone (bt fr tmps ds k) cs w):=step_lone_go (by simp[stepG,stepG.exec,bt])
theorem adn{id:Nat}{ops:Array Oper}:step P (lone (bt fr tmps ds (.code (.region id ops true)::k)) cs w)=
 .next (lone (bt fr tmps ds (.inRegion ops (Region.schedule (P.follows .mixedOrders) ops (w.tape w.drawn (.order fr.fn id)))::k)) cs {w with drawn:=w.drawn+1}):=
 step_lone_go (by simp[stepG,stepG.exec,bt,choose,Sem.run,Question.forced,Question.cut])
def qx(tmps:Array Value)(dst:Option Tmp)(v:Value):Array Value:=match dst with|some d=>tmps.setIfInBounds d v|none=>tmps
theorem vy{ops:Array Oper}{i:Nat}{rest:List Nat}{o:Oper}(ag:ops[i]?=some o)(v:Value):(bt fr tmps ds (.inRegion ops (i::rest)::k)).finish v=bt fr (qx tmps o.dst v) ds (.inRegion ops rest::k):=by
 simp only[Frame.finish,bt,ag,Ls,qx];cases o.dst<;>rfl
theorem adG{ops:Array Oper}{i:Nat}{rest:List Nat}{o:Oper}(ag:ops[i]?=some o)(hw:Region.wanted o (yielded ops tmps)=false):
 step P (lone (bt fr tmps ds (.inRegion ops (i::rest)::k)) cs w)=.next (lone (bt fr (qx tmps o.dst undef) ds (.inRegion ops rest::k)) cs w):=by
 rw[<-vy ag];exact step_lone_go (by simp[stepG,stepG.exec,bt,ag,hw])
theorem wF{ops:Array Oper}{i:Nat}{rest:List Nat}{o:Oper}(ag:ops[i]?=some o)(hw:Region.wanted o (yielded ops tmps)=true)(dz:fr.roundOf=none\/∀c,o.op≠.defer c):
 stepG P true {frame:=bt fr tmps ds (.inRegion ops (i::rest)::k),callers:=cs,status:=.running,dying:=none} w=
  stepG.apply P true (bt fr tmps ds (.inRegion ops (i::rest)::k)) cs none (execOp (cQ tmps) o) w:=by
 have he:=C0 (fr:=fr) (tmps:=tmps) (ds:=ds) (.inRegion ops (i::rest)::k);simp only[bt] at he;simp only[stepG,stepG.exec,stepG.oper,Frame.oper?,bt,ag,hw,he,Cr,Lt,DW];rcases dz with h|h
 ·rw[h]
 ·cases al:fr.roundOf with
  |none=>rfl
  |some l=>
   cases dC:o.op with
   |defer c=>exact absurd dC (h c)
   |_=>rfl
theorem JX{ops:Array Oper}{i:Nat}{rest:List Nat}{o:Oper}{v:Value}{a7:World}(ag:ops[i]?=some o)(hw:Region.wanted o (yielded ops tmps)=true)(dz:fr.roundOf=none\/∀c,o.op≠.defer c)
 (al:(execOp (cQ tmps) o).run P w=.ok (.value v) a7):
 step P (lone (bt fr tmps ds (.inRegion ops (i::rest)::k)) cs w)=.next (lone (bt fr (qx tmps o.dst v) ds (.inRegion ops rest::k)) cs a7):=by
 rw[<-vy ag];exact step_lone_go (by rw[wF ag hw dz];simp[stepG.apply,al])
theorem adF{ops:Array Oper}{i:Nat}{rest:List Nat}{o:Oper}{a7:World}(ag:ops[i]?=some o)(hw:Region.wanted o (yielded ops tmps)=true)(dz:fr.roundOf=none\/∀c,o.op≠.defer c)
 (al:(execOp (cQ tmps) o).run P w=.ok .skip a7):
 step P (lone (bt fr tmps ds (.inRegion ops (i::rest)::k)) cs w)=.next (lone (bt fr (qx tmps o.dst undef) ds (.inRegion ops rest::k)) cs a7):=by
 rw[<-vy ag];exact step_lone_go (by rw[wF ag hw dz];simp[stepG.apply,al])
theorem adw{ops:Array Oper}{i:Nat}{rest:List Nat}{o:Oper}{v:Value}{a7:World}(ag:ops[i]?=some o)(hw:Region.wanted o (yielded ops tmps)=true)(dz:fr.roundOf=none\/∀c,o.op≠.defer c)
 (al:(execOp (cQ tmps) o).run P w=.halt (.panic v) a7):
 step P (lone (bt fr tmps ds (.inRegion ops (i::rest)::k)) cs w)=.next (lone {bt fr tmps ds (.inRegion ops (i::rest)::k) with mode:=.panicking [{v,recovered:=false}]} cs a7):=
 step_lone_go (by rw[wF ag hw dz];simp[stepG.apply,al,Frame.raise,bt])
theorem adm{ops:Array Oper}{i:Nat}{rest:List Nat}{o:Oper}{d:Deferred}{a7:World}(ag:ops[i]?=some o)(hw:Region.wanted o (yielded ops tmps)=true)(dz:fr.roundOf=none)
 (al:(execOp (cQ tmps) o).run P w=.ok (.defer d) a7):
 step P (lone (bt fr tmps ds (.inRegion ops (i::rest)::k)) cs w)=.next (lone (bt fr (qx tmps o.dst undef) (d::ds) (.inRegion ops rest::k)) cs a7):=by
 have az:({bt fr tmps ds (.inRegion ops (i::rest)::k) with defers:=d::ds}:Frame).finish undef=bt fr (qx tmps o.dst undef) (d::ds) (.inRegion ops rest::k):=
  vy (fr:=fr) (tmps:=tmps) (ds:=d::ds) (k:=k) (rest:=rest) ag undef
 refine step_lone_go ?_;rw[wF ag hw (.inl dz)];simp only[stepG.apply,Sem.runT_eq,al,GStep.bare_after,DW];exact aj (fun f=>GStep.go {frame:=f,callers:=cs,status:=.running,dying:=none} a7) az
theorem Q'{ops:Array Oper}{i:Nat}{rest:List Nat}{o:Oper}{f:FuncId}{args:Array Value}{a7:World}(ag:ops[i]?=some o)(hw:Region.wanted o (yielded ops tmps)=true)(dz:fr.roundOf=none\/∀c,o.op≠.defer c)
 (al:(execOp (cQ tmps) o).run P w=.ok (.enter f args) a7):
 step P (lone (bt fr tmps ds (.inRegion ops (i::rest)::k)) cs w)=.next (lone (Frame.enter P f args .normal) (bt fr tmps ds (.inRegion ops (i::rest)::k)::cs) a7):=
 step_lone_go (by rw[wF ag hw dz];simp[stepG.apply,al,bt])
theorem adC{ops:Array Oper}{i:Nat}{rest:List Nat}{o:Oper}{l:Nat}{f:FuncId}{m8:Array Value}{a b:Code}{a7:World}(ag:ops[i]?=some o)(hw:Region.wanted o (yielded ops tmps)=true)(dz:fr.roundOf=none\/∀c,o.op≠.defer c)
 (al:(execOp (cQ tmps) o).run P w=.ok (.round l f m8 a b) a7):
 step P (lone (bt fr tmps ds (.inRegion ops (i::rest)::k)) cs w)=.next (lone (Frame.round l f m8 a b .normal) (bt fr tmps ds (.inRegion ops (i::rest)::k)::cs) a7):=
 step_lone_go (by rw[wF ag hw dz];simp[stepG.apply,al])
end
end
end Go.Cre
