/- A part of the proof of TableMetric. -/
import Derived.Test.YtmmfodofkbmfnaaGreatDoorCaj
import Derived.Laws.Build
import Derived.Defers
import Derived.Recover
set_option linter.unusedVariables false
set_option linter.unusedSimpArgs false
namespace Go.Cre
noncomputable section
open Go.RowKit
section
variable {P:Program}{B:Nat->Prop}{w0 w:World}{μ:bm}{H H':ah}{n:Nat}{tmps:Array Value}
variable {call:dI}{az:ff}{o:Oper}{S:aO}
theorem qj(h:bz P B w0 μ H w){s:Sem Next}{v v':Value}{r:b9}(ap:some (b9.val v H)=some r)(e4:s.run P w=.ok (.value v') w)(aD:a3 μ v v'):kg P B w0 call az μ H w s r:=by
 injection ap with ap;subst ap
 exact .inl ⟨v',w,μ,e4,h,Step.refl _ _,aD⟩
theorem Rn{t:TypeId}{a bA b b':Value}{r:Bool}{x y:Operand}(aK:a3 μ a bA)(af:a3 μ b b')(he:qy P t a b=some r)(w:World):
 (∀op,(eqGuard op t x y bA b').run P w=.ok () w)/\(binOp .eql t bA b').run P w=.ok (.bool r) w/\(binOp .neq t bA b').run P w=.ok (.bool (!r)) w:=by
 have tU:(Op.equal t bA b').run P w=.ok r w:=RA aK af he 9999 w;unfold qy at he;cases hu:P.underlying t with
 |none=>rw[hu] at he;simp at he
 |some d=>
  rw[hu] at he
  have fin:(∀op,(eqGuard op t x y bA b').run P w=.ok () w)->(binOp .eql t bA b'=(do pure (.bool (<-Op.equal t bA b'))))->(binOp .neq t bA b'=(do pure (.bool (!(<-Op.equal t bA b')))))->
   (∀op,(eqGuard op t x y bA b').run P w=.ok () w)/\(binOp .eql t bA b').run P w=.ok (.bool r) w/\(binOp .neq t bA b').run P w=.ok (.bool (!r)) w:=fun g aA aW=>by
   rw[aA,aW];exact⟨g,by simp[tU],by simp[tU]⟩
  cases a with
  |pointer p=>
   have ay:∃fI,bA=.pointer fI:=by
    cases p with
    |none=>exact⟨_,aK.wU⟩
    |some p=>obtain⟨_,_,_,_,_,q⟩:=aK.kS;exact⟨_,q⟩
   obtain⟨fI,rfl⟩:=ay;cases b with
   |pointer q=>
    have ay:∃cR,b'=.pointer cR:=by
     cases q with
     |none=>exact⟨_,af.wU⟩
     |some q=>obtain⟨_,_,_,_,_,q⟩:=af.kS;exact⟨_,q⟩
    obtain⟨cR,rfl⟩:=ay;exact fin (fun op=>by cases op<;>simp[eqGuard]) rfl rfl
   |_=>cases d<;>cases p<;>cases he
  |slice p l c=>
   have ay:∃fI l' bo,bA=.slice fI l' bo:=by
    cases p with
    |none=>exact⟨_,_,_,aK.nM⟩
    |some p=>obtain⟨_,_,q⟩:=aK.sR;exact⟨_,_,_,q⟩
   obtain⟨fI,l',bo,rfl⟩:=ay;cases b with
   |slice q ei b8=>
    have ay:∃fI l' bo,b'=.slice fI l' bo:=by
     cases q with
     |none=>exact⟨_,_,_,af.nM⟩
     |some p=>obtain⟨_,_,q⟩:=af.sR;exact⟨_,_,_,q⟩
    obtain⟨acA,B2,aa3,rfl⟩:=ay;exact fin (fun op=>by cases op<;>simp[eqGuard]) rfl rfl
   |_=>cases d<;>cases p<;>cases he
  |map p=>
   have ay:∃fI,bA=.map fI:=by
    cases p with
    |none=>exact⟨_,aK.zr⟩
    |some p=>obtain⟨_,_,q⟩:=aK.zq;exact⟨_,q⟩
   obtain⟨fI,rfl⟩:=ay;cases b with
   |map q=>
    have ay:∃fI,b'=.map fI:=by
     cases q with
     |none=>exact⟨_,af.zr⟩
     |some p=>obtain⟨_,_,q⟩:=af.zq;exact⟨_,q⟩
    obtain⟨cR,rfl⟩:=ay;exact fin (fun op=>by cases op<;>simp[eqGuard]) rfl rfl
   |_=>cases d<;>cases p<;>cases he
  |nilFunc=>
   obtain rfl:=aK.Cf;cases b with
   |func fn u v=>
    have ay:∃f u v,b'=.func f u v:=by
     rcases af.vH with⟨_,_,q,_⟩|⟨_,_,_,_,_,_,q⟩
     ·exact⟨_,_,_,q⟩
     ·exact⟨_,_,_,q⟩
    obtain⟨_,_,_,rfl⟩:=ay;exact fin (fun op=>by cases op<;>simp[eqGuard]) rfl rfl
   |_=>cases d<;>cases he
  |func fn u v=>
   have ay:∃f u v,bA=.func f u v:=by
    rcases aK.vH with⟨_,_,q,_⟩|⟨_,_,_,_,_,_,q⟩
    ·exact⟨_,_,_,q⟩
    ·exact⟨_,_,_,q⟩
   obtain⟨_,_,_,rfl⟩:=ay;cases b with
   |nilFunc=>
    obtain rfl:=af.Cf;exact fin (fun op=>by cases op<;>simp[eqGuard]) rfl rfl
   |_=>cases d<;>cases he
  |nilIface=>
   obtain rfl:=aK.zx;cases b with
   |iface oU v=>
    obtain⟨_,rfl,_⟩:=af.qV;exact fin (fun op=>by cases op<;>simp[eqGuard]) rfl rfl
   |_=>cases d<;>cases he
  |iface oU v=>
   obtain⟨_,rfl,_⟩:=aK.qV;cases b with
   |nilIface=>
    obtain rfl:=af.zx;exact fin (fun op=>by cases op<;>simp[eqGuard]) rfl rfl
   |_=>cases d<;>cases he
  |_=>cases d<;>cases he
theorem RI(h:bz P B w0 μ H w)(aG:hI μ S.T n tmps){r:b9}(he:cc P call az S H o=some r):kg P B w0 call az μ H w (execOp (cB tmps) o) r:=by
 have dd:∀x v,aR S.T H x=some v->a3 μ v (cB tmps x):=fun x v q=>oM h aG q;unfold cc eh at he;simp only at he;cases ae:o.op with
 |move x=>
  rw[ae] at he;have he:e' (aR S.T H x) H=some r:=he;have:=lj (call:=call) (az:=az) (s:=pure (cB tmps x)) h (fun v q=>⟨_,rfl,dd x v q⟩) he;simpa[execOp,ae] using this
 |assign x=>
  rw[ae] at he;have he:e' (aR S.T H x) H=some r:=he;have:=lj (call:=call) (az:=az) (s:=pure (cB tmps x)) h (fun v q=>⟨_,rfl,dd x v q⟩) he;simpa[execOp,ae] using this
 |load t a=>
  rw[ae] at he;have he:uD P ⟨call,az,S,H,o⟩ t (aR S.T H a)=some r:=he;cases aK:aR S.T H a with
  |none=>rw[aK] at he;cases he
  |some p=>
   rw[aK] at he;have:=lj (call:=call) (az:=az) h (fun v q=>RG h (dd a p aK) q) he;simpa[execOp,ae] using this
 |pick c a b=>
  rw[ae] at he;have he:sJ P ⟨call,az,S,H,o⟩ a b (aR S.T H c)=some r:=he;cases aF:aR S.T H c with
  |none=>rw[aF] at he;cases he
  |some gb=>
   rw[aF] at he;have EP:=dd c gb aF;cases gb with
   |bool k2=>
    have Ki:=EP.xO;cases k2 with
    |true=>
     have he:e' (aR S.T H a) H=some r:=he;have:=lj (call:=call) (az:=az) (s:=pure (cB tmps a)) h (fun v q=>⟨_,rfl,dd a v q⟩) he;simpa[execOp,ae,Ki,asBool] using this
    |false=>
     have he:e' (aR S.T H b) H=some r:=he;have:=lj (call:=call) (az:=az) (s:=pure (cB tmps b)) h (fun v q=>⟨_,rfl,dd b v q⟩) he;simpa[execOp,ae,Ki,asBool] using this
   |_=>cases he
 |alloc elem=>
  rw[ae] at he;have he:Gy P ⟨call,az,S,H,o⟩ elem (fw P elem)=some r:=he;cases a0:fw P elem with
  |none=>rw[a0] at he;cases he
  |some z=>
   rw[a0] at he;have he:(bif plain z then jT (qx H elem z) else none)=some r:=he;cases ao:plain z with
   |false=>rw[ao] at he;cases he
   |true=>
    rw[ao,bH] at he;have:=q9 (call:=call) (az:=az) (s:=Instr.alloc elem true (.tuple #[])) (fun v H' q=>by
     obtain⟨bP,bS,cE,c4,cO,ey,gE⟩:=Jp h (ll ao) q;refine⟨bP,bS,cE,?_,cO,ey,gE⟩;simpa[Instr.alloc,Instr.box,p4 a0] using c4) he
    simpa[execOp,ae] using this
 |box elem x=>
  rw[ae] at he;have he:zH P ⟨call,az,S,H,o⟩ elem (aR S.T H x)=some r:=he;cases j:aR S.T H x with
  |none=>rw[j] at he;cases he
  |some v=>
   rw[j] at he;have:=q9 (call:=call) (az:=az) (fun v H' q=>Jp h (dd x _ j) q) he;simpa[execOp,ae] using this
 |build t parts=>
  rw[ae] at he;have he:uA P ⟨call,az,S,H,o⟩ t (iw S.T H parts.toList)=some r:=he;cases ao:iw S.T H parts.toList with
  |none=>rw[ao] at he;cases he
  |some ps=>
   rw[ao] at he;have Fk:=Mw h aG ao;have:=lj (call:=call) (az:=az) h (fun v q=>Rt Fk q w) he;have aA:(parts.toList.map fun(i,x)=>(i,cB tmps x)).toArray=parts.map fun(i,x)=>(i,cB tmps x):=by apply mZ;simp
   rw[aA] at this;simpa[execOp,ae] using this
 |buildSlice t len parts=>
  rw[ae] at he;have he:zI P ⟨call,az,S,H,o⟩ t len (iw S.T H parts.toList)=some r:=he;cases ao:iw S.T H parts.toList with
  |none=>rw[ao] at he;cases he
  |some ps=>
   rw[ao] at he;have Fk:=Mw h aG ao;have:=q9 (call:=call) (az:=az) (fun v H' q=>Rs h Fk q) he;have aA:(parts.toList.map fun(i,x)=>(i,cB tmps x)).toArray=parts.map fun(i,x)=>(i,cB tmps x):=by apply mZ;simp
   rw[aA] at this;simpa[execOp,ae] using this
 |store t a x=>
  rw[ae] at he;have he:wO P ⟨call,az,S,H,o⟩ t (aR S.T H a) (aR S.T H x)=some r:=he;cases aK:aR S.T H a with
  |none=>rw[aK] at he;cases he
  |some p=>
   cases j:aR S.T H x with
   |none=>rw[aK,j] at he;cases he
   |some v=>
    rw[aK,j] at he;have:=W7 (call:=call) (az:=az) (fun H' q=>RO h (dd a p aK) (dd x v j) q) he;simpa[execOp,ae] using this
 |nilCheck x=>
  rw[ae] at he;have he:uG P ⟨call,az,S,H,o⟩ (aR S.T H x)=some r:=he;cases j:aR S.T H x with
  |none=>rw[j] at he;cases he
  |some v=>
   rw[j] at he;have ap:=dd x v j;cases v with
   |pointer a=>
    cases a with
    |none=>cases he
    |some a=>
     obtain⟨id,off,L,rfl,bD,aD⟩:=ap.kS;exact qj h he (v':=cB tmps x) (by simp[execOp,ae,aD]) ap
   |func fn a b=>
    cases fn with
    |func f=>
     rcases ap.vH with⟨bA,b',aD,_⟩|⟨l,L,q,_⟩
     ·exact qj h he (v':=cB tmps x) (by simp[execOp,ae,aD]) ap
     ·cases q
    |_=>cases he
   |iface t v=>
    obtain⟨dh,aD,_⟩:=ap.qV;exact qj h he (v':=cB tmps x) (by simp[execOp,ae,aD]) ap
   |_=>cases he
 |unOp op t x=>
  rw[ae] at he;exact yd h aG (fun cs b q=>by rw[ae] at q;cases q) he
 |makeInterface t x=>
  rw[ae] at he;have he:uF P ⟨call,az,S,H,o⟩ t (aR S.T H x) (P.underlying t)=some r:=he;cases j:aR S.T H x with
  |none=>rw[j] at he;cases P.underlying t<;>cases he
  |some v=>
   cases hu:P.underlying t with
   |none=>rw[j,hu] at he;cases he
   |some d=>
    rw[j,hu] at he;have Kh:P.concrete t=true/\some (b9.val (.iface t v) H)=some r:=by
     cases d<;>first|(cases he;done)|exact⟨by simp[Program.concrete,hu],he⟩
    exact qj h Kh.2 (by simp[execOp,ae,run_makeInterface w t _ Kh.1]) (.iface t v _ (dd x v j))
 |makeFunc fn first captured=>
  rw[ae] at he;have he:uE P ⟨call,az,S,H,o⟩ fn (ev S.T H first.toList) (ev S.T H captured.toList)=some r:=he;cases U:ev S.T H first.toList with
  |none=>rw[U] at he;cases he
  |some a=>
   cases ab:ev S.T H captured.toList with
   |none=>rw[U,ab] at he;cases he
   |some b=>
    rw[U,ab] at he;have eJ:=zL h aG U;have ei:=zL h aG ab;have pA:q4 fn=true/\some (b9.val (.func fn a.toArray b.toArray) H)=some r:=by
     cases fn<;>first|(cases he;done)|exact⟨rfl,he⟩
    refine qj h pA.2 (v':=.func fn (first.map (cB tmps)) (captured.map (cB tmps))) (by simp[execOp,ae,Instr.makeFunc]) ?_;exact .func _ _ _ _ _ pA.1 (by simpa using eJ.1) (by simpa using ei.1) (fun i v v' q cR=>eJ.2 i v v' (by simpa using q) (by simpa using cR)) (fun i v v' q cR=>ei.2 i v v' (by simpa using q) (by simpa using cR))
 |makeMap t rs=>rw[ae] at he;cases he
 |makeSlice t l c=>
  rw[ae] at he;have he:zJ P ⟨call,az,S,H,o⟩ t (aR S.T H l) (aR S.T H c)=some r:=he;cases U:aR S.T H l with
  |none=>rw[U] at he;cases he
  |some LI=>
   cases ab:aR S.T H c with
   |none=>rw[U,ab] at he;cases he
   |some gb=>
    rw[U,ab] at he;have:=q9 (call:=call) (az:=az) (fun v H' q=>RH h (dd l LI U) (dd c gb ab) q) he;simpa[execOp,ae] using this
 |slice t x fR aq zt=>
  rw[ae] at he;cases zt with
  |some m=>cases he
  |none=>
   have he:kv P ⟨call,az,S,H,o⟩ t (aR S.T H x) (gA S.T H fR) (gA S.T H aq)=some r:=he;cases U:aR S.T H x with
   |none=>rw[U] at he;cases he
   |some uZ=>
    cases ab:gA S.T H fR with
    |none=>rw[U,ab] at he;cases he
    |some LH=>
     cases aV:gA S.T H aq with
     |none=>rw[U,ab,aV] at he;cases he
     |some vZ=>
      rw[U,ab,aV] at he;have he:orElse (e' (iI P H t uZ LH vZ) H) (ek P S.T H o)=some r:=he;cases aD:e' (iI P H t uZ LH vZ) H with
      |none=>rw[aD] at he;exact yd h aG (fun cs b q=>by rw[ae] at q;cases q) he
      |some cA=>
       rw[aD] at he;have he:some cA=some r:=he;injection he with he;subst he
       have:=lj (call:=call) (az:=az) h (fun v q=>RN h (dd x uZ U) (Mq h aG ab) (Mq h aG aV) q) aD;simpa[execOp,ae] using this
 |fieldAddr s x f=>
  rw[ae] at he;have he:uC P ⟨call,az,S,H,o⟩ s f (aR S.T H x)=some r:=he;cases j:aR S.T H x with
  |none=>rw[j] at he;cases he
  |some p=>
   rw[j] at he;have:=lj (call:=call) (az:=az) h (fun v q=>RC (dd x p j) q w) he;simpa[execOp,ae] using this
 |indexAddr t x bw=>
  rw[ae] at he;have he:q8 P ⟨call,az,S,H,o⟩ t (aR S.T H x) (aR S.T H bw)=some r:=he;cases U:aR S.T H x with
  |none=>rw[U] at he;cases he
  |some uZ=>
   cases ab:aR S.T H bw with
   |none=>rw[U,ab] at he;cases he
   |some zg=>
    rw[U,ab] at he;have:=lj (call:=call) (az:=az) h (fun v q=>RD (dd x uZ U) (dd bw zg ab) q w) he;simpa[execOp,ae] using this
 |lookup t x k ok=>rw[ae] at he;cases he
 |mapUpdate t m k x=>rw[ae] at he;cases he
 |insert t m k x=>rw[ae] at he;cases he
 |typeAssert x xt asserted ok=>
  rw[ae] at he;have he:wP P ⟨call,az,S,H,o⟩ asserted ok (aR S.T H x)=some r:=he;cases j:aR S.T H x with
  |none=>rw[j] at he;cases he
  |some v=>
   rw[j] at he;have:=lj (call:=call) (az:=az) h (fun u q=>RV (xt:=xt) (dd x v j) q w) he;simpa[execOp,ae] using this
 |extract t bw=>
  rw[ae] at he;have he:uB P ⟨call,az,S,H,o⟩ bw (aR S.T H t)=some r:=he;cases j:aR S.T H t with
  |none=>rw[j] at he;cases he
  |some v=>
   rw[j] at he;cases v with
   |tuple vs=>
    obtain⟨bA,aD,aw⟩:=(dd t _ j).Zn;have he:e' (nth vs.toList bw) H=some r:=he;have:=lj (call:=call) (az:=az) (s:=Instr.extract (cB tmps t) bw) h (fun v q=>by
     rw[jr] at q;obtain⟨v',aQ,aP⟩:=aw.get q;refine⟨v',?_,aP⟩;have aQ:bA[bw]?=some v':=by simpa using aQ
     simp[Instr.extract,aD,aQ]) he
    simpa[execOp,ae] using this
   |_=>cases he
 |panic x=>
  rw[ae] at he;have he:Co P ⟨call,az,S,H,o⟩ (aR S.T H x)=some r:=he;cases j:aR S.T H x with
  |none=>rw[j] at he;cases he
  |some v=>
   rw[j] at he;cases v with
   |iface t v=>
    obtain⟨dh,aD,ap⟩:=(dd x _ j).qV;have he:some (b9.hj [{v:=.iface t v,recovered:=false}] H)=some r:=he;injection he with he;subst he
    refine .inl ⟨.iface t v,.iface t dh,rfl,rfl,?_,.iface t v dh ap⟩;simp[execOp,ae,aD,Instr.panic,goPanic,Sem.run]
   |_=>cases he
 |call c=>
  rw[ae] at he;have he:js P ⟨call,az,S,H,o⟩ c=some r:=he;unfold js at he;cases jG:c.callee with
  |builtin b=>
   rw[jG] at he;exact Ru h aG ae jG he
  |value f=>
   rw[jG] at he;exact Jq h aG ae (fun b q=>by rw[jG] at q;cases q) he
  |invoke MQ zy=>
   rw[jG] at he;exact Jq h aG ae (fun b q=>by rw[jG] at q;cases q) he
 |defer c=>
  rw[ae] at he;have he:pS P ⟨call,az,S,H,o⟩ c=some r:=he;unfold pS at he;cases ap:S.b3 with
  |some l=>simp only[ap] at he;cases he
  |none=>simp only[ap] at he;exact Ry h aG ae he
 |field t x f=>
  rw[ae] at he;have he:sH P ⟨call,az,S,H,o⟩ f (aR S.T H x) (P.underlying t)=some r:=he;cases j:aR S.T H x with
  |none=>rw[j] at he;cases he
  |some v=>
   rw[j] at he;cases v with
   |agg cs=>
    obtain⟨bA,aD,aw⟩:=(dd x _ j).Iy;cases hu:P.underlying t with
    |none=>rw[hu] at he;cases he
    |some d=>
     rw[hu] at he;cases d with
     |struct fields=>
      have he:(match fields[f]? with|some f=>e' (jj P f.type cs.toList f.offset) H|none=>none)=some r:=he
      cases ay:fields[f]? with
      |none=>rw[ay] at he;cases he
      |some fd=>
       rw[ay] at he;have:=lj (call:=call) (az:=az) (s:=Instr.field t (cB tmps x) f) h (fun v q=>by
        obtain⟨v',aQ,aP⟩:=Jv aw q w;refine⟨v',?_,aP⟩;have aQ:(part fd.type bA fd.offset).run P w=.ok v' w:=by simpa using aQ
        simp[Instr.field,dH hu,ay,aD,asAgg,aQ]) he
       simpa[execOp,ae] using this
     |_=>cases he
   |_=>cases he
 |index t x bw=>
  rw[ae] at he;have he:sI P ⟨call,az,S,H,o⟩ (aR S.T H x) (aR S.T H bw) (P.underlying t)=some r:=he;cases j:aR S.T H x with
  |none=>rw[j] at he;cases he
  |some v=>
   cases aq:aR S.T H bw with
   |none=>rw[j,aq] at he;cases v<;>cases he
   |some zg=>
    rw[j,aq] at he;have pB:=dd x v j;have Kt:=dd bw zg aq;cases v with
    |agg cs=>
     obtain⟨bA,aD,aw⟩:=pB.Iy;cases zg with
     |int k i=>
      have vZ:=Kt.lZ;cases hu:P.underlying t with
      |none=>rw[hu] at he;cases he
      |some d=>
       rw[hu] at he;cases d with
       |array len elem=>
        have kn:(match oA i len,dD P elem with|some n,some sz=>e' (jj P elem cs.toList (n*sz)) H|_,_=>none)=some r:=he
        cases aE:oA i len with
        |none=>rw[aE] at kn;cases kn
        |some m=>
         rw[aE] at kn;cases ag:dD P elem with
         |none=>rw[ag] at kn;cases kn
         |some sz=>
          rw[ag] at kn;obtain⟨rfl,cx⟩:=FT aE;have:=lj (call:=call) (az:=az) (s:=Instr.index t (cB tmps x) (cB tmps bw)) h (fun v q=>by
           obtain⟨v',aQ,aP⟩:=Jv aw q w;refine⟨v',?_,aP⟩;have aQ:(part elem bA (m*sz)).run P w=.ok v' w:=by simpa using aQ
           simp[Instr.index,vZ,asIntOf,dH hu,aD,cx,h3 ag,aQ]) kn
          simpa[execOp,ae] using this
       |_=>cases he
     |_=>cases he
    |string s=>
     have aD:=pB.zT;cases zg with
     |int k i=>
      have vZ:=Kt.lZ;cases hu:P.underlying t with
      |none=>rw[hu] at he;cases he
      |some d=>
       rw[hu] at he;cases d with
       |string=>
        cases i with
        |negSucc m=>cases he
        |ofNat m=>
         have he:(match nth s.data.toList m with|some b=>mv (.ofNat b.toNat) (ln H .u8)|none=>none)=some r:=he
         cases af:nth s.data.toList m with
         |none=>rw[af] at he;cases he
         |some b=>
          rw[af] at he;have he:mv (.ofNat b.toNat) (ln H .u8)=some r:=he;rw[n'] at he;have FB:s[m]?=some b:=by
           rw[jr] at af;have cx:m<s.size:=by have:=(h4.1 af).1;simpa using this
           rw[getElem?_pos s m cx];have ab:s.data[m]?=some b:=by simpa using af
           rw[u2 cx] at ab;injection ab with ab;rw[<-ab];rfl
          refine qj h he (v':=.int .u8 b.toNat) ?_ (.atom _ rfl);simp[execOp,ae,Instr.index,vZ,asIntOf,dH hu,aD,FB]
       |_=>cases he
     |_=>cases he
    |_=>cases he
 |convert src dst x=>
  rw[ae] at he;have dO:ek P S.T H o=some r->kg P B w0 call az μ H w (execOp (cB tmps) o) r:=yd h aG (fun cs b q=>by rw[ae] at q;cases q);have he:q7 P ⟨call,az,S,H,o⟩ src dst (aR S.T H x)=some r:=he;cases j:aR S.T H x with
  |none=>rw[j] at he;cases he
  |some v=>
   rw[j] at he;have pB:=dd x v j;cases v with
   |string s=>
    have he:orElse (jT (qA P H src dst s)) (ek P S.T H o)=some r:=he;cases aD:qA P H src dst s with
    |none=>rw[aD] at he;exact dO he
    |some p=>
     have he:jT (qA P H src dst s)=some r:=by rw[aD] at he ⊢;obtain⟨a,b⟩:=p;exact he
     have:=q9 (call:=call) (az:=az) (fun v H' q=>RR h q) he;simpa[execOp,ae,pB.zT] using this
   |pointer a=>
    cases a with
    |none=>exact dO he
    |some a=>
     have:=lj (call:=call) (az:=az) h (fun v q=>Rw h pB q) he;simpa[execOp,ae] using this
   |slice a l c=>
    have:=lj (call:=call) (az:=az) h (fun v q=>RU h pB (RS q)) he;simpa[execOp,ae] using this
   |int k i=>
    have he:(match P.underlying src,P.underlying dst with|some _,some (.int k)=>mv (sY k i) (ln H k)|_,_=>ek P S.T H o)=some r:=he
    cases ag:P.underlying src with
    |none=>rw[ag] at he;exact dO he
    |some ds=>
    cases ax:P.underlying dst with
    |none=>rw[ag,ax] at he;exact dO he
    |some d=>
     rw[ag,ax] at he;cases d with
     |int ir=>
      have he:mv (sY ir i) (ln H ir)=some r:=he;rw[n',xg] at he;refine qj h he (v':=.int ir (ir.wrap i)) ?_ (.atom _ rfl);simp[execOp,ae,pB.lZ,convert,dH ag,dH ax,Conv.intToInt]
     |_=>exact dO he
   |_=>exact dO he
 |binOp op t x y CX=>
  rw[ae] at he;have dO:ek P S.T H o=some r->kg P B w0 call az μ H w (execOp (cB tmps) o) r:=yd h aG (fun cs b q=>by rw[ae] at q;cases q);have he:ja P ⟨call,az,S,H,o⟩ op t (aR S.T H x) (aR S.T H y)=some r:=he;cases j:aR S.T H x with
  |none=>rw[j] at he;cases he
  |some a=>
   cases aC:aR S.T H y with
   |none=>rw[j,aC] at he;cases a<;>cases he
   |some b=>
    rw[j,aC] at he;have pB:=dd x a j;have Lc:=dd y b aC;have sS:oL P ⟨call,az,S,H,o⟩ op t a b=some r->kg P B w0 call az μ H w (execOp (cB tmps) o) r:=by
     intro he;have he:orElse (ek P S.T H o) (pR P ⟨call,az,S,H,o⟩ t a b op)=some r:=he;cases ao:ek P S.T H o with
     |some cA=>
      rw[ao] at he;have he:some cA=some r:=he;injection he with he;subst he
      exact dO ao
     |none=>
      rw[ao] at he;have he:pR P ⟨call,az,S,H,o⟩ t a b op=some r:=he;cases bY:qy P t a b with
      |none=>
       unfold pR at he;simp only[bY] at he;cases op<;>cases he
      |some MP=>
       obtain⟨aA,aW,cr⟩:=Rn (x:=x) (y:=y) pB Lc bY w;unfold pR at he;simp only[bY] at he;cases op with
       |eql=>exact qj h he (v':=.bool MP) (by simp[execOp,ae,aA .eql,aW]) (.atom _ rfl)
       |neq=>exact qj h he (v':=.bool (!MP)) (by simp[execOp,ae,aA .neq,cr]) (.atom _ rfl)
       |_=>cases he
    cases a with
    |int k i=>
     cases b with
     |int l aa=>
      have kn:(bif kr k l then h1 H k i aa (ek P S.T H o) op else oL P ⟨call,az,S,H,o⟩ op t (.int k i) (.int l aa))=some r:=he;cases hk:kr k l with
      |false=>rw[hk,cZ] at kn;exact sS kn
      |true=>
       rw[hk,bH] at kn;have:=Ln hk;subst this;exact U7 h pB.lZ Lc.lZ ⟨CX,ae⟩ dO kn
     |_=>exact sS he
    |_=>exact sS (by cases b<;>exact he)
 |ready g=>rw[ae] at he;cases he
 |waits g=>rw[ae] at he;cases he
 |sliceToArrayPointer d x=>rw[ae] at he;cases he
 |makeChan t s=>rw[ae] at he;cases he
 |mapEntry t m k=>rw[ae] at he;cases he
 |entryStore t m s x=>rw[ae] at he;cases he
 |range t x=>rw[ae] at he;cases he
 |next it b=>rw[ae] at he;cases he
 |entry it=>rw[ae] at he;cases he
 |go c=>rw[ae] at he;cases he
 |send a b=>rw[ae] at he;cases he
 |recv a b c=>rw[ae] at he;cases he
 |select a b=>rw[ae] at he;cases he
end
end
end Go.Cre
namespace Go.Cre
noncomputable section
open Go.RowKit
def bj(fr:Frame)(tmps:Array Value)(ds:List Deferred)(todo:List Item):Frame:={fr with tmps:=tmps,todo:=todo,defers:=ds,mode:=.run}
section
variable {P:Program}{fr:Frame}{tmps:Array Value}{ds:List Deferred}{k:List Item}{cs:List Frame}{w:World}
theorem Bd(todo:List Item):(bj fr tmps ds todo).eval=cB tmps:=by
 funext x;cases x<;>rfl
theorem YU:step P (lone (bj fr tmps ds (.code .skip::k)) cs w)=.next (lone (bj fr tmps ds k) cs w):=step_lone_go (by simp[stepG,stepG.exec,bj])
theorem YI{l:Nat}:step P (lone (bj fr tmps ds (.code (.label l)::k)) cs w)=.next (lone (bj fr tmps ds k) cs w):=step_lone_go (by simp[stepG,stepG.exec,bj])
theorem YG{id:Nat}:step P (lone (bj fr tmps ds (.inBlock id::k)) cs w)=.next (lone (bj fr tmps ds k) cs w):=step_lone_go (by simp[stepG,stepG.exec,bj])
theorem YH{c:Code}:step P (lone (bj fr tmps ds (.inScope c::k)) cs w)=.next (lone (bj fr tmps ds k) cs w):=step_lone_go (by simp[stepG,stepG.exec,bj])
theorem GZ{x y:Code}:step P (lone (bj fr tmps ds (.code (.seq x y)::k)) cs w)=.next (lone (bj fr tmps ds (.code x::.code y::k)) cs w):=step_lone_go (by simp[stepG,stepG.exec,bj])
theorem Nj{c:Operand}{x y:Code}{t:Bool}(h:cB tmps c=.bool t):step P (lone (bj fr tmps ds (.code (.cond c x y)::k)) cs w)=.next (lone (bj fr tmps ds (.code (if t then x else y)::k)) cs w):=
 step_lone_go (by
  have he:=congrFun (Bd (fr:=fr) (tmps:=tmps) (ds:=ds) (.code (.cond c x y)::k)) c;rw[h] at he;simp only[bj] at he;simp[stepG,stepG.exec,bj,he])
theorem YB{id:Nat}{c:Code}:step P (lone (bj fr tmps ds (.code (.block id c)::k)) cs w)=.next (lone (bj fr tmps ds (.code c::.inBlock id::k)) cs w):=step_lone_go (by simp[stepG,stepG.exec,bj])
theorem YT{c:Code}:step P (lone (bj fr tmps ds (.code (.scope c)::k)) cs w)=.next (lone (bj fr tmps ds (.code c::.inScope c::k)) cs w):=step_lone_go (by simp[stepG,stepG.exec,bj])
theorem Nm{c:Code}:step P (lone (bj fr tmps ds (.code (.loop c)::k)) cs w)=.next (lone (bj fr tmps ds (.code c::.inLoop c::k)) cs w):=step_lone_go (by simp[stepG,stepG.exec,bj])
theorem Nl{c:Code}:step P (lone (bj fr tmps ds (.inLoop c::k)) cs w)=.next (lone (bj fr tmps ds (.code c::.inLoop c::k)) cs w):=step_lone_go (by simp[stepG,stepG.exec,bj])
theorem YF{id:Nat}{ir:List Item}(h:exitTo id k=some ir):step P (lone (bj fr tmps ds (.code (.exit id)::k)) cs w)=.next (lone (bj fr tmps ds ir) cs w):=step_lone_go (by simp[stepG,stepG.exec,bj,h])
theorem Nn{id:Nat}{ops:Array Oper}:step P (lone (bj fr tmps ds (.code (.region id ops false)::k)) cs w)=.next (lone (bj fr tmps ds (.inRegion ops (List.range ops.size)::k)) cs w):=step_lone_go (by simp[stepG,stepG.exec,bj])
theorem GY{ops:Array Oper}:step P (lone (bj fr tmps ds (.inRegion ops []::k)) cs w)=.next (lone (bj fr tmps ds k) cs w):=step_lone_go (by simp[stepG,stepG.exec,bj])
theorem YD{id:Nat}{ops:Array Oper}:step P (lone (bj fr tmps ds (.code (.region id ops true)::k)) cs w)=
 .next (lone (bj fr tmps ds (.inRegion ops (Region.schedule (P.follows .mixedOrders) ops (w.tape w.drawn (.order fr.fn id)))::k)) cs {w with drawn:=w.drawn+1}):=
 step_lone_go (by simp[stepG,stepG.exec,bj,choose,Sem.run,Question.forced,Question.cut])
def oO(tmps:Array Value)(dst:Option Tmp)(v:Value):Array Value:=match dst with|some d=>tmps.setIfInBounds d v|none=>tmps
theorem tC{ops:Array Oper}{i:Nat}{rest:List Nat}{o:Oper}(ae:ops[i]?=some o)(v:Value):(bj fr tmps ds (.inRegion ops (i::rest)::k)).finish v=bj fr (oO tmps o.dst v) ds (.inRegion ops rest::k):=by
 simp only[Frame.finish,bj,ae,Ib,oO];cases o.dst<;>rfl
theorem YW{ops:Array Oper}{i:Nat}{rest:List Nat}{o:Oper}(ae:ops[i]?=some o)(hw:Region.wanted o (yielded ops tmps)=false):
 step P (lone (bj fr tmps ds (.inRegion ops (i::rest)::k)) cs w)=.next (lone (bj fr (oO tmps o.dst undef) ds (.inRegion ops rest::k)) cs w):=by
 rw[<-tC ae];exact step_lone_go (by simp[stepG,stepG.exec,bj,ae,hw])
theorem uP{ops:Array Oper}{i:Nat}{rest:List Nat}{o:Oper}(ae:ops[i]?=some o)(hw:Region.wanted o (yielded ops tmps)=true)(dk:fr.roundOf=none\/∀c,o.op≠.defer c):
 stepG P true {frame:=bj fr tmps ds (.inRegion ops (i::rest)::k),callers:=cs,status:=.running,dying:=none} w=
  stepG.apply P true (bj fr tmps ds (.inRegion ops (i::rest)::k)) cs none (execOp (cB tmps) o) w:=by
 have he:=Bd (fr:=fr) (tmps:=tmps) (ds:=ds) (.inRegion ops (i::rest)::k);simp only[bj] at he;simp only[stepG,stepG.exec,stepG.oper,Frame.oper?,bj,ae,hw,he,AF,Ic,BW];rcases dk with h|h
 ·rw[h]
 ·cases ap:fr.roundOf with
  |none=>rfl
  |some l=>
   cases dd:o.op with
   |defer c=>exact absurd dd (h c)
   |_=>rfl
theorem G0{ops:Array Oper}{i:Nat}{rest:List Nat}{o:Oper}{v:Value}{aZ:World}(ae:ops[i]?=some o)(hw:Region.wanted o (yielded ops tmps)=true)(dk:fr.roundOf=none\/∀c,o.op≠.defer c)
 (ap:(execOp (cB tmps) o).run P w=.ok (.value v) aZ):
 step P (lone (bj fr tmps ds (.inRegion ops (i::rest)::k)) cs w)=.next (lone (bj fr (oO tmps o.dst v) ds (.inRegion ops rest::k)) cs aZ):=by
 rw[<-tC ae];exact step_lone_go (by rw[uP ae hw dk];simp[stepG.apply,ap])
theorem YV{ops:Array Oper}{i:Nat}{rest:List Nat}{o:Oper}{aZ:World}(ae:ops[i]?=some o)(hw:Region.wanted o (yielded ops tmps)=true)(dk:fr.roundOf=none\/∀c,o.op≠.defer c)
 (ap:(execOp (cB tmps) o).run P w=.ok .skip aZ):
 step P (lone (bj fr tmps ds (.inRegion ops (i::rest)::k)) cs w)=.next (lone (bj fr (oO tmps o.dst undef) ds (.inRegion ops rest::k)) cs aZ):=by
 rw[<-tC ae];exact step_lone_go (by rw[uP ae hw dk];simp[stepG.apply,ap])
theorem YM{ops:Array Oper}{i:Nat}{rest:List Nat}{o:Oper}{v:Value}{aZ:World}(ae:ops[i]?=some o)(hw:Region.wanted o (yielded ops tmps)=true)(dk:fr.roundOf=none\/∀c,o.op≠.defer c)
 (ap:(execOp (cB tmps) o).run P w=.halt (.panic v) aZ):
 step P (lone (bj fr tmps ds (.inRegion ops (i::rest)::k)) cs w)=.next (lone {bj fr tmps ds (.inRegion ops (i::rest)::k) with mode:=.panicking [{v,recovered:=false}]} cs aZ):=
 step_lone_go (by rw[uP ae hw dk];simp[stepG.apply,ap,Frame.raise,bj])
theorem YC{ops:Array Oper}{i:Nat}{rest:List Nat}{o:Oper}{d:Deferred}{aZ:World}(ae:ops[i]?=some o)(hw:Region.wanted o (yielded ops tmps)=true)(dk:fr.roundOf=none)
 (ap:(execOp (cB tmps) o).run P w=.ok (.defer d) aZ):
 step P (lone (bj fr tmps ds (.inRegion ops (i::rest)::k)) cs w)=.next (lone (bj fr (oO tmps o.dst undef) (d::ds) (.inRegion ops rest::k)) cs aZ):=by
 have ay:({bj fr tmps ds (.inRegion ops (i::rest)::k) with defers:=d::ds}:Frame).finish undef=bj fr (oO tmps o.dst undef) (d::ds) (.inRegion ops rest::k):=
  tC (fr:=fr) (tmps:=tmps) (ds:=d::ds) (k:=k) (rest:=rest) ae undef
 refine step_lone_go ?_;rw[uP ae hw (.inl dk)];simp only[stepG.apply,Sem.runT_eq,ap,GStep.bare_after,BW];exact ak (fun f=>GStep.go {frame:=f,callers:=cs,status:=.running,dying:=none} aZ) ay
theorem Nk{ops:Array Oper}{i:Nat}{rest:List Nat}{o:Oper}{f:FuncId}{args:Array Value}{aZ:World}(ae:ops[i]?=some o)(hw:Region.wanted o (yielded ops tmps)=true)(dk:fr.roundOf=none\/∀c,o.op≠.defer c)
 (ap:(execOp (cB tmps) o).run P w=.ok (.enter f args) aZ):
 step P (lone (bj fr tmps ds (.inRegion ops (i::rest)::k)) cs w)=.next (lone (Frame.enter P f args .normal) (bj fr tmps ds (.inRegion ops (i::rest)::k)::cs) aZ):=
 step_lone_go (by rw[uP ae hw dk];simp[stepG.apply,ap,bj])
theorem YS{ops:Array Oper}{i:Nat}{rest:List Nat}{o:Oper}{l:Nat}{f:FuncId}{lr:Array Value}{a b:Code}{aZ:World}(ae:ops[i]?=some o)(hw:Region.wanted o (yielded ops tmps)=true)(dk:fr.roundOf=none\/∀c,o.op≠.defer c)
 (ap:(execOp (cB tmps) o).run P w=.ok (.round l f lr a b) aZ):
 step P (lone (bj fr tmps ds (.inRegion ops (i::rest)::k)) cs w)=.next (lone (Frame.round l f lr a b .normal) (bj fr tmps ds (.inRegion ops (i::rest)::k)::cs) aZ):=
 step_lone_go (by rw[uP ae hw dk];simp[stepG.apply,ap])
end
end
end Go.Cre
