/- A part of the proof of ResumeBack. -/
import Derived.Test.YtiemfjdacfioeaaGreatDoorCag
import Derived.Laws.BitsLemmas
set_option linter.unusedVariables false
set_option linter.unusedSimpArgs false
namespace Go.Cre
noncomputable section
open Go.RowKit
section
variable {P:Program}{B:Nat->Prop}{w0 w:World}{μ:b1}{H H':aB}{n:Nat}{tmps:Array Value}
variable {call:eH}{aR:gR}{o:Oper}{S:bi}
theorem tC{α:Type}(n:Int)(k:Int->α):q' n k=k n:=by
 cases n with
 |ofNat m=>cases m<;>rfl
 |negSucc m=>cases m<;>rfl
theorem Fg(k:IntKind)(n:Int):Ah k n=k.wrap n:=by
 unfold Ah;cases n with
 |ofNat m=>
  simp only
  cases au:Nat.blt m (um k) with
  |false=>rfl
  |true=>
   have au:m<um k:=h3 au;simp only[cb];cases k<;>simp only[um] at au<;>simp[IntKind.wrap,IntKind.bits,IntKind.signed]<;>omega
 |negSucc m=>
  simp only
  cases au:(k.signed&&Nat.blt m (um k)) with
  |false=>rfl
  |true=>
   simp only[fU] at au;have af:=au.1;have au:m<um k:=h3 au.2;simp only[cb];cases k with
   |i64=>simp only[um] at au;rw[IntKind.wrap_i64,Int.negSucc_eq];omega
   |i32=>simp only[um] at au;rw[IntKind.wrap_i32,Int.negSucc_eq];omega
   |i8=>simp[um] at au
   |i16=>simp[um] at au
   |_=>cases af
theorem Em(a b:Int):qs a b=decide (a<b):=by
 cases a with
 |ofNat a=>cases b with
  |ofNat b=>
   simp only[qs];have:Nat.blt a b=decide (a<b):=by
    by_cases h:a<b
    ·rw[yV h];exact lr h
    ·rw[Gi h];cases q:Nat.blt a b
     ·rfl
     ·exact absurd (h3 q) h
   rw[this];simp
  |negSucc b=>simp[qs];omega
 |negSucc a=>cases b with
  |ofNat b=>simp[qs];omega
  |negSucc b=>
   simp only[qs];by_cases h:b<a
   ·have:Nat.blt b a=true:=lr h;rw[this,eq_comm,Gj];omega
   ·have:Nat.blt b a=false:=by
     cases q:Nat.blt b a
     ·rfl
     ·exact absurd (h3 q) h
    rw[this,eq_comm,mm];omega
theorem El(a b:Int):qq a b=(a==b):=by
 rw[o8,beq_iff_eq];cases a with
 |ofNat a=>cases b with
  |ofNat b=>simp only[qq];constructor
            ·intro h;rw[eN h]
            ·intro h;injection h with h;rw[h];exact hA b
  |negSucc b=>simp[qq]
 |negSucc a=>cases b with
  |ofNat b=>simp[qq]
  |negSucc b=>simp only[qq];constructor
              ·intro h;rw[eN h]
              ·intro h;injection h with h;rw[h];exact hA b
theorem WZ{a b:IntKind}(h:uk a b=true):a=b:=by cases a<;>cases b<;>first|rfl|cases h
theorem zQ(H:aB)(b:Bool):x0 H b=some (.val (.bool b) H):=by cases b<;>rfl
theorem ajQ(h:ca P B w0 μ H w){k:IntKind}{a b:Int}{zZ:Option cM}{op:BinOp}{t:TypeId}{x y:Operand}{r:cM}(U:dA tmps x=.int k a)(ai:dA tmps y=.int k b)(ar:∃Me,o.op=.binOp op t x y Me)
 (Ed:zZ=some r->nT P B w0 call aR μ H w (execOp (dA tmps) o) r)(he:nd H k a b zZ op=some r):nT P B w0 call aR μ H w (execOp (dA tmps) o) r:=by
 obtain⟨Me,ar⟩:=ar;have aq:(eqGuard op t x y (.int k a) (.int k b)).run P w=.ok () w:=by cases op<;>simp[eqGuard]
 have fin:∀v,(binOp op t (.int k a) (.int k b)).run P w=.ok v w->isAtom v=true->some (cM.val v H)=some r->nT P B w0 call aR μ H w (execOp (dA tmps) o) r:=by
  intro v az a' ay;injection ay with ay;subst ay
  refine .inl ⟨v,w,μ,?_,h,Step.refl _ _,.atom _ a'⟩;simp[execOp,ar,U,ai,aq,az]
 cases op with
 |add=>simp only[nd,tC,Fg,pJ] at he;exact fin _ (by simp[binOp,Op.intArith]) rfl he
 |sub=>simp only[nd,tC,Fg,pJ] at he;exact fin _ (by simp[binOp,Op.intArith]) rfl he
 |mul=>simp only[nd,tC,Fg,pJ] at he;exact fin _ (by simp[binOp,Op.intArith]) rfl he
 |eql=>simp only[nd,zQ,El] at he;exact fin _ (by simp[binOp,Op.intCmp]) rfl he
 |neq=>simp only[nd,zQ,El] at he;exact fin _ (by simp[binOp,Op.intCmp,bne]) rfl he
 |lss=>simp only[nd,zQ,Em] at he;exact fin _ (by simp[binOp,Op.intCmp]) rfl he
 |leq=>simp only[nd,zQ,Em] at he;exact fin _ (by simp[binOp,Op.intCmp];rw[<-decide_not];exact decide_eq_decide.2 (by omega)) rfl he
 |gtr=>simp only[nd,zQ,Em] at he;exact fin _ (by simp[binOp,Op.intCmp]) rfl he
 |geq=>simp only[nd,zQ,Em] at he;exact fin _ (by simp[binOp,Op.intCmp];rw[<-decide_not];exact decide_eq_decide.2 (by omega)) rfl he
 |_=>exact Ed he
end
end
end Go.Cre
namespace Go.Cre
noncomputable section
open Go.RowKit
section
variable {P:Program}{B:Nat->Prop}{w0 w:World}{μ:b1}{H H':aB}{n:Nat}{tmps:Array Value}
variable {call:eH}{aR:gR}{o:Oper}{S:bi}
theorem bF.GI{fn:Fn}{a b:Array Value}{v:Value}(h:bF μ (.func fn a b) v):
 (∃bY b',v=.func fn bY b'/\xT fn=true/\b4 μ a.toList bY.toList/\b4 μ b.toList b'.toList)\/(∃l L,fn=.yield l/\μ l=some L/\a=#[]/\b=#[]/\v=.func (.yield L.r) #[] #[]):=by
 cases h with
 |atom _ q=>simp[isAtom] at q
 |func fn a b bY b' ai a' au qm qn=>
  exact .inl ⟨bY,b',rfl,ai,⟨by simpa using a',fun i v v' x y=>qm i v v' (by simpa using x) (by simpa using y)⟩,⟨by simpa using au,fun i v v' x y=>qn i v v' (by simpa using x) (by simpa using y)⟩⟩
 |yield l L bT=>exact .inr ⟨l,L,rfl,bT,rfl,rfl,rfl⟩
theorem J6{recv recv':Value}{name:String}{rest xZ:List Value}{f:FuncId}{b6:List Value}(ay:bF μ recv recv')(av:b4 μ rest xZ)(he:yZ P H recv name rest=some (f,b6)):
 ∃jv,(callMethod recv' name xZ.toArray).run P w=(callFunc f jv.toArray).run P w/\b4 μ b6 jv:=by
 unfold yZ at he;cases recv with
 |iface t v=>
  obtain⟨v',rfl,az⟩:=ay.xJ;simp only at he;cases ao:P.info? t with
  |none=>rw[ao] at he;simp at he
  |some i=>
   rw[ao] at he;simp only at he;cases hm:i.methods.find? (·.name==name) with
   |none=>rw[hm] at he;simp at he
   |some m=>
    rw[hm] at he;simp only at he;cases aw:m.path.isEmpty with
    |false=>rw[aw] at he;simp at he
    |true=>
     rw[aw] at he;simp only[lK,dZ] at he;have ain:m.path=#[]:=by simpa using aw
     cases aC:m.func with
     |none=>rw[aC] at he;simp at he
     |some q=>
      obtain⟨g,B'⟩:=q;rw[aC] at he;simp only at he;have key:∀ie,(∀Ik,(receiverAt t (.val v') B' Ik).run P w=.ok ie w)->f=g->(callMethod (.iface t v') name xZ.toArray).run P w=(callFunc f (ie::xZ).toArray).run P w:=by
       intro ie HJ ahi;subst ahi;have ah4:(method (P.types.size+Made.depth) t v' name).run P w=.ok (f,ie) w:=by
        have:P.types.size+Made.depth=(P.types.size+99)+1:=rfl;rw[this];generalize P.types.size+99=k;simp[method,typeInfo,ao,hm,ain,follow,aC,HJ]
       simp[callMethod,ah4]
      cases hu:P.underlying t with
      |none=>rw[hu] at he;simp at he
      |some d=>
       rw[hu] at he;cases d with
       |pointer elem=>
        cases B' with
        |true=>
         simp only[cp,dC] at he;obtain⟨rfl,rfl⟩:=he;exact⟨v'::xZ,key v' (fun Ik=>by simp[receiverAt,eY hu,Place.get]) rfl,b4.cons az av⟩
        |false=>simp at he
       |_=>
        cases B' with
        |true=>simp at he
        |false=>
         simp only[cp,dC] at he;obtain⟨rfl,rfl⟩:=he;exact⟨v'::xZ,key v' (fun Ik=>by simp[receiverAt,eY hu,Place.get]) rfl,b4.cons az av⟩
 |_=>simp at he
theorem Uk{fn:Fn}{args cz cap eg:List Value}{f:FuncId}{b6:List Value}(a':b4 μ args cz)(aH:b4 μ cap eg)(he:mU P H fn args cap=some (f,b6)):
 ∃jv,(invoke (.fn fn eg.toArray) cz.toArray).run P w=(callFunc f jv.toArray).run P w/\b4 μ b6 jv:=by
 unfold mU at he;cases fn with
 |func g=>
  simp only[cp,dC] at he;obtain⟨rfl,rfl⟩:=he;refine⟨cz++eg,?_,a'.append aH⟩;simp[invoke]
 |method name=>
  cases args with
  |nil=>simp at he
  |cons r rest=>
   obtain⟨dw,xZ,rfl,aa,ae⟩:=a'.jC;obtain⟨jv,a,b⟩:=J6 (w:=w) aa ae he;refine⟨jv,?_,b⟩;rw[<-a];simp[invoke]
 |methodOf t name=>
  cases args with
  |nil=>simp at he
  |cons r rest=>
   obtain⟨dw,xZ,rfl,aa,ae⟩:=a'.jC;simp only at he;cases hu:P.underlying t with
   |none=>rw[hu] at he;simp at he
   |some d=>
    rw[hu] at he;by_cases aZ:∃Qm,d=.interface Qm
    ·obtain⟨Qm,rfl⟩:=aZ;obtain⟨jv,a,b⟩:=J6 (w:=w) aa ae he;refine⟨jv,?_,b⟩;rw[<-a];simp[invoke,eY hu]
    ·have oP:yZ P H (.iface t r) name rest=some (f,b6):=by
      cases d<;>first|exact he|exact absurd ⟨_,rfl⟩ aZ
     obtain⟨jv,a,b⟩:=J6 (w:=w) (.iface t r dw aa) ae oP;refine⟨jv,?_,b⟩;rw[<-a];cases d<;>first|exact absurd ⟨_,rfl⟩ aZ|simp[invoke,eY hu]
 |_=>simp at he
theorem Ui(h:ca P B w0 μ H w)(aD:lu μ S.T n tmps){c:Call}{r:cM}(aH:o.op=.call c)(VY:∀b,c.callee≠.builtin b)(he:po P call aR S.T H c=some r):nT P B w0 call aR μ H w (execOp (dA tmps) o) r:=by
 unfold po at he;have st:∀args,ez S.T H c.args.toList=some args->b4 μ args (c.args.map (dA tmps)).toList:=fun args q=>by
  have:=Iy h aD q;simpa using this
 have fin:∀f b6 jv,(execOp (dA tmps) o).run P w=(callFunc f jv.toArray).run P w->b4 μ b6 jv->q8 (call f b6 H)=some r->nT P B w0 call aR μ H w (execOp (dA tmps) o) r:=by
  intro f b6 jv aa ae aG;cases hC:call f b6 H with
  |none=>rw[hC] at aG;simp[q8] at aG
  |some p=>
   obtain⟨e,H1⟩:=p;rw[hC] at aG;cases e with
   |returned v=>simp[q8] at aG;subst aG;exact .inr (.inl ⟨f,b6,jv,aa,ae,hC⟩)
   |panicked bU=>simp[q8] at aG;subst aG;exact .inr ⟨f,b6,jv,aa,ae,hC⟩
   |outgrown=>simp[q8] at aG
 cases a':ez S.T H c.args.toList with
 |none=>rw[a'] at he;simp at he
 |some args=>
  rw[a'] at he;simp only at he;have av:=st args a';cases mY:c.callee with
  |builtin b=>exact absurd mY (VY b)
  |invoke recv name=>
   rw[mY] at he;simp only at he;cases ay:bk S.T H recv with
   |none=>rw[ay] at he;simp at he
   |some rv=>
    rw[ay] at he;simp only at he;cases hm:yZ P H rv name args with
    |none=>rw[hm] at he;simp at he
    |some p=>
     obtain⟨f,b6⟩:=p;rw[hm] at he;obtain⟨jv,bo,a2⟩:=J6 (w:=w) (vX h aD ay) av hm;refine fin f b6 jv ?_ a2 he;rw[<-bo];have iH:(#[dA tmps recv]++Array.map (dA tmps) c.args)[0]?=some (dA tmps recv):=by rw[RS (by simp)];rfl
     have aN:(Array.map (dA tmps) c.args).extract 0 c.args.size=(List.map (dA tmps) c.args.toList).toArray:=by apply s0;simp;exact et (by simp)
     simp[execOp,aH,resolve,mY,invoke,iH,aN]
  |value NL=>
   rw[mY] at he;simp only at he;cases aC:bk S.T H NL with
   |none=>rw[aC] at he;simp at he
   |some fv=>
    rw[aC] at he;have lX:=vX h aD aC;cases fv with
    |func fn first captured=>
     rcases lX.GI with⟨bY,b',az,ub,aa,ae⟩|⟨l,L,rfl,bT,rfl,rfl,az⟩
     ·have oP:(match mU P H fn (first.toList++args) captured.toList with|some (f,b6)=>q8 (call f b6 H)|none=>none)=some r:=by
       cases fn<;>first|exact he|(simp[xT] at ub)
      cases hm:mU P H fn (first.toList++args) captured.toList with
      |none=>rw[hm] at oP;simp at oP
      |some p=>
       obtain⟨f,b6⟩:=p;rw[hm] at oP;obtain⟨jv,bo,a2⟩:=Uk (w:=w) (aa.append av) ae hm;refine fin f b6 jv ?_ a2 oP;rw[<-bo];have aN:(bY.toList++(c.args.map (dA tmps)).toList).toArray=bY++c.args.map (dA tmps):=by apply s0;simp
       have bn:b'.toList.toArray=b':=by simp
       rw[aN,bn];simp[execOp,aH,resolve,mY,Deferred.ofValue,az]
     ·simp only[Array.isEmpty_empty,wg,cb] at he;cases ai:aR l args H with
      |none=>rw[ai] at he;simp[Ja] at he
      |some p=>
       obtain⟨e,H1⟩:=p;rw[ai] at he;cases e with
       |returned v=>
        simp[Ja] at he;subst he;refine .inr (.inr ⟨l,L,args,(c.args.map (dA tmps)).toList,bT,?_,av,ai⟩);have aN:(List.map (dA tmps) c.args.toList).toArray=c.args.map (dA tmps):=by apply s0;simp
        simp[execOp,aH,resolve,mY,Deferred.ofValue,az,invoke,aN]
       |panicked bU=>simp[Ja] at he
       |outgrown=>simp[Ja] at he
    |_=>simp at he
end
end
end Go.Cre
namespace Go.Cre
noncomputable section
open Go.RowKit
section
variable {P:Program}{B:Nat->Prop}{w0 w:World}{μ:b1}{H H':aB}{n:Nat}{tmps:Array Value}
variable {call:eH}{aR:gR}{o:Oper}{S:bi}
theorem ajX{α:Type}{l:List α}(h:isNil l=true):l=[]:=by
 cases l with
 |nil=>rfl
 |cons a l=>cases h
theorem ac9{α:Type}(k:Nat)(l:List α):wV (k+1) l=Option.rec (motive:=fun _=>Option (List α)) none (wV k) (wV k l):=rfl
theorem ac8{α:Type}:∀{k:Nat} {l r:List α},wV k l=some r->l.length=2 ^ k+r.length:=by
 intro k;induction k with
 |zero=>
  intro l r h;cases l with
  |nil=>cases h
  |cons v l=>
   have h:some l=some r:=h;injection h with h;subst h;simp;omega
 |succ k aK=>
  intro l r h;rw[ac9] at h;cases aa:wV k l with
  |none=>rw[aa] at h;cases h
  |some m=>
   rw[aa] at h;have h:wV k m=some r:=h;have aN:=aK aa;have bn:=aK h;rw[Mw];omega
theorem adf{α:Type}(k n:Nat)(l:List α):AM (k+1) n l=Option.rec (motive:=fun _=>Option Nat) (AM k n l) (fun r=>AM k (Nat.add n (Nat.pow 2 k)) r) (wV k l):=rfl
theorem TZ{α:Type}:∀{k n m:Nat} {l:List α},AM k n l=some m->m=n+l.length:=by
 intro k;induction k with
 |zero=>
  intro n m l h;have h:Bool.rec (motive:=fun _=>Option Nat) none (some n) (isNil l)=some m:=h;cases aP:isNil l with
  |false=>rw[aP] at h;cases h
  |true=>rw[aP] at h;injection h with h;rw[ajX aP];simp[h]
 |succ k aK=>
  intro n m l h;rw[adf] at h;cases aa:wV k l with
  |none=>rw[aa] at h;exact aK h
  |some r=>
   rw[aa] at h;have h:AM k (n+2 ^ k) r=some m:=h;have aN:=ac8 aa;have bn:=aK h;omega
theorem W3{α:Type}{l:List α}{n:Nat}(h:BL l=some n):n=l.length:=by
 unfold BL at h;cases au:isNil (oG 256 l) with
 |true=>rw[au,cb] at h;injection h with h;exact h.symm
 |false=>
  rw[au,dZ] at h;split at h
  ·rename_i m hm;injection h with h;subst h
   have:=TZ hm;omega
  ·split at h
   ·rename_i m hm;injection h with h;subst h
    have:=TZ hm;omega
   ·injection h with h;exact h.symm
theorem XU(h:ca P B w0 μ H w){T:bg Value}(aD:lu μ T n tmps){x:Option Operand}{v:Option Value}(he:jD T H x=some v):Fy μ v (x.map (dA tmps)):=by
 cases x with
 |none=>simp[jD] at he;subst he;trivial
 |some x=>
  simp only[jD] at he;cases U:bk T H x with
  |none=>rw[U] at he;simp at he
  |some u=>rw[U] at he;simp at he;subst he;exact vX h aD U
theorem aef(h:ca P B w0 μ H w)(aD:lu μ S.T n tmps){c:Call}{b:Builtin}{r:cM}(aH:o.op=.call c)(au:c.callee=.builtin b)(he:pn P S H o b c=some r):nT P B w0 call aR μ H w (execOp (dA tmps) o) r:=by
 have PH:∀cs b,o.op≠.select cs b:=fun cs b q=>by rw[aH] at q;cases q
 have sF:fI P S.T H o=some r->nT P B w0 call aR μ H w (execOp (dA tmps) o) r:=Gx h aD PH;obtain⟨cs,hex⟩:∃cs,execOp (dA tmps) o=builtin b c.argTypes o.type cs (c.args.map (dA tmps)):=⟨_,by simp[execOp,aH,resolve,au,invoke];rfl⟩;unfold pn at he;cases a':ez S.T H c.args.toList with
 |none=>rw[a'] at he;simp at he
 |some args=>
  rw[a'] at he;have av:b4 μ args (c.args.map (dA tmps)).toList:=by have:=Iy h aD a';simpa using this
  simp only at he;have xg:∀l,(c.args.map (dA tmps)).toList=l->c.args.map (dA tmps)=l.toArray:=fun l q=>by rw[<-q]
  have BC:∀l,c.argTypes.toList=l->c.argTypes=l.toArray:=fun l q=>by rw[<-q]
  split at he
  ·--len of a slice
   rename_i a m cD t fK;split at he
   ·rename_i e hu;injection he with he;subst he
    obtain⟨v',l',aN,aa,ae⟩:=av.jC;have:=ae.lf;subst this;refine .inl ⟨.int .i64 m,w,μ,?_,h,Step.refl _ _,.atom _ rfl⟩;rw[hex,xg _ aN,BC _ fK];cases a with
    |none=>rw[aa.uI];simp[builtin,Builtin.len_,eY hu,goInt]
    |some a=>obtain⟨_,_,rfl⟩:=aa.Cl;simp[builtin,Builtin.len_,eY hu,goInt]
   ·cases he
  ·--len of a map
   rename_i dB t fK;split at he
   ·rename_i k e hu;split at he
    ·rename_i es clock hm;injection he with he;subst he
     obtain⟨v',l',aN,aa,ae⟩:=av.jC;have:=ae.lf;subst this;obtain⟨L,bT,rfl⟩:=aa.H7;obtain⟨mn,JW,g1,g2⟩:=h.map bT hm;have Hc:(getObj L.r).run P w=.ok (.map mn JW) w:=by simp[getObj,Sem.run,g1]
     have hlen:mn.size=es.length:=by have:=g2.length;simp at this;omega
     refine .inl ⟨.int .i64 es.length,w,μ,?_,h,Step.refl _ _,.atom _ rfl⟩;rw[hex,xg _ aN,BC _ fK];simp[builtin,Builtin.len_,eY hu,goInt,Hc,hlen]
    ·cases he
   ·cases he
  ·--len of a string
   rename_i s t fK;split at he
   ·rename_i hu;have he:some (cM.val (.int .i64 s.data.toList.length) H)=some r:=by
     cases hle:BL s.data.toList with
     |none=>rw[hle] at he;cases he
     |some n=>
      rw[hle] at he;simp only at he;rw[tC] at he;rw[<-W3 hle];exact he
    injection he with he;subst he
    obtain⟨v',l',aN,aa,ae⟩:=av.jC;have:=ae.lf;subst this;have iv:(Builtin.len_ #[t] o.type #[.string s]).run P w=.ok (goInt s.size) w:=by simp[Builtin.len_,eY hu]
    refine .inl ⟨goInt s.size,w,μ,?_,h,Step.refl _ _,.atom _ rfl⟩;rw[hex,xg _ aN,BC _ fK,aa.IS];simp[builtin,iv]
   ·cases he
  ·--append
   rename_i s x hi hy fK;split at he
   ·cases he
   ·rename_i d aZ hu;obtain⟨v',l',aN,aa,ae⟩:=av.jC;obtain⟨IW,La,rfl,aG,br⟩:=ae.jC;have:=br.lf;subst this;have:=zM (call:=call) (aR:=aR) (s:=Builtin.append_ #[hi,hy] o.type #[v',IW]) (fun v H' q=>aec h aa aG hu (fun k q=>aZ k q) q) he;rw[hex,xg _ aN,BC _ fK];exact this
   ·cases he
  ·--cap
   rename_i a m cD t fK;split at he
   ·rename_i e hu;cases dW:Nat.beq cD c9 with
    |true=>rw[dW] at he;cases he
    |false=>
     rw[dW,dZ] at he;injection he with he;subst he
     obtain⟨v',l',aN,aa,ae⟩:=av.jC;have:=ae.lf;subst this;have cc:cD≠c9:=fun q=>by rw[q,hA] at dW;cases dW
     obtain⟨bY,rfl⟩:=aa.anF cc;refine .inl ⟨.int .i64 cD,w,μ,?_,h,Step.refl _ _,.atom _ rfl⟩;rw[hex,xg _ aN,BC _ fK];simp[builtin,Builtin.cap_,eY hu,goInt]
   ·cases he
  ·--E5 auj data
   rename_i a m cD;cases dW:(Nat.beq cD c9&&Nat.beq m 0) with
   |true=>rw[dW] at he;cases he
   |false=>
    rw[dW,dZ] at he;cases ho:Nat.beq cD 0 with
    |true=>rw[ho] at he;cases he
    |false=>
     rw[ho,dZ] at he;injection he with he;subst he
     obtain⟨v',l',aN,aa,ae⟩:=av.jC;have:=ae.lf;subst this;have ho:cD≠0:=fun q=>by rw[q] at ho;cases ho
     obtain⟨id,off,L,gb,eg,rfl,bT,rfl,ar,_,tR⟩:=aa.x4 (.inr (.inr (by omega)));have hm:cD=c9->m≠0:=fun q dz=>by subst q;subst dz;rw[hA] at dW;cases dW
     have qd:eg≠0/\gb=off:=by
      rcases tR with⟨_,rfl,rfl⟩|⟨q,a6,rfl,_⟩|⟨q,a6,_⟩
      ·exact⟨ho,rfl⟩
      ·exact⟨by have:=hm q;omega,rfl⟩
      ·exact absurd a6 (hm q)
     obtain⟨qd,rfl⟩:=qd;refine .inl ⟨.pointer (some ⟨L.r,gb,none⟩),w,μ,?_,h,Step.refl _ _,.ptr id gb L bT⟩;have iv:(Builtin.unsafeSliceData_ c.argTypes o.type #[.slice (some ⟨L.r,gb,none⟩) m eg]).run P w=.ok (.pointer (some ⟨L.r,gb,none⟩)) w:=by
      show((if eg≠0 then pure _ else _:Sem Value)).run P w=_;rw[aE qd];rfl
     rw[hex,xg _ aN];simp[builtin,iv]
  ·--a string over bytes
   rename_i p m o5 it fK;obtain⟨v',l',aN,aa,ae⟩:=av.jC;obtain⟨IW,La,rfl,aG,br⟩:=ae.jC;have:=br.lf;subst this;have:=zM (call:=call) (aR:=aR) (s:=Builtin.unsafeString_ #[o5,it] o.type #[v',IW]) (fun v H' q=>by
    obtain⟨bo,a2,a3,a4,a5,dc⟩:=aeH h aa aG q;exact⟨bo,a2,μ,a3,a4,a5,dc⟩) he
   rw[hex,xg _ aN,BC _ fK];exact this
  ·--copy
   rename_i d s rV hi fK;obtain⟨v',l',aN,aa,ae⟩:=av.jC;obtain⟨IW,La,rfl,aG,br⟩:=ae.jC;have:=br.lf;subst this;have:=zM (call:=call) (aR:=aR) (s:=Builtin.copy_ #[rV,hi] o.type #[v',IW]) (fun v H' q=>by
    obtain⟨bo,a2,a3,a4,a5,dc⟩:=aeh h aa aG q;exact⟨bo,a2,μ,a3,a4,a5,dc⟩) he
   rw[hex,xg _ aN,BC _ fK];exact this
  ·--panic
   rename_i t v;injection he with he;subst he
   obtain⟨v',l',aN,aa,ae⟩:=av.jC;have:=ae.lf;subst this;obtain⟨dT,rfl,U⟩:=aa.xJ;refine .inl ⟨.iface t v,.iface t dT,rfl,rfl,?_,.iface t v dT U⟩;rw[hex,xg _ aN];simp[builtin,Instr.panic,goPanic,Sem.run]
  ·--recover
   have aN:=av.lf;have iv:(execOp (dA tmps) o).run P w=.ok .recover w:=by rw[hex];simp[builtin]
   injection he with he;subst he
   exact iv
  ·exact sF he
theorem aei(h:ca P B w0 μ H w)(aD:lu μ S.T n tmps){c:Call}{r:cM}(aH:o.op=.defer c)(he:Gu P S.T H c=some r):nT P B w0 call aR μ H w (execOp (dA tmps) o) r:=by
 unfold Gu at he;cases a':ez S.T H c.args.toList with
 |none=>rw[a'] at he;simp at he
 |some args=>
  rw[a'] at he;simp only at he;have av:b4 μ args (c.args.map (dA tmps)).toList:=by have:=Iy h aD a';simpa using this
  cases mY:c.callee with
  |builtin b=>rw[mY] at he;simp at he
  |invoke recv name=>
   rw[mY] at he;simp only at he;cases ay:bk S.T H recv with
   |none=>rw[ay] at he;simp at he
   |some rv=>
    rw[ay] at he;simp only[cp] at he;subst he;refine⟨.method name,#[],#[],rv::args,dA tmps recv::(c.args.map (dA tmps)).toList,rfl,?_,rfl,b4.nil _,b4.cons (vX h aD ay) av⟩;have aN:(dA tmps recv::(c.args.map (dA tmps)).toList).toArray=#[dA tmps recv]++c.args.map (dA tmps):=by apply s0;simp
    rw[aN];simp[execOp,aH,resolve,mY]
  |value NL=>
   rw[mY] at he;simp only at he;cases aC:bk S.T H NL with
   |none=>rw[aC] at he;simp at he
   |some fv=>
    rw[aC] at he;have lX:=vX h aD aC;cases fv with
    |func fn first captured=>
     simp only at he;cases ub:xT fn with
     |false=>rw[ub] at he;simp at he
     |true=>
     rw[ub] at he;simp only[cb,cp] at he;subst he;rcases lX.GI with⟨bY,b',az,_,aa,ae⟩|⟨l,L,rfl,bT,rfl,rfl,az⟩
     ·refine⟨fn,captured,b',first.toList++args,bY.toList++(c.args.map (dA tmps)).toList,rfl,?_,ub,ae,aa.append av⟩;have aN:(bY.toList++(c.args.map (dA tmps)).toList).toArray=bY++c.args.map (dA tmps):=by apply s0;simp
      rw[aN];simp[execOp,aH,resolve,mY,Deferred.ofValue,az]
     ·simp[xT] at ub
    |_=>simp at he
end
end
end Go.Cre
