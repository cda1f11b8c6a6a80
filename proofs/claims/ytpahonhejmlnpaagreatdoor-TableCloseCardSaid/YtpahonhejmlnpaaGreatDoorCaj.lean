/- A part of the proof of TableClose. -/
import Derived.Test.YtpahonhejmlnpaaGreatDoorCai
import Derived.Laws.BitsLemmas
set_option linter.unusedVariables false
set_option linter.unusedSimpArgs false
namespace Go.Cre
noncomputable section
open Go.RowKit
section
variable {P:Program}{B:Nat->Prop}{w0 w:World}{μ:bz}{H H':ai}{n:Nat}{tmps:Array Value}
variable {call:ed}{aE:fX}{o:Oper}{S:aT}
theorem pS{α:Type}(n:Int)(k:Int->α):n5 n k=k n:=by
 cases n with
 |ofNat m=>cases m<;>rfl
 |negSucc m=>cases m<;>rfl
theorem yZ(k:IntKind)(n:Int):uQ k n=k.wrap n:=by
 unfold uQ;cases n with
 |ofNat m=>
  simp only
  cases ah:Nat.blt m (qi k) with
  |false=>rfl
  |true=>
   have ah:m<qi k:=gy ah;simp only[b1];cases k<;>simp only[qi] at ah<;>simp[IntKind.wrap,IntKind.bits,IntKind.signed]<;>omega
 |negSucc m=>
  simp only
  cases ah:(k.signed&&Nat.blt m (qi k)) with
  |false=>rfl
  |true=>
   simp only[fp] at ah;have af:=ah.1;have ah:m<qi k:=gy ah.2;simp only[b1];cases k with
   |i64=>simp only[qi] at ah;rw[IntKind.wrap_i64,Int.negSucc_eq];omega
   |i32=>simp only[qi] at ah;rw[IntKind.wrap_i32,Int.negSucc_eq];omega
   |i8=>simp[qi] at ah
   |i16=>simp[qi] at ah
   |_=>cases af
theorem yk(a b:Int):nB a b=decide (a<b):=by
 cases a with
 |ofNat a=>cases b with
  |ofNat b=>
   simp only[nB];have:Nat.blt a b=decide (a<b):=by
    by_cases h:a<b
    ·rw[g2 h];exact j3 h
    ·rw[e8 h];cases q:Nat.blt a b
     ·rfl
     ·exact absurd (gy q) h
   rw[this];simp
  |negSucc b=>simp[nB];omega
 |negSucc a=>cases b with
  |ofNat b=>simp[nB];omega
  |negSucc b=>
   simp only[nB];by_cases h:b<a
   ·have:Nat.blt b a=true:=j3 h;rw[this,eq_comm,CO];omega
   ·have:Nat.blt b a=false:=by
     cases q:Nat.blt b a
     ·rfl
     ·exact absurd (gy q) h
    rw[this,eq_comm,decide_eq_false_iff_not];omega
theorem yj(a b:Int):lI a b=(a==b):=by
 rw[nM,beq_iff_eq];cases a with
 |ofNat a=>cases b with
  |ofNat b=>simp only[lI];constructor
            ·intro h;rw[dX h]
            ·intro h;injection h with h;rw[h];exact gH b
  |negSucc b=>simp[lI]
 |negSucc a=>cases b with
  |ofNat b=>simp[lI]
  |negSucc b=>simp only[lI];constructor
              ·intro h;rw[dX h]
              ·intro h;injection h with h;rw[h];exact gH b
theorem O3{a b:IntKind}(h:jR a b=true):a=b:=by cases a<;>cases b<;>first|rfl|cases h
theorem uG(H:ai)(b:Bool):th H b=some (.val (.bool b) H):=by cases b<;>rfl
theorem Zs(h:bL P B w0 μ H w){k:IntKind}{a b:Int}{uI:Option cv}{op:BinOp}{t:TypeId}{x y:Operand}{r:cv}(U:cQ tmps x=.int k a)(aF:cQ tmps y=.int k b)(ag:∃E1,o.op=.binOp op t x y E1)
 (yb:uI=some r->lz P B w0 call aE μ H w (execOp (cQ tmps) o) r)(he:ir H k a b uI op=some r):lz P B w0 call aE μ H w (execOp (cQ tmps) o) r:=by
 obtain⟨E1,ag⟩:=ag;have aq:(eqGuard op t x y (.int k a) (.int k b)).run P w=.ok () w:=by cases op<;>simp[eqGuard]
 have fin:∀v,(binOp op t (.int k a) (.int k b)).run P w=.ok v w->isAtom v=true->some (cv.val v H)=some r->lz P B w0 call aE μ H w (execOp (cQ tmps) o) r:=by
  intro v ay aK al;injection al with al;subst al
  refine .inl ⟨v,w,μ,?_,h,Step.refl _ _,.atom _ aK⟩;simp[execOp,ag,U,aF,aq,ay]
 cases op with
 |add=>simp only[ir,pS,yZ,m5] at he;exact fin _ (by simp[binOp,Op.intArith]) rfl he
 |sub=>simp only[ir,pS,yZ,m5] at he;exact fin _ (by simp[binOp,Op.intArith]) rfl he
 |mul=>simp only[ir,pS,yZ,m5] at he;exact fin _ (by simp[binOp,Op.intArith]) rfl he
 |eql=>simp only[ir,uG,yj] at he;exact fin _ (by simp[binOp,Op.intCmp]) rfl he
 |neq=>simp only[ir,uG,yj] at he;exact fin _ (by simp[binOp,Op.intCmp,bne]) rfl he
 |lss=>simp only[ir,uG,yk] at he;exact fin _ (by simp[binOp,Op.intCmp]) rfl he
 |leq=>simp only[ir,uG,yk] at he;exact fin _ (by simp[binOp,Op.intCmp];rw[<-decide_not];exact oW.2 (by omega)) rfl he
 |gtr=>simp only[ir,uG,yk] at he;exact fin _ (by simp[binOp,Op.intCmp]) rfl he
 |geq=>simp only[ir,uG,yk] at he;exact fin _ (by simp[binOp,Op.intCmp];rw[<-decide_not];exact oW.2 (by omega)) rfl he
 |_=>exact yb he
end
end
end Go.Cre
namespace Go.Cre
noncomputable section
open Go.RowKit
section
variable {P:Program}{B:Nat->Prop}{w0 w:World}{μ:bz}{H H':ai}{n:Nat}{tmps:Array Value}
variable {call:ed}{aE:fX}{o:Oper}{S:aT}
theorem bc.xA{fn:Fn}{a b:Array Value}{v:Value}(h:bc μ (.func fn a b) v):
 (∃bE b',v=.func fn bE b'/\s7 fn=true/\bF μ a.toList bE.toList/\bF μ b.toList b'.toList)\/(∃l L,fn=.yield l/\μ l=some L/\a=#[]/\b=#[]/\v=.func (.yield L.r) #[] #[]):=by
 cases h with
 |atom _ q=>simp[isAtom] at q
 |func fn a b bE b' aF aK ah DH DI=>
  exact .inl ⟨bE,b',rfl,aF,⟨by simpa using aK,fun i v v' x y=>DH i v v' (by simpa using x) (by simpa using y)⟩,⟨by simpa using ah,fun i v v' x y=>DI i v v' (by simpa using x) (by simpa using y)⟩⟩
 |yield l L bP=>exact .inr ⟨l,L,rfl,bP,rfl,rfl,rfl⟩
theorem CS{recv recv':Value}{name:String}{rest tg:List Value}{f:FuncId}{cl:List Value}(al:bc μ recv recv')(aA:bF μ rest tg)(he:tP P H recv name rest=some (f,cl)):
 ∃ie,(callMethod recv' name tg.toArray).run P w=(callFunc f ie.toArray).run P w/\bF μ cl ie:=by
 unfold tP at he;cases recv with
 |iface t v=>
  obtain⟨v',rfl,ay⟩:=al.sY;simp only at he;cases ar:P.info? t with
  |none=>rw[ar] at he;simp at he
  |some i=>
   rw[ar] at he;simp only at he;cases hm:i.methods.find? (·.name==name) with
   |none=>rw[hm] at he;simp at he
   |some m=>
    rw[hm] at he;simp only at he;cases ao:m.path.isEmpty with
    |false=>rw[ao] at he;simp at he
    |true=>
     rw[ao] at he;simp only[lT,da] at he;have Yv:m.path=#[]:=by simpa using ao
     cases az:m.func with
     |none=>rw[az] at he;simp at he
     |some q=>
      obtain⟨g,wy⟩:=q;rw[az] at he;simp only at he;have key:∀gY,(∀Bm,(receiverAt t (.val v') wy Bm).run P w=.ok gY w)->f=g->(callMethod (.iface t v') name tg.toArray).run P w=(callFunc f (gY::tg).toArray).run P w:=by
       intro gY AN XN;subst XN;have Yf:(method (P.types.size+Made.depth) t v' name).run P w=.ok (f,gY) w:=by
        have:P.types.size+Made.depth=(P.types.size+99)+1:=rfl;rw[this];generalize P.types.size+99=k;simp[method,typeInfo,ar,hm,Yv,follow,az,AN]
       simp[callMethod,Yf]
      cases hu:P.underlying t with
      |none=>rw[hu] at he;simp at he
      |some d=>
       rw[hu] at he;cases d with
       |pointer elem=>
        cases wy with
        |true=>
         simp only[b9,c'] at he;obtain⟨rfl,rfl⟩:=he;exact⟨v'::tg,key v' (fun Bm=>by simp[receiverAt,ec hu,Place.get]) rfl,bF.cons ay aA⟩
        |false=>simp at he
       |_=>
        cases wy with
        |true=>simp at he
        |false=>
         simp only[b9,c'] at he;obtain⟨rfl,rfl⟩:=he;exact⟨v'::tg,key v' (fun Bm=>by simp[receiverAt,ec hu,Place.get]) rfl,bF.cons ay aA⟩
 |_=>simp at he
theorem Gy{fn:Fn}{args b5 cap dx:List Value}{f:FuncId}{cl:List Value}(aK:bF μ args b5)(aL:bF μ cap dx)(he:j9 P H fn args cap=some (f,cl)):
 ∃ie,(invoke (.fn fn dx.toArray) b5.toArray).run P w=(callFunc f ie.toArray).run P w/\bF μ cl ie:=by
 unfold j9 at he;cases fn with
 |func g=>
  simp only[b9,c'] at he;obtain⟨rfl,rfl⟩:=he;refine⟨b5++dx,?_,aK.append aL⟩;simp[invoke]
 |method name=>
  cases args with
  |nil=>simp at he
  |cons r rest=>
   obtain⟨cg,tg,rfl,aa,ab⟩:=aK.hO;obtain⟨ie,a,b⟩:=CS (w:=w) aa ab he;refine⟨ie,?_,b⟩;rw[<-a];simp[invoke]
 |methodOf t name=>
  cases args with
  |nil=>simp at he
  |cons r rest=>
   obtain⟨cg,tg,rfl,aa,ab⟩:=aK.hO;simp only at he;cases hu:P.underlying t with
   |none=>rw[hu] at he;simp at he
   |some d=>
    rw[hu] at he;by_cases au:∃Ea,d=.interface Ea
    ·obtain⟨Ea,rfl⟩:=au;obtain⟨ie,a,b⟩:=CS (w:=w) aa ab he;refine⟨ie,?_,b⟩;rw[<-a];simp[invoke,ec hu]
    ·have nu:tP P H (.iface t r) name rest=some (f,cl):=by
      cases d<;>first|exact he|exact absurd ⟨_,rfl⟩ au
     obtain⟨ie,a,b⟩:=CS (w:=w) (.iface t r cg aa) ab nu;refine⟨ie,?_,b⟩;rw[<-a];cases d<;>first|exact absurd ⟨_,rfl⟩ au|simp[invoke,ec hu]
 |_=>simp at he
theorem MP(h:bL P B w0 μ H w)(aM:iE μ S.T n tmps){c:Call}{r:cv}(aL:o.op=.call c)(ub:∀b,c.callee≠.builtin b)(he:mE P call aE S.T H c=some r):lz P B w0 call aE μ H w (execOp (cQ tmps) o) r:=by
 unfold mE at he;have mJ:∀args,eQ S.T H c.args.toList=some args->bF μ args (c.args.map (cQ tmps)).toList:=fun args q=>by
  have:=BA h aM q;simpa using this
 have fin:∀f cl ie,(execOp (cQ tmps) o).run P w=(callFunc f ie.toArray).run P w->bF μ cl ie->oY (call f cl H)=some r->lz P B w0 call aE μ H w (execOp (cQ tmps) o) r:=by
  intro f cl ie aa ab aY;cases hf:call f cl H with
  |none=>rw[hf] at aY;simp[oY] at aY
  |some p=>
   obtain⟨e,H1⟩:=p;rw[hf] at aY;cases e with
   |returned v=>simp[oY] at aY;subst aY;exact .inr (.inl ⟨f,cl,ie,aa,ab,hf⟩)
   |panicked cf=>simp[oY] at aY;subst aY;exact .inr ⟨f,cl,ie,aa,ab,hf⟩
   |outgrown=>simp[oY] at aY
 cases aK:eQ S.T H c.args.toList with
 |none=>rw[aK] at he;simp at he
 |some args=>
  rw[aK] at he;simp only at he;have aA:=mJ args aK;cases kN:c.callee with
  |builtin b=>exact absurd kN (ub b)
  |invoke recv name=>
   rw[kN] at he;simp only at he;cases al:aW S.T H recv with
   |none=>rw[al] at he;simp at he
   |some JK=>
    rw[al] at he;simp only at he;cases hm:tP P H JK name args with
    |none=>rw[hm] at he;simp at he
    |some p=>
     obtain⟨f,cl⟩:=p;rw[hm] at he;obtain⟨ie,bx,bX⟩:=CS (w:=w) (qu h aM al) aA hm;refine fin f cl ie ?_ bX he;rw[<-bx];have ku:(#[cQ tmps recv]++Array.map (cQ tmps) c.args)[0]?=some (cQ tmps recv):=by rw[Sb (by simp)];rfl
     have aC:(Array.map (cQ tmps) c.args).extract 0 c.args.size=(List.map (cQ tmps) c.args.toList).toArray:=by apply oG;simp;exact ib (by simp)
     simp[execOp,aL,resolve,kN,invoke,ku,aC]
  |value GI=>
   rw[kN] at he;simp only at he;cases az:aW S.T H GI with
   |none=>rw[az] at he;simp at he
   |some jd=>
    rw[az] at he;have iQ:=qu h aM az;cases jd with
    |func fn first captured=>
     rcases iQ.xA with⟨bE,b',ay,rF,aa,ab⟩|⟨l,L,rfl,bP,rfl,rfl,ay⟩
     ·have nu:(match j9 P H fn (first.toList++args) captured.toList with|some (f,cl)=>oY (call f cl H)|none=>none)=some r:=by
       cases fn<;>first|exact he|(simp[s7] at rF)
      cases hm:j9 P H fn (first.toList++args) captured.toList with
      |none=>rw[hm] at nu;simp at nu
      |some p=>
       obtain⟨f,cl⟩:=p;rw[hm] at nu;obtain⟨ie,bx,bX⟩:=Gy (w:=w) (aa.append aA) ab hm;refine fin f cl ie ?_ bX nu;rw[<-bx];have aC:(bE.toList++(c.args.map (cQ tmps)).toList).toArray=bE++c.args.map (cQ tmps):=by apply oG;simp
       have aZ:b'.toList.toArray=b':=by simp
       rw[aC,aZ];simp[execOp,aL,resolve,kN,Deferred.ofValue,ay]
     ·simp only[Array.isEmpty_empty,tq,b1] at he;cases aF:aE l args H with
      |none=>rw[aF] at he;simp[y2] at he
      |some p=>
       obtain⟨e,H1⟩:=p;rw[aF] at he;cases e with
       |returned v=>
        simp[y2] at he;subst he;refine .inr (.inr ⟨l,L,args,(c.args.map (cQ tmps)).toList,bP,?_,aA,aF⟩);have aC:(List.map (cQ tmps) c.args.toList).toArray=c.args.map (cQ tmps):=by apply oG;simp
        simp[execOp,aL,resolve,kN,Deferred.ofValue,ay,invoke,aC]
       |panicked cf=>simp[y2] at he
       |outgrown=>simp[y2] at he
    |_=>simp at he
end
end
end Go.Cre
namespace Go.Cre
noncomputable section
open Go.RowKit
section
variable {P:Program}{B:Nat->Prop}{w0 w:World}{μ:bz}{H H':ai}{n:Nat}{tmps:Array Value}
variable {call:ed}{aE:fX}{o:Oper}{S:aT}
theorem Zy{α:Type}{l:List α}(h:isNil l=true):l=[]:=by
 cases l with
 |nil=>rfl
 |cons a l=>cases h
theorem UD{α:Type}(k:Nat)(l:List α):st (k+1) l=Option.rec (motive:=fun _=>Option (List α)) none (st k) (st k l):=rfl
theorem UC{α:Type}:∀{k:Nat} {l r:List α},st k l=some r->l.length=2 ^ k+r.length:=by
 intro k;induction k with
 |zero=>
  intro l r h;cases l with
  |nil=>cases h
  |cons v l=>
   have h:some l=some r:=h;injection h with h;subst h;simp;omega
 |succ k aP=>
  intro l r h;rw[UD] at h;cases aa:st k l with
  |none=>rw[aa] at h;cases h
  |some m=>
   rw[aa] at h;have h:st k m=some r:=h;have aC:=aP aa;have aZ:=aP h;rw[mu];omega
theorem UI{α:Type}(k n:Nat)(l:List α):vo (k+1) n l=Option.rec (motive:=fun _=>Option Nat) (vo k n l) (fun r=>vo k (Nat.add n (Nat.pow 2 k)) r) (st k l):=rfl
theorem Mv{α:Type}:∀{k n m:Nat} {l:List α},vo k n l=some m->m=n+l.length:=by
 intro k;induction k with
 |zero=>
  intro n m l h;have h:Bool.rec (motive:=fun _=>Option Nat) none (some n) (isNil l)=some m:=h;cases aw:isNil l with
  |false=>rw[aw] at h;cases h
  |true=>rw[aw] at h;injection h with h;rw[Zy aw];simp[h]
 |succ k aP=>
  intro n m l h;rw[UI] at h;cases aa:st k l with
  |none=>rw[aa] at h;exact aP h
  |some r=>
   rw[aa] at h;have h:vo k (n+2 ^ k) r=some m:=h;have aC:=UC aa;have aZ:=aP h;omega
theorem Pb{α:Type}{l:List α}{n:Nat}(h:v8 l=some n):n=l.length:=by
 unfold v8 at h;cases ah:isNil (np 256 l) with
 |true=>rw[ah,b1] at h;injection h with h;exact h.symm
 |false=>
  rw[ah,da] at h;split at h
  ·rename_i m hm;injection h with h;subst h
   have:=Mv hm;omega
  ·split at h
   ·rename_i m hm;injection h with h;subst h
    have:=Mv hm;omega
   ·injection h with h;exact h.symm
theorem P1(h:bL P B w0 μ H w){T:aQ Value}(aM:iE μ T n tmps){x:Option Operand}{v:Option Value}(he:g4 T H x=some v):zo μ v (x.map (cQ tmps)):=by
 cases x with
 |none=>simp[g4] at he;subst he;trivial
 |some x=>
  simp only[g4] at he;cases U:aW T H x with
  |none=>rw[U] at he;simp at he
  |some u=>rw[U] at he;simp at he;subst he;exact qu h aM U
theorem Vo(h:bL P B w0 μ H w)(aM:iE μ S.T n tmps){c:Call}{b:Builtin}{r:cv}(aL:o.op=.call c)(ah:c.callee=.builtin b)(he:n3 P S H o b c=some r):lz P B w0 call aE μ H w (execOp (cQ tmps) o) r:=by
 have Ig:∀cs b,o.op≠.select cs b:=fun cs b q=>by rw[aL] at q;cases q
 have o9:eI P S.T H o=some r->lz P B w0 call aE μ H w (execOp (cQ tmps) o) r:=zX h aM Ig;obtain⟨cs,hex⟩:∃cs,execOp (cQ tmps) o=builtin b c.argTypes o.type cs (c.args.map (cQ tmps)):=⟨_,by simp[execOp,aL,resolve,ah,invoke];rfl⟩;unfold n3 at he;cases aK:eQ S.T H c.args.toList with
 |none=>rw[aK] at he;simp at he
 |some args=>
  rw[aK] at he;have aA:bF μ args (c.args.map (cQ tmps)).toList:=by have:=BA h aM aK;simpa using this
  simp only at he;have rv:∀l,(c.args.map (cQ tmps)).toList=l->c.args.map (cQ tmps)=l.toArray:=fun l q=>by rw[<-q]
  have ue:∀l,c.argTypes.toList=l->c.argTypes=l.toArray:=fun l q=>by rw[<-q]
  split at he
  ·--len of a slice
   rename_i a m ss t mO;split at he
   ·rename_i e hu;injection he with he;subst he
    obtain⟨v',l',aC,aa,ab⟩:=aA.hO;have:=ab.ji;subst this;refine .inl ⟨.int .i64 m,w,μ,?_,h,Step.refl _ _,.atom _ rfl⟩;rw[hex,rv _ aC,ue _ mO];cases a with
    |none=>rw[aa.pz];simp[builtin,Builtin.len_,ec hu,goInt]
    |some a=>obtain⟨_,_,rfl⟩:=aa.uH;simp[builtin,Builtin.len_,ec hu,goInt]
   ·cases he
  ·--len of a map
   rename_i bV t mO;split at he
   ·rename_i k e hu;split at he
    ·rename_i es clock hm;injection he with he;subst he
     obtain⟨v',l',aC,aa,ab⟩:=aA.hO;have:=ab.ji;subst this;obtain⟨L,bP,rfl⟩:=aa.Bc;obtain⟨lb,CI,cm,cn⟩:=h.map bP hm;have p4:(getObj L.r).run P w=.ok (.map lb CI) w:=by simp[getObj,Sem.run,cm]
     have hlen:lb.size=es.length:=by have:=cn.length;simp at this;omega
     refine .inl ⟨.int .i64 es.length,w,μ,?_,h,Step.refl _ _,.atom _ rfl⟩;rw[hex,rv _ aC,ue _ mO];simp[builtin,Builtin.len_,ec hu,goInt,p4,hlen]
    ·cases he
   ·cases he
  ·--len of a string
   rename_i s t mO;split at he
   ·rename_i hu;have he:some (cv.val (.int .i64 s.data.toList.length) H)=some r:=by
     cases hle:v8 s.data.toList with
     |none=>rw[hle] at he;cases he
     |some n=>
      rw[hle] at he;simp only at he;rw[pS] at he;rw[<-Pb hle];exact he
    injection he with he;subst he
    obtain⟨v',l',aC,aa,ab⟩:=aA.hO;have:=ab.ji;subst this;have fK:(Builtin.len_ #[t] o.type #[.string s]).run P w=.ok (goInt s.size) w:=by simp[Builtin.len_,ec hu]
    refine .inl ⟨goInt s.size,w,μ,?_,h,Step.refl _ _,.atom _ rfl⟩;rw[hex,rv _ aC,ue _ mO,aa.BN];simp[builtin,fK]
   ·cases he
  ·--append
   rename_i s x e1 gu mO;split at he
   ·cases he
   ·rename_i d au hu;obtain⟨v',l',aC,aa,ab⟩:=aA.hO;obtain⟨BU,D3,rfl,aY,bu⟩:=ab.hO;have:=bu.ji;subst this;have:=td (call:=call) (aE:=aE) (s:=Builtin.append_ #[e1,gu] o.type #[v',BU]) (fun v H' q=>Vl h aa aY hu (fun k q=>au k q) q) he;rw[hex,rv _ aC,ue _ mO];exact this
   ·cases he
  ·--cap
   rename_i a m ss t mO;split at he
   ·rename_i e hu;cases dC:Nat.beq ss cu with
    |true=>rw[dC] at he;cases he
    |false=>
     rw[dC,da] at he;injection he with he;subst he
     obtain⟨v',l',aC,aa,ab⟩:=aA.hO;have:=ab.ji;subst this;have dP:ss≠cu:=fun q=>by rw[q,gH] at dC;cases dC
     obtain⟨bE,rfl⟩:=aa.ada dP;refine .inl ⟨.int .i64 ss,w,μ,?_,h,Step.refl _ _,.atom _ rfl⟩;rw[hex,rv _ aC,ue _ mO];simp[builtin,Builtin.cap_,ec hu,goInt]
   ·cases he
  ·--tj ahY data
   rename_i a m ss;cases dC:(Nat.beq ss cu&&Nat.beq m 0) with
   |true=>rw[dC] at he;cases he
   |false=>
    rw[dC,da] at he;cases jO:Nat.beq ss 0 with
    |true=>rw[jO] at he;cases he
    |false=>
     rw[jO,da] at he;injection he with he;subst he
     obtain⟨v',l',aC,aa,ab⟩:=aA.hO;have:=ab.ji;subst this;have jO:ss≠0:=fun q=>by rw[q] at jO;cases jO
     obtain⟨id,off,L,e0,dx,rfl,bP,rfl,ag,_,p2⟩:=aa.r2 (.inr (.inr (by omega)));have hm:ss=cu->m≠0:=fun q c3=>by subst q;subst c3;rw[gH] at dC;cases dC
     have kO:dx≠0/\e0=off:=by
      rcases p2 with⟨_,rfl,rfl⟩|⟨q,aN,rfl,_⟩|⟨q,aN,_⟩
      ·exact⟨jO,rfl⟩
      ·exact⟨by have:=hm q;omega,rfl⟩
      ·exact absurd aN (hm q)
     obtain⟨kO,rfl⟩:=kO;refine .inl ⟨.pointer (some ⟨L.r,e0,none⟩),w,μ,?_,h,Step.refl _ _,.ptr id e0 L bP⟩;have fK:(Builtin.unsafeSliceData_ c.argTypes o.type #[.slice (some ⟨L.r,e0,none⟩) m dx]).run P w=.ok (.pointer (some ⟨L.r,e0,none⟩)) w:=by
      show((if dx≠0 then pure _ else _:Sem Value)).run P w=_;rw[bg kO];rfl
     rw[hex,rv _ aC];simp[builtin,fK]
  ·--a string over bytes
   rename_i p m pv it mO;obtain⟨v',l',aC,aa,ab⟩:=aA.hO;obtain⟨BU,D3,rfl,aY,bu⟩:=ab.hO;have:=bu.ji;subst this;have:=td (call:=call) (aE:=aE) (s:=Builtin.unsafeString_ #[pv,it] o.type #[v',BU]) (fun v H' q=>by
    obtain⟨bx,bX,cy,c0,cr,dY⟩:=VQ h aa aY q;exact⟨bx,bX,μ,cy,c0,cr,dY⟩) he
   rw[hex,rv _ aC,ue _ mO];exact this
  ·--copy
   rename_i d s oF e1 mO;obtain⟨v',l',aC,aa,ab⟩:=aA.hO;obtain⟨BU,D3,rfl,aY,bu⟩:=ab.hO;have:=bu.ji;subst this;have:=td (call:=call) (aE:=aE) (s:=Builtin.copy_ #[oF,e1] o.type #[v',BU]) (fun v H' q=>by
    obtain⟨bx,bX,cy,c0,cr,dY⟩:=Vr h aa aY q;exact⟨bx,bX,μ,cy,c0,cr,dY⟩) he
   rw[hex,rv _ aC,ue _ mO];exact this
  ·--clear
   rename_i x t mO;obtain⟨v',l',aC,aa,ab⟩:=aA.hO;have:=ab.ji;subst this;have:=td (call:=call) (aE:=aE) (s:=Builtin.clear_ #[t] o.type #[v']) (fun v H' q=>by
    obtain⟨bx,bX,cy,c0,cr,dY⟩:=Vp h aa q;exact⟨bx,bX,μ,cy,c0,cr,dY⟩) he
   rw[hex,rv _ aC,ue _ mO];exact this
  ·--panic
   rename_i t v;injection he with he;subst he
   obtain⟨v',l',aC,aa,ab⟩:=aA.hO;have:=ab.ji;subst this;obtain⟨dg,rfl,U⟩:=aa.sY;refine .inl ⟨.iface t v,.iface t dg,rfl,rfl,?_,.iface t v dg U⟩;rw[hex,rv _ aC];simp[builtin,Instr.panic,goPanic,Sem.run]
  ·--recover
   have aC:=aA.ji;have fK:(execOp (cQ tmps) o).run P w=.ok .recover w:=by rw[hex];simp[builtin]
   injection he with he;subst he
   exact fK
  ·exact o9 he
theorem Vs(h:bL P B w0 μ H w)(aM:iE μ S.T n tmps){c:Call}{r:cv}(aL:o.op=.defer c)(he:zU P S.T H c=some r):lz P B w0 call aE μ H w (execOp (cQ tmps) o) r:=by
 unfold zU at he;cases aK:eQ S.T H c.args.toList with
 |none=>rw[aK] at he;simp at he
 |some args=>
  rw[aK] at he;simp only at he;have aA:bF μ args (c.args.map (cQ tmps)).toList:=by have:=BA h aM aK;simpa using this
  cases kN:c.callee with
  |builtin b=>rw[kN] at he;simp at he
  |invoke recv name=>
   rw[kN] at he;simp only at he;cases al:aW S.T H recv with
   |none=>rw[al] at he;simp at he
   |some JK=>
    rw[al] at he;simp only[b9] at he;subst he;refine⟨.method name,#[],#[],JK::args,cQ tmps recv::(c.args.map (cQ tmps)).toList,rfl,?_,rfl,bF.nil _,bF.cons (qu h aM al) aA⟩;have aC:(cQ tmps recv::(c.args.map (cQ tmps)).toList).toArray=#[cQ tmps recv]++c.args.map (cQ tmps):=by apply oG;simp
    rw[aC];simp[execOp,aL,resolve,kN]
  |value GI=>
   rw[kN] at he;simp only at he;cases az:aW S.T H GI with
   |none=>rw[az] at he;simp at he
   |some jd=>
    rw[az] at he;have iQ:=qu h aM az;cases jd with
    |func fn first captured=>
     simp only at he;cases rF:s7 fn with
     |false=>rw[rF] at he;simp at he
     |true=>
     rw[rF] at he;simp only[b1,b9] at he;subst he;rcases iQ.xA with⟨bE,b',ay,_,aa,ab⟩|⟨l,L,rfl,bP,rfl,rfl,ay⟩
     ·refine⟨fn,captured,b',first.toList++args,bE.toList++(c.args.map (cQ tmps)).toList,rfl,?_,rF,ab,aa.append aA⟩;have aC:(bE.toList++(c.args.map (cQ tmps)).toList).toArray=bE++c.args.map (cQ tmps):=by apply oG;simp
      rw[aC];simp[execOp,aL,resolve,kN,Deferred.ofValue,ay]
     ·simp[s7] at rF
    |_=>simp at he
end
end
end Go.Cre
