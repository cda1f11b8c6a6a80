/- A part of the proof of SampleParts. -/
import Derived.Test.YtdbhjgpppmkagaaGreatCai
import Derived.Laws.BitsLemmas
set_option linter.unusedVariables false
set_option linter.unusedSimpArgs false
namespace Go.Cre
noncomputable section
open Go.RowKit
section
variable {P:Program}{B:Nat->Prop}{w0 w:World}{μ:bH}{H H':ao}{n:Nat}{tmps:Array Value}
variable {call:eS}{aL:gU}{o:Oper}{S:aQ}
theorem sg{α:Type}(n:Int)(k:Int->α):pY n k=k n:=by
 cases n with
 |ofNat m=>cases m<;>rfl
 |negSucc m=>cases m<;>rfl
theorem CA(k:IntKind)(n:Int):yf k n=k.wrap n:=by
 unfold yf;cases n with
 |ofNat m=>
  simp only
  cases ai:Nat.blt m (sI k) with
  |false=>rfl
  |true=>
   have ai:m<sI k:=hC ai;simp only[cc];cases k<;>simp only[sI] at ai<;>simp[IntKind.wrap,IntKind.bits,IntKind.signed]<;>omega
 |negSucc m=>
  simp only
  cases ai:(k.signed&&Nat.blt m (sI k)) with
  |false=>rfl
  |true=>
   simp only[fR] at ai;have al:=ai.1;have ai:m<sI k:=hC ai.2;simp only[cc];cases k with
   |i64=>simp only[sI] at ai;rw[IntKind.wrap_i64,Int.negSucc_eq];omega
   |i32=>simp only[sI] at ai;rw[IntKind.wrap_i32,Int.negSucc_eq];omega
   |i8=>simp[sI] at ai
   |i16=>simp[sI] at ai
   |_=>cases al
theorem BL(a b:Int):ps a b=decide (a<b):=by
 cases a with
 |ofNat a=>cases b with
  |ofNat b=>
   simp only[ps];have:Nat.blt a b=decide (a<b):=by
    by_cases h:a<b
    ·rw[o8 h];exact kK h
    ·rw[tx h];cases q:Nat.blt a b
     ·rfl
     ·exact absurd (hC q) h
   rw[this];simp
  |negSucc b=>simp[ps];omega
 |negSucc a=>cases b with
  |ofNat b=>simp[ps];omega
  |negSucc b=>
   simp only[ps];by_cases h:b<a
   ·have:Nat.blt b a=true:=kK h;rw[this,eq_comm,He];omega
   ·have:Nat.blt b a=false:=by
     cases q:Nat.blt b a
     ·rfl
     ·exact absurd (hC q) h
    rw[this,eq_comm,nG];omega
theorem BK(a b:Int):pr a b=(a==b):=by
 rw[oc,beq_iff_eq];cases a with
 |ofNat a=>cases b with
  |ofNat b=>simp only[pr];constructor
            ·intro h;rw[eK h]
            ·intro h;injection h with h;rw[h];exact hX b
  |negSucc b=>simp[pr]
 |negSucc a=>cases b with
  |ofNat b=>simp[pr]
  |negSucc b=>simp only[pr];constructor
              ·intro h;rw[eK h]
              ·intro h;injection h with h;rw[h];exact hX b
theorem T8{a b:IntKind}(h:sG a b=true):a=b:=by cases a<;>cases b<;>first|rfl|cases h
theorem xU(H:ao)(b:Bool):v9 H b=some (.val (.bool b) H):=by cases b<;>rfl
theorem ae2(h:bR P B w0 μ H w){k:IntKind}{a b:Int}{x5:Option cF}{op:BinOp}{t:TypeId}{x y:Operand}{r:cF}(I:c' tmps x=.int k a)(ah:c' tmps y=.int k b)(an:∃JM,o.op=.binOp op t x y JM)
 (BD:x5=some r->na P B w0 call aL μ H w (execOp (c' tmps) o) r)(he:mu H k a b x5 op=some r):na P B w0 call aL μ H w (execOp (c' tmps) o) r:=by
 obtain⟨JM,an⟩:=an;have ar:(eqGuard op t x y (.int k a) (.int k b)).run P w=.ok () w:=by cases op<;>simp[eqGuard]
 have fin:∀v,(binOp op t (.int k a) (.int k b)).run P w=.ok v w->isAtom v=true->some (cF.val v H)=some r->na P B w0 call aL μ H w (execOp (c' tmps) o) r:=by
  intro v ap aW ax;injection ax with ax;subst ax
  refine .inl ⟨v,w,μ,?_,h,Step.refl _ _,.atom _ aW⟩;simp[execOp,an,I,ah,ar,ap]
 cases op with
 |add=>simp only[mu,sg,CA,oQ] at he;exact fin _ (by simp[binOp,Op.intArith]) rfl he
 |sub=>simp only[mu,sg,CA,oQ] at he;exact fin _ (by simp[binOp,Op.intArith]) rfl he
 |mul=>simp only[mu,sg,CA,oQ] at he;exact fin _ (by simp[binOp,Op.intArith]) rfl he
 |eql=>simp only[mu,xU,BK] at he;exact fin _ (by simp[binOp,Op.intCmp]) rfl he
 |neq=>simp only[mu,xU,BK] at he;exact fin _ (by simp[binOp,Op.intCmp,bne]) rfl he
 |lss=>simp only[mu,xU,BL] at he;exact fin _ (by simp[binOp,Op.intCmp]) rfl he
 |leq=>simp only[mu,xU,BL] at he;exact fin _ (by simp[binOp,Op.intCmp];rw[<-decide_not];exact decide_eq_decide.2 (by omega)) rfl he
 |gtr=>simp only[mu,xU,BL] at he;exact fin _ (by simp[binOp,Op.intCmp]) rfl he
 |geq=>simp only[mu,xU,BL] at he;exact fin _ (by simp[binOp,Op.intCmp];rw[<-decide_not];exact decide_eq_decide.2 (by omega)) rfl he
 |_=>exact BD he
end
end
end Go.Cre
namespace Go.Cre
noncomputable section
open Go.RowKit
section
variable {P:Program}{B:Nat->Prop}{w0 w:World}{μ:bH}{H H':ao}{n:Nat}{tmps:Array Value}
variable {call:eS}{aL:gU}{o:Oper}{S:aQ}
theorem bj.A5{fn:Fn}{a b:Array Value}{v:Value}(h:bj μ (.func fn a b) v):
 (∃bA b',v=.func fn bA b'/\vT fn=true/\bN μ a.toList bA.toList/\bN μ b.toList b'.toList)\/(∃l L,fn=.yield l/\μ l=some L/\a=#[]/\b=#[]/\v=.func (.yield L.r) #[] #[]):=by
 cases h with
 |atom _ q=>simp[isAtom] at q
 |func fn a b bA b' ah aW ai H9 Bz=>
  exact .inl ⟨bA,b',rfl,ah,⟨by simpa using aW,fun i v v' x y=>H9 i v v' (by simpa using x) (by simpa using y)⟩,⟨by simpa using ai,fun i v v' x y=>Bz i v v' (by simpa using x) (by simpa using y)⟩⟩
 |yield l L bB=>exact .inr ⟨l,L,rfl,bB,rfl,rfl,rfl⟩
theorem Hl{recv recv':Value}{name:String}{rest v8:List Value}{f:FuncId}{bJ:List Value}(ax:bj μ recv recv')(ay:bN μ rest v8)(he:tC P H recv name rest=some (f,bJ)):
 ∃ih,(callMethod recv' name v8.toArray).run P w=(callFunc f ih.toArray).run P w/\bN μ bJ ih:=by
 unfold tC at he;cases recv with
 |iface t v=>
  obtain⟨v',rfl,ap⟩:=ax.vI;simp only at he;cases ak:P.info? t with
  |none=>rw[ak] at he;simp at he
  |some i=>
   rw[ak] at he;simp only at he;cases hm:i.methods.find? (·.name==name) with
   |none=>rw[hm] at he;simp at he
   |some m=>
    rw[hm] at he;simp only at he;cases au:m.path.isEmpty with
    |false=>rw[au] at he;simp at he
    |true=>
     rw[au] at he;simp only[lK,dN] at he;have adT:m.path=#[]:=by simpa using au
     cases aw:m.func with
     |none=>rw[aw] at he;simp at he
     |some q=>
      obtain⟨g,sR⟩:=q;rw[aw] at he;simp only at he;have key:∀jj,(∀Fx,(receiverAt t (.val v') sR Fx).run P w=.ok jj w)->f=g->(callMethod (.iface t v') name v8.toArray).run P w=(callFunc f (jj::v8).toArray).run P w:=by
       intro jj EZ adf;subst adf;have adJ:(method (P.types.size+Made.depth) t v' name).run P w=.ok (f,jj) w:=by
        have:P.types.size+Made.depth=(P.types.size+99)+1:=rfl;rw[this];generalize P.types.size+99=k;simp[method,typeInfo,ak,hm,adT,follow,aw,EZ]
       simp[callMethod,adJ]
      cases hu:P.underlying t with
      |none=>rw[hu] at he;simp at he
      |some d=>
       rw[hu] at he;cases d with
       |pointer elem=>
        cases sR with
        |true=>
         simp only[b6,da] at he;obtain⟨rfl,rfl⟩:=he;exact⟨v'::v8,key v' (fun Fx=>by simp[receiverAt,eP hu,Place.get]) rfl,bN.cons ap ay⟩
        |false=>simp at he
       |_=>
        cases sR with
        |true=>simp at he
        |false=>
         simp only[b6,da] at he;obtain⟨rfl,rfl⟩:=he;exact⟨v'::v8,key v' (fun Fx=>by simp[receiverAt,eP hu,Place.get]) rfl,bN.cons ap ay⟩
 |_=>simp at he
theorem K'{fn:Fn}{args cD cap dY:List Value}{f:FuncId}{bJ:List Value}(aW:bN μ args cD)(av:bN μ cap dY)(he:mj P H fn args cap=some (f,bJ)):
 ∃ih,(invoke (.fn fn dY.toArray) cD.toArray).run P w=(callFunc f ih.toArray).run P w/\bN μ bJ ih:=by
 unfold mj at he;cases fn with
 |func g=>
  simp only[b6,da] at he;obtain⟨rfl,rfl⟩:=he;refine⟨cD++dY,?_,aW.append av⟩;simp[invoke]
 |method name=>
  cases args with
  |nil=>simp at he
  |cons r rest=>
   obtain⟨b7,v8,rfl,aa,ab⟩:=aW.iN;obtain⟨ih,a,b⟩:=Hl (w:=w) aa ab he;refine⟨ih,?_,b⟩;rw[<-a];simp[invoke]
 |methodOf t name=>
  cases args with
  |nil=>simp at he
  |cons r rest=>
   obtain⟨b7,v8,rfl,aa,ab⟩:=aW.iN;simp only at he;cases hu:P.underlying t with
   |none=>rw[hu] at he;simp at he
   |some d=>
    rw[hu] at he;by_cases aS:∃Fq,d=.interface Fq
    ·obtain⟨Fq,rfl⟩:=aS;obtain⟨ih,a,b⟩:=Hl (w:=w) aa ab he;refine⟨ih,?_,b⟩;rw[<-a];simp[invoke,eP hu]
    ·have ph:tC P H (.iface t r) name rest=some (f,bJ):=by
      cases d<;>first|exact he|exact absurd ⟨_,rfl⟩ aS
     obtain⟨ih,a,b⟩:=Hl (w:=w) (.iface t r b7 aa) ab ph;refine⟨ih,?_,b⟩;rw[<-a];cases d<;>first|exact absurd ⟨_,rfl⟩ aS|simp[invoke,eP hu]
 |_=>simp at he
theorem RD(h:bR P B w0 μ H w)(aN:jK μ S.T n tmps){c:Call}{r:cF}(av:o.op=.call c)(zt:∀b,c.callee≠.builtin b)(he:nh P call aL S.T H c=some r):na P B w0 call aL μ H w (execOp (c' tmps) o) r:=by
 unfold nh at he;have q8:∀args,fQ S.T H c.args.toList=some args->bN μ args (c.args.map (c' tmps)).toList:=fun args q=>by
  have:=FG h aN q;simpa using this
 have fin:∀f bJ ih,(execOp (c' tmps) o).run P w=(callFunc f ih.toArray).run P w->bN μ bJ ih->q3 (call f bJ H)=some r->na P B w0 call aL μ H w (execOp (c' tmps) o) r:=by
  intro f bJ ih aa ab aK;cases hP:call f bJ H with
  |none=>rw[hP] at aK;simp[q3] at aK
  |some p=>
   obtain⟨e,H1⟩:=p;rw[hP] at aK;cases e with
   |returned v=>simp[q3] at aK;subst aK;exact .inr (.inl ⟨f,bJ,ih,aa,ab,hP⟩)
   |panicked ca=>simp[q3] at aK;subst aK;exact .inr ⟨f,bJ,ih,aa,ab,hP⟩
   |outgrown=>simp[q3] at aK
 cases aW:fQ S.T H c.args.toList with
 |none=>rw[aW] at he;simp at he
 |some args=>
  rw[aW] at he;simp only at he;have ay:=q8 args aW;cases mm:c.callee with
  |builtin b=>exact absurd mm (zt b)
  |invoke recv name=>
   rw[mm] at he;simp only at he;cases ax:a6 S.T H recv with
   |none=>rw[ax] at he;simp at he
   |some rv=>
    rw[ax] at he;simp only at he;cases hm:tC P H rv name args with
    |none=>rw[hm] at he;simp at he
    |some p=>
     obtain⟨f,bJ⟩:=p;rw[hm] at he;obtain⟨ih,bl,bF⟩:=Hl (w:=w) (sQ h aN ax) ay hm;refine fin f bJ ih ?_ bF he;rw[<-bl];have kP:(#[c' tmps recv]++Array.map (c' tmps) c.args)[0]?=some (c' tmps recv):=by rw[Xn (by simp)];rfl
     have aD:(Array.map (c' tmps) c.args).extract 0 c.args.size=(List.map (c' tmps) c.args.toList).toArray:=by apply qI;simp;exact fZ (by simp)
     simp[execOp,av,resolve,mm,invoke,kP,aD]
  |value Li=>
   rw[mm] at he;simp only at he;cases aw:a6 S.T H Li with
   |none=>rw[aw] at he;simp at he
   |some fv=>
    rw[aw] at he;have ke:=sQ h aN aw;cases fv with
    |func fn first captured=>
     rcases ke.A5 with⟨bA,b',ap,sA,aa,ab⟩|⟨l,L,rfl,bB,rfl,rfl,ap⟩
     ·have ph:(match mj P H fn (first.toList++args) captured.toList with|some (f,bJ)=>q3 (call f bJ H)|none=>none)=some r:=by
       cases fn<;>first|exact he|(simp[vT] at sA)
      cases hm:mj P H fn (first.toList++args) captured.toList with
      |none=>rw[hm] at ph;simp at ph
      |some p=>
       obtain⟨f,bJ⟩:=p;rw[hm] at ph;obtain⟨ih,bl,bF⟩:=K' (w:=w) (aa.append ay) ab hm;refine fin f bJ ih ?_ bF ph;rw[<-bl];have aD:(bA.toList++(c.args.map (c' tmps)).toList).toArray=bA++c.args.map (c' tmps):=by apply qI;simp
       have a5:b'.toList.toArray=b':=by simp
       rw[aD,a5];simp[execOp,av,resolve,mm,Deferred.ofValue,ap]
     ·simp only[Array.isEmpty_empty,wm,cc] at he;cases ah:aL l args H with
      |none=>rw[ah] at he;simp[CE] at he
      |some p=>
       obtain⟨e,H1⟩:=p;rw[ah] at he;cases e with
       |returned v=>
        simp[CE] at he;subst he;refine .inr (.inr ⟨l,L,args,(c.args.map (c' tmps)).toList,bB,?_,ay,ah⟩);have aD:(List.map (c' tmps) c.args.toList).toArray=c.args.map (c' tmps):=by apply qI;simp
        simp[execOp,av,resolve,mm,Deferred.ofValue,ap,invoke,aD]
       |panicked ca=>simp[CE] at he
       |outgrown=>simp[CE] at he
    |_=>simp at he
end
end
end Go.Cre
namespace Go.Cre
noncomputable section
open Go.RowKit
section
variable {P:Program}{B:Nat->Prop}{w0 w:World}{μ:bH}{H H':ao}{n:Nat}{tmps:Array Value}
variable {call:eS}{aL:gU}{o:Oper}{S:aQ}
theorem ae'{α:Type}{l:List α}(h:isNil l=true):l=[]:=by
 cases l with
 |nil=>rfl
 |cons a l=>cases h
theorem ZQ{α:Type}(k:Nat)(l:List α):u' (k+1) l=Option.rec (motive:=fun _=>Option (List α)) none (u' k) (u' k l):=rfl
theorem ZP{α:Type}:∀{k:Nat} {l r:List α},u' k l=some r->l.length=2 ^ k+r.length:=by
 intro k;induction k with
 |zero=>
  intro l r h;cases l with
  |nil=>cases h
  |cons v l=>
   have h:some l=some r:=h;injection h with h;subst h;simp;omega
 |succ k aG=>
  intro l r h;rw[ZQ] at h;cases aa:u' k l with
  |none=>rw[aa] at h;cases h
  |some m=>
   rw[aa] at h;have h:u' k m=some r:=h;have aD:=aG aa;have a5:=aG h;rw[PZ];omega
theorem ZV{α:Type}(k n:Nat)(l:List α):yM (k+1) n l=Option.rec (motive:=fun _=>Option Nat) (yM k n l) (fun r=>yM k (Nat.add n (Nat.pow 2 k)) r) (u' k l):=rfl
theorem Rj{α:Type}:∀{k n m:Nat} {l:List α},yM k n l=some m->m=n+l.length:=by
 intro k;induction k with
 |zero=>
  intro n m l h;have h:Bool.rec (motive:=fun _=>Option Nat) none (some n) (isNil l)=some m:=h;cases aM:isNil l with
  |false=>rw[aM] at h;cases h
  |true=>rw[aM] at h;injection h with h;rw[ae' aM];simp[h]
 |succ k aG=>
  intro n m l h;rw[ZV] at h;cases aa:u' k l with
  |none=>rw[aa] at h;exact aG h
  |some r=>
   rw[aa] at h;have h:yM k (n+2 ^ k) r=some m:=h;have aD:=ZP aa;have a5:=aG h;omega
theorem Ud{α:Type}{l:List α}{n:Nat}(h:zE l=some n):n=l.length:=by
 unfold zE at h;cases ai:isNil (nI 256 l) with
 |true=>rw[ai,cc] at h;injection h with h;exact h.symm
 |false=>
  rw[ai,dN] at h;split at h
  ·rename_i m hm;injection h with h;subst h
   have:=Rj hm;omega
  ·split at h
   ·rename_i m hm;injection h with h;subst h
    have:=Rj hm;omega
   ·injection h with h;exact h.symm
theorem UU(h:bR P B w0 μ H w){T:aX Value}(aN:jK μ T n tmps){x:Option Operand}{v:Option Value}(he:h7 T H x=some v):C2 μ v (x.map (c' tmps)):=by
 cases x with
 |none=>simp[h7] at he;subst he;trivial
 |some x=>
  simp only[h7] at he;cases I:a6 T H x with
  |none=>rw[I] at he;simp at he
  |some u=>rw[I] at he;simp at he;subst he;exact sQ h aN I
theorem aaD(h:bR P B w0 μ H w)(aN:jK μ S.T n tmps){c:Call}{b:Builtin}{r:cF}(av:o.op=.call c)(ai:c.callee=.builtin b)(he:q4 P S H o b c=some r):na P B w0 call aL μ H w (execOp (c' tmps) o) r:=by
 have M0:∀cs b,o.op≠.select cs b:=fun cs b q=>by rw[av] at q;cases q
 have rl:gH P S.T H o=some r->na P B w0 call aL μ H w (execOp (c' tmps) o) r:=DQ h aN M0;obtain⟨cs,hex⟩:∃cs,execOp (c' tmps) o=builtin b c.argTypes o.type cs (c.args.map (c' tmps)):=⟨_,by simp[execOp,av,resolve,ai,invoke];rfl⟩;unfold q4 at he;cases aW:fQ S.T H c.args.toList with
 |none=>rw[aW] at he;simp at he
 |some args=>
  rw[aW] at he;have ay:bN μ args (c.args.map (c' tmps)).toList:=by have:=FG h aN aW;simpa using this
  simp only at he;have tP:∀l,(c.args.map (c' tmps)).toList=l->c.args.map (c' tmps)=l.toArray:=fun l q=>by rw[<-q]
  have xw:∀l,c.argTypes.toList=l->c.argTypes=l.toArray:=fun l q=>by rw[<-q]
  split at he
  ·--len of a slice
   rename_i a m gM t iq;split at he
   ·rename_i e hu;injection he with he;subst he
    obtain⟨v',l',aD,aa,ab⟩:=ay.iN;have:=ab.kA;subst this;refine .inl ⟨.int .i64 m,w,μ,?_,h,Step.refl _ _,.atom _ rfl⟩;rw[hex,tP _ aD,xw _ iq];cases a with
    |none=>rw[aa.rO];simp[builtin,Builtin.len_,eP hu,goInt]
    |some a=>obtain⟨_,_,rfl⟩:=aa.x4;simp[builtin,Builtin.len_,eP hu,goInt]
   ·cases he
  ·--len of a map
   rename_i cw t iq;split at he
   ·rename_i k e hu;split at he
    ·rename_i es clock hm;injection he with he;subst he
     obtain⟨v',l',aD,aa,ab⟩:=ay.iN;have:=ab.kA;subst this;obtain⟨L,bB,rfl⟩:=aa.Fm;obtain⟨hG,G8,b4,bX⟩:=h.map bB hm;have EB:(getObj L.r).run P w=.ok (.map hG G8) w:=by simp[getObj,Sem.run,b4]
     have hlen:hG.size=es.length:=by have:=bX.length;simp at this;omega
     refine .inl ⟨.int .i64 es.length,w,μ,?_,h,Step.refl _ _,.atom _ rfl⟩;rw[hex,tP _ aD,xw _ iq];simp[builtin,Builtin.len_,eP hu,goInt,EB,hlen]
    ·cases he
   ·cases he
  ·--len of a string
   rename_i s t iq;split at he
   ·rename_i hu;have he:some (cF.val (.int .i64 s.data.toList.length) H)=some r:=by
     cases hle:zE s.data.toList with
     |none=>rw[hle] at he;cases he
     |some n=>
      rw[hle] at he;simp only at he;rw[sg] at he;rw[<-Ud hle];exact he
    injection he with he;subst he
    obtain⟨v',l',aD,aa,ab⟩:=ay.iN;have:=ab.kA;subst this;have gK:(Builtin.len_ #[t] o.type #[.string s]).run P w=.ok (goInt s.size) w:=by simp[Builtin.len_,eP hu]
    refine .inl ⟨goInt s.size,w,μ,?_,h,Step.refl _ _,.atom _ rfl⟩;rw[hex,tP _ aD,xw _ iq,aa.FZ];simp[builtin,gK]
   ·cases he
  ·--append
   rename_i s x fN hq iq;split at he
   ·cases he
   ·rename_i d aS hu;obtain⟨v',l',aD,aa,ab⟩:=ay.iN;obtain⟨F5,IB,rfl,aK,bh⟩:=ab.iN;have:=bh.kA;subst this;have:=v3 (call:=call) (aL:=aL) (s:=Builtin.append_ #[fN,hq] o.type #[v',F5]) (fun v H' q=>aaz h aa aK hu (fun k q=>aS k q) q) he;rw[hex,tP _ aD,xw _ iq];exact this
   ·cases he
  ·--cap
   rename_i a m gM t iq;split at he
   ·rename_i e hu;cases dU:Nat.beq gM cR with
    |true=>rw[dU] at he;cases he
    |false=>
     rw[dU,dN] at he;injection he with he;subst he
     obtain⟨v',l',aD,aa,ab⟩:=ay.iN;have:=ab.kA;subst this;have dR:gM≠cR:=fun q=>by rw[q,hX] at dU;cases dU
     obtain⟨bA,rfl⟩:=aa.ajb dR;refine .inl ⟨.int .i64 gM,w,μ,?_,h,Step.refl _ _,.atom _ rfl⟩;rw[hex,tP _ aD,xw _ iq];simp[builtin,Builtin.cap_,eP hu,goInt]
   ·cases he
  ·--sZ aoZ data
   rename_i a m gM;cases dU:(Nat.beq gM cR&&Nat.beq m 0) with
   |true=>rw[dU] at he;cases he
   |false=>
    rw[dU,dN] at he;cases k8:Nat.beq gM 0 with
    |true=>rw[k8] at he;cases he
    |false=>
     rw[k8,dN] at he;injection he with he;subst he
     obtain⟨v',l',aD,aa,ab⟩:=ay.iN;have:=ab.kA;subst this;have k8:gM≠0:=fun q=>by rw[q] at k8;cases k8
     obtain⟨id,off,L,ga,dY,rfl,bB,rfl,an,_,st⟩:=aa.uz (.inr (.inr (by omega)));have hm:gM=cR->m≠0:=fun q dt=>by subst q;subst dt;rw[hX] at dU;cases dU
     have pf:dY≠0/\ga=off:=by
      rcases st with⟨_,rfl,rfl⟩|⟨q,aR,rfl,_⟩|⟨q,aR,_⟩
      ·exact⟨k8,rfl⟩
      ·exact⟨by have:=hm q;omega,rfl⟩
      ·exact absurd aR (hm q)
     obtain⟨pf,rfl⟩:=pf;refine .inl ⟨.pointer (some ⟨L.r,ga,none⟩),w,μ,?_,h,Step.refl _ _,.ptr id ga L bB⟩;have gK:(Builtin.unsafeSliceData_ c.argTypes o.type #[.slice (some ⟨L.r,ga,none⟩) m dY]).run P w=.ok (.pointer (some ⟨L.r,ga,none⟩)) w:=by
      show((if dY≠0 then pure _ else _:Sem Value)).run P w=_;rw[aF pf];rfl
     rw[hex,tP _ aD];simp[builtin,gK]
  ·--a string over bytes
   rename_i p m rL it iq;obtain⟨v',l',aD,aa,ab⟩:=ay.iN;obtain⟨F5,IB,rfl,aK,bh⟩:=ab.iN;have:=bh.kA;subst this;have:=v3 (call:=call) (aL:=aL) (s:=Builtin.unsafeString_ #[rL,it] o.type #[v',F5]) (fun v H' q=>by
    obtain⟨bl,bF,bO,b3,c2,cX⟩:=aa6 h aa aK q;exact⟨bl,bF,μ,bO,b3,c2,cX⟩) he
   rw[hex,tP _ aD,xw _ iq];exact this
  ·--copy
   rename_i d s qC fN iq;obtain⟨v',l',aD,aa,ab⟩:=ay.iN;obtain⟨F5,IB,rfl,aK,bh⟩:=ab.iN;have:=bh.kA;subst this;have:=v3 (call:=call) (aL:=aL) (s:=Builtin.copy_ #[qC,fN] o.type #[v',F5]) (fun v H' q=>by
    obtain⟨bl,bF,bO,b3,c2,cX⟩:=aaG h aa aK q;exact⟨bl,bF,μ,bO,b3,c2,cX⟩) he
   rw[hex,tP _ aD,xw _ iq];exact this
  ·--clear
   rename_i x t iq;obtain⟨v',l',aD,aa,ab⟩:=ay.iN;have:=ab.kA;subst this;have:=v3 (call:=call) (aL:=aL) (s:=Builtin.clear_ #[t] o.type #[v']) (fun v H' q=>by
    obtain⟨bl,bF,bO,b3,c2,cX⟩:=aaE h aa q;exact⟨bl,bF,μ,bO,b3,c2,cX⟩) he
   rw[hex,tP _ aD,xw _ iq];exact this
  ·--panic
   rename_i t v;injection he with he;subst he
   obtain⟨v',l',aD,aa,ab⟩:=ay.iN;have:=ab.kA;subst this;obtain⟨dD,rfl,I⟩:=aa.vI;refine .inl ⟨.iface t v,.iface t dD,rfl,rfl,?_,.iface t v dD I⟩;rw[hex,tP _ aD];simp[builtin,Instr.panic,goPanic,Sem.run]
  ·--recover
   have aD:=ay.kA;have gK:(execOp (c' tmps) o).run P w=.ok .recover w:=by rw[hex];simp[builtin]
   injection he with he;subst he
   exact gK
  ·exact rl he
theorem aaH(h:bR P B w0 μ H w)(aN:jK μ S.T n tmps){c:Call}{r:cF}(av:o.op=.defer c)(he:Hj P S.T H c=some r):na P B w0 call aL μ H w (execOp (c' tmps) o) r:=by
 unfold Hj at he;cases aW:fQ S.T H c.args.toList with
 |none=>rw[aW] at he;simp at he
 |some args=>
  rw[aW] at he;simp only at he;have ay:bN μ args (c.args.map (c' tmps)).toList:=by have:=FG h aN aW;simpa using this
  cases mm:c.callee with
  |builtin b=>rw[mm] at he;simp at he
  |invoke recv name=>
   rw[mm] at he;simp only at he;cases ax:a6 S.T H recv with
   |none=>rw[ax] at he;simp at he
   |some rv=>
    rw[ax] at he;simp only[b6] at he;subst he;refine⟨.method name,#[],#[],rv::args,c' tmps recv::(c.args.map (c' tmps)).toList,rfl,?_,rfl,bN.nil _,bN.cons (sQ h aN ax) ay⟩;have aD:(c' tmps recv::(c.args.map (c' tmps)).toList).toArray=#[c' tmps recv]++c.args.map (c' tmps):=by apply qI;simp
    rw[aD];simp[execOp,av,resolve,mm]
  |value Li=>
   rw[mm] at he;simp only at he;cases aw:a6 S.T H Li with
   |none=>rw[aw] at he;simp at he
   |some fv=>
    rw[aw] at he;have ke:=sQ h aN aw;cases fv with
    |func fn first captured=>
     simp only at he;cases sA:vT fn with
     |false=>rw[sA] at he;simp at he
     |true=>
     rw[sA] at he;simp only[cc,b6] at he;subst he;rcases ke.A5 with⟨bA,b',ap,_,aa,ab⟩|⟨l,L,rfl,bB,rfl,rfl,ap⟩
     ·refine⟨fn,captured,b',first.toList++args,bA.toList++(c.args.map (c' tmps)).toList,rfl,?_,sA,ab,aa.append ay⟩;have aD:(bA.toList++(c.args.map (c' tmps)).toList).toArray=bA++c.args.map (c' tmps):=by apply qI;simp
      rw[aD];simp[execOp,av,resolve,mm,Deferred.ofValue,ap]
     ·simp[vT] at sA
    |_=>simp at he
end
end
end Go.Cre
