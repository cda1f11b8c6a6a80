/- A part of the proof of TableMetric. -/
import Derived.Test.YtmmfodofkbmfnaaGreatDoorCai
import Derived.Laws.BitsLemmas
set_option linter.unusedVariables false
set_option linter.unusedSimpArgs false
namespace Go.Cre
noncomputable section
open Go.RowKit
section
variable {P:Program}{B:Nat->Prop}{w0 w:World}{μ:bm}{H H':ah}{n:Nat}{tmps:Array Value}
variable {call:dI}{az:ff}{o:Oper}{S:aO}
theorem n'{α:Type}(n:Int)(k:Int->α):mv n k=k n:=by
 cases n with
 |ofNat m=>cases m<;>rfl
 |negSucc m=>cases m<;>rfl
theorem xg(k:IntKind)(n:Int):sY k n=k.wrap n:=by
 unfold sY;cases n with
 |ofNat m=>
  simp only
  cases af:Nat.blt m (oD k) with
  |false=>rfl
  |true=>
   have af:m<oD k:=fV af;simp only[bH];cases k<;>simp only[oD] at af<;>simp[IntKind.wrap,IntKind.bits,IntKind.signed]<;>omega
 |negSucc m=>
  simp only
  cases af:(k.signed&&Nat.blt m (oD k)) with
  |false=>rfl
  |true=>
   simp only[eT] at af;have ag:=af.1;have af:m<oD k:=fV af.2;simp only[bH];cases k with
   |i64=>simp only[oD] at af;rw[IntKind.wrap_i64,Int.negSucc_eq];omega
   |i32=>simp only[oD] at af;rw[IntKind.wrap_i32,Int.negSucc_eq];omega
   |i8=>simp[oD] at af
   |i16=>simp[oD] at af
   |_=>cases ag
theorem wy(a b:Int):lX a b=decide (a<b):=by
 cases a with
 |ofNat a=>cases b with
  |ofNat b=>
   simp only[lX];have:Nat.blt a b=decide (a<b):=by
    by_cases h:a<b
    ·rw[hv h];exact jx h
    ·rw[gd h];cases q:Nat.blt a b
     ·rfl
     ·exact absurd (fV q) h
   rw[this];simp
  |negSucc b=>simp[lX];omega
 |negSucc a=>cases b with
  |ofNat b=>simp[lX];omega
  |negSucc b=>
   simp only[lX];by_cases h:b<a
   ·have:Nat.blt b a=true:=jx h;rw[this,eq_comm,A2];omega
   ·have:Nat.blt b a=false:=by
     cases q:Nat.blt b a
     ·rfl
     ·exact absurd (fV q) h
    rw[this,eq_comm,decide_eq_false_iff_not];omega
theorem wx(a b:Int):lW a b=(a==b):=by
 rw[mb,beq_iff_eq];cases a with
 |ofNat a=>cases b with
  |ofNat b=>simp only[lW];constructor
            ·intro h;rw[dB h]
            ·intro h;injection h with h;rw[h];exact ga b
  |negSucc b=>simp[lW]
 |negSucc a=>cases b with
  |ofNat b=>simp[lW]
  |negSucc b=>simp only[lW];constructor
              ·intro h;rw[dB h]
              ·intro h;injection h with h;rw[h];exact ga b
theorem Ln{a b:IntKind}(h:kr a b=true):a=b:=by cases a<;>cases b<;>first|rfl|cases h
theorem sQ(H:ah)(b:Bool):rf H b=some (.val (.bool b) H):=by cases b<;>rfl
theorem U7(h:bz P B w0 μ H w){k:IntKind}{a b:Int}{sS:Option b9}{op:BinOp}{t:TypeId}{x y:Operand}{r:b9}(j:cB tmps x=.int k a)(aC:cB tmps y=.int k b)(ae:∃CX,o.op=.binOp op t x y CX)
 (wj:sS=some r->kg P B w0 call az μ H w (execOp (cB tmps) o) r)(he:h1 H k a b sS op=some r):kg P B w0 call az μ H w (execOp (cB tmps) o) r:=by
 obtain⟨CX,ae⟩:=ae;have ar:(eqGuard op t x y (.int k a) (.int k b)).run P w=.ok () w:=by cases op<;>simp[eqGuard]
 have fin:∀v,(binOp op t (.int k a) (.int k b)).run P w=.ok v w->isAtom v=true->some (b9.val v H)=some r->kg P B w0 call az μ H w (execOp (cB tmps) o) r:=by
  intro v aD aK ap;injection ap with ap;subst ap
  refine .inl ⟨v,w,μ,?_,h,Step.refl _ _,.atom _ aK⟩;simp[execOp,ae,j,aC,ar,aD]
 cases op with
 |add=>simp only[h1,n',xg,ln] at he;exact fin _ (by simp[binOp,Op.intArith]) rfl he
 |sub=>simp only[h1,n',xg,ln] at he;exact fin _ (by simp[binOp,Op.intArith]) rfl he
 |mul=>simp only[h1,n',xg,ln] at he;exact fin _ (by simp[binOp,Op.intArith]) rfl he
 |eql=>simp only[h1,sQ,wx] at he;exact fin _ (by simp[binOp,Op.intCmp]) rfl he
 |neq=>simp only[h1,sQ,wx] at he;exact fin _ (by simp[binOp,Op.intCmp,bne]) rfl he
 |lss=>simp only[h1,sQ,wy] at he;exact fin _ (by simp[binOp,Op.intCmp]) rfl he
 |leq=>simp only[h1,sQ,wy] at he;exact fin _ (by simp[binOp,Op.intCmp];rw[<-decide_not];exact mo.2 (by omega)) rfl he
 |gtr=>simp only[h1,sQ,wy] at he;exact fin _ (by simp[binOp,Op.intCmp]) rfl he
 |geq=>simp only[h1,sQ,wy] at he;exact fin _ (by simp[binOp,Op.intCmp];rw[<-decide_not];exact mo.2 (by omega)) rfl he
 |_=>exact wj he
end
end
end Go.Cre
namespace Go.Cre
noncomputable section
open Go.RowKit
section
variable {P:Program}{B:Nat->Prop}{w0 w:World}{μ:bm}{H H':ah}{n:Nat}{tmps:Array Value}
variable {call:dI}{az:ff}{o:Oper}{S:aO}
theorem a3.vH{fn:Fn}{a b:Array Value}{v:Value}(h:a3 μ (.func fn a b) v):
 (∃bA b',v=.func fn bA b'/\q4 fn=true/\bp μ a.toList bA.toList/\bp μ b.toList b'.toList)\/(∃l L,fn=.yield l/\μ l=some L/\a=#[]/\b=#[]/\v=.func (.yield L.r) #[] #[]):=by
 cases h with
 |atom _ q=>simp[isAtom] at q
 |func fn a b bA b' aC aK af BG BH=>
  exact .inl ⟨bA,b',rfl,aC,⟨by simpa using aK,fun i v v' x y=>BG i v v' (by simpa using x) (by simpa using y)⟩,⟨by simpa using af,fun i v v' x y=>BH i v v' (by simpa using x) (by simpa using y)⟩⟩
 |yield l L bD=>exact .inr ⟨l,L,rfl,bD,rfl,rfl,rfl⟩
theorem A7{recv recv':Value}{name:String}{rest re:List Value}{f:FuncId}{ca:List Value}(ap:a3 μ recv recv')(aw:bp μ rest re)(he:r0 P H recv name rest=some (f,ca)):
 ∃hq,(callMethod recv' name re.toArray).run P w=(callFunc f hq.toArray).run P w/\bp μ ca hq:=by
 unfold r0 at he;cases recv with
 |iface t v=>
  obtain⟨v',rfl,aD⟩:=ap.qV;simp only at he;cases aq:P.info? t with
  |none=>rw[aq] at he;simp at he
  |some i=>
   rw[aq] at he;simp only at he;cases hm:i.methods.find? (·.name==name) with
   |none=>rw[hm] at he;simp at he
   |some m=>
    rw[hm] at he;simp only at he;cases ao:m.path.isEmpty with
    |false=>rw[ao] at he;simp at he
    |true=>
     rw[ao] at he;simp only[kB,cZ] at he;have Ua:m.path=#[]:=by simpa using ao
     cases ay:m.func with
     |none=>rw[ay] at he;simp at he
     |some q=>
      obtain⟨g,uH⟩:=q;rw[ay] at he;simp only at he;have key:∀gv,(∀zy,(receiverAt t (.val v') uH zy).run P w=.ok gv w)->f=g->(callMethod (.iface t v') name re.toArray).run P w=(callFunc f (gv::re).toArray).run P w:=by
       intro gv y3 TI;subst TI;have T1:(method (P.types.size+Made.depth) t v' name).run P w=.ok (f,gv) w:=by
        have:P.types.size+Made.depth=(P.types.size+99)+1:=rfl;rw[this];generalize P.types.size+99=k;simp[method,typeInfo,aq,hm,Ua,follow,ay,y3]
       simp[callMethod,T1]
      cases hu:P.underlying t with
      |none=>rw[hu] at he;simp at he
      |some d=>
       rw[hu] at he;cases d with
       |pointer elem=>
        cases uH with
        |true=>
         simp only[bL,cU] at he;obtain⟨rfl,rfl⟩:=he;exact⟨v'::re,key v' (fun zy=>by simp[receiverAt,dH hu,Place.get]) rfl,bp.cons aD aw⟩
        |false=>simp at he
       |_=>
        cases uH with
        |true=>simp at he
        |false=>
         simp only[bL,cU] at he;obtain⟨rfl,rfl⟩:=he;exact⟨v'::re,key v' (fun zy=>by simp[receiverAt,dH hu,Place.get]) rfl,bp.cons aD aw⟩
 |_=>simp at he
theorem D3{fn:Fn}{args bJ cap c':List Value}{f:FuncId}{ca:List Value}(aK:bp μ args bJ)(aF:bp μ cap c')(he:ji P H fn args cap=some (f,ca)):
 ∃hq,(invoke (.fn fn c'.toArray) bJ.toArray).run P w=(callFunc f hq.toArray).run P w/\bp μ ca hq:=by
 unfold ji at he;cases fn with
 |func g=>
  simp only[bL,cU] at he;obtain⟨rfl,rfl⟩:=he;refine⟨bJ++c',?_,aK.append aF⟩;simp[invoke]
 |method name=>
  cases args with
  |nil=>simp at he
  |cons r rest=>
   obtain⟨cA,re,rfl,U,ab⟩:=aK.g6;obtain⟨hq,a,b⟩:=A7 (w:=w) U ab he;refine⟨hq,?_,b⟩;rw[<-a];simp[invoke]
 |methodOf t name=>
  cases args with
  |nil=>simp at he
  |cons r rest=>
   obtain⟨cA,re,rfl,U,ab⟩:=aK.g6;simp only at he;cases hu:P.underlying t with
   |none=>rw[hu] at he;simp at he
   |some d=>
    rw[hu] at he;by_cases ax:∃B',d=.interface B'
    ·obtain⟨B',rfl⟩:=ax;obtain⟨hq,a,b⟩:=A7 (w:=w) U ab he;refine⟨hq,?_,b⟩;rw[<-a];simp[invoke,dH hu]
    ·have lO:r0 P H (.iface t r) name rest=some (f,ca):=by
      cases d<;>first|exact he|exact absurd ⟨_,rfl⟩ ax
     obtain⟨hq,a,b⟩:=A7 (w:=w) (.iface t r cA U) ab lO;refine⟨hq,?_,b⟩;rw[<-a];cases d<;>first|exact absurd ⟨_,rfl⟩ ax|simp[invoke,dH hu]
 |_=>simp at he
theorem Jq(h:bz P B w0 μ H w)(aG:hI μ S.T n tmps){c:Call}{r:b9}(aF:o.op=.call c)(sf:∀b,c.callee≠.builtin b)(he:ms P call az S.T H c=some r):kg P B w0 call az μ H w (execOp (cB tmps) o) r:=by
 unfold ms at he;have k8:∀args,ev S.T H c.args.toList=some args->bp μ args (c.args.map (cB tmps)).toList:=fun args q=>by
  have:=zL h aG q;simpa using this
 have fin:∀f ca hq,(execOp (cB tmps) o).run P w=(callFunc f hq.toArray).run P w->bp μ ca hq->ng (call f ca H)=some r->kg P B w0 call az μ H w (execOp (cB tmps) o) r:=by
  intro f ca hq U ab aV;cases gG:call f ca H with
  |none=>rw[gG] at aV;simp[ng] at aV
  |some p=>
   obtain⟨e,H1⟩:=p;rw[gG] at aV;cases e with
   |returned v=>simp[ng] at aV;subst aV;exact .inr (.inl ⟨f,ca,hq,U,ab,gG⟩)
   |panicked bT=>simp[ng] at aV;subst aV;exact .inr ⟨f,ca,hq,U,ab,gG⟩
   |outgrown=>simp[ng] at aV
 cases aK:ev S.T H c.args.toList with
 |none=>rw[aK] at he;simp at he
 |some args=>
  rw[aK] at he;simp only at he;have aw:=k8 args aK;cases jG:c.callee with
  |builtin b=>exact absurd jG (sf b)
  |invoke recv name=>
   rw[jG] at he;simp only at he;cases ap:aR S.T H recv with
   |none=>rw[ap] at he;simp at he
   |some GP=>
    rw[ap] at he;simp only at he;cases hm:r0 P H GP name args with
    |none=>rw[hm] at he;simp at he
    |some p=>
     obtain⟨f,ca⟩:=p;rw[hm] at he;obtain⟨hq,bP,bS⟩:=A7 (w:=w) (oM h aG ap) aw hm;refine fin f ca hq ?_ bS he;rw[<-bP];have h7:(#[cB tmps recv]++Array.map (cB tmps) c.args)[0]?=some (cB tmps recv):=by rw[Ot (by simp)];rfl
     have aA:(Array.map (cB tmps) c.args).extract 0 c.args.size=(List.map (cB tmps) c.args.toList).toArray:=by apply mZ;simp;exact jY (by simp)
     simp[execOp,aF,resolve,jG,invoke,h7,aA]
  |value Ec=>
   rw[jG] at he;simp only at he;cases ay:aR S.T H Ec with
   |none=>rw[ay] at he;simp at he
   |some h9=>
    rw[ay] at he;have hY:=oM h aG ay;cases h9 with
    |func fn first captured=>
     rcases hY.vH with⟨bA,b',aD,pA,U,ab⟩|⟨l,L,rfl,bD,rfl,rfl,aD⟩
     ·have lO:(match ji P H fn (first.toList++args) captured.toList with|some (f,ca)=>ng (call f ca H)|none=>none)=some r:=by
       cases fn<;>first|exact he|(simp[q4] at pA)
      cases hm:ji P H fn (first.toList++args) captured.toList with
      |none=>rw[hm] at lO;simp at lO
      |some p=>
       obtain⟨f,ca⟩:=p;rw[hm] at lO;obtain⟨hq,bP,bS⟩:=D3 (w:=w) (U.append aw) ab hm;refine fin f ca hq ?_ bS lO;rw[<-bP];have aA:(bA.toList++(c.args.map (cB tmps)).toList).toArray=bA++c.args.map (cB tmps):=by apply mZ;simp
       have aW:b'.toList.toArray=b':=by simp
       rw[aA,aW];simp[execOp,aF,resolve,jG,Deferred.ofValue,aD]
     ·simp only[Array.isEmpty_empty,u3,bH] at he;cases aC:az l args H with
      |none=>rw[aC] at he;simp[z9] at he
      |some p=>
       obtain⟨e,H1⟩:=p;rw[aC] at he;cases e with
       |returned v=>
        simp[z9] at he;subst he;refine .inr (.inr ⟨l,L,args,(c.args.map (cB tmps)).toList,bD,?_,aw,aC⟩);have aA:(List.map (cB tmps) c.args.toList).toArray=c.args.map (cB tmps):=by apply mZ;simp
        simp[execOp,aF,resolve,jG,Deferred.ofValue,aD,invoke,aA]
       |panicked bT=>simp[z9] at he
       |outgrown=>simp[z9] at he
    |_=>simp at he
end
end
end Go.Cre
namespace Go.Cre
noncomputable section
open Go.RowKit
section
variable {P:Program}{B:Nat->Prop}{w0 w:World}{μ:bm}{H H':ah}{n:Nat}{tmps:Array Value}
variable {call:dI}{az:ff}{o:Oper}{S:aO}
theorem Vd{α:Type}{l:List α}(h:isNil l=true):l=[]:=by
 cases l with
 |nil=>rfl
 |cons a l=>cases h
theorem QH{α:Type}(k:Nat)(l:List α):qv (k+1) l=Option.rec (motive:=fun _=>Option (List α)) none (qv k) (qv k l):=rfl
theorem QG{α:Type}:∀{k:Nat} {l r:List α},qv k l=some r->l.length=2 ^ k+r.length:=by
 intro k;induction k with
 |zero=>
  intro l r h;cases l with
  |nil=>cases h
  |cons v l=>
   have h:some l=some r:=h;injection h with h;subst h;simp;omega
 |succ k aN=>
  intro l r h;rw[QH] at h;cases U:qv k l with
  |none=>rw[U] at h;cases h
  |some m=>
   rw[U] at h;have h:qv k m=some r:=h;have aA:=aN U;have aW:=aN h;rw[m4];omega
theorem QM{α:Type}(k n:Nat)(l:List α):tu (k+1) n l=Option.rec (motive:=fun _=>Option Nat) (tu k n l) (fun r=>tu k (Nat.add n (Nat.pow 2 k)) r) (qv k l):=rfl
theorem I9{α:Type}:∀{k n m:Nat} {l:List α},tu k n l=some m->m=n+l.length:=by
 intro k;induction k with
 |zero=>
  intro n m l h;have h:Bool.rec (motive:=fun _=>Option Nat) none (some n) (isNil l)=some m:=h;cases aE:isNil l with
  |false=>rw[aE] at h;cases h
  |true=>rw[aE] at h;injection h with h;rw[Vd aE];simp[h]
 |succ k aN=>
  intro n m l h;rw[QM] at h;cases U:qv k l with
  |none=>rw[U] at h;exact aN h
  |some r=>
   rw[U] at h;have h:tu k (n+2 ^ k) r=some m:=h;have aA:=QG U;have aW:=aN h;omega
theorem Lx{α:Type}{l:List α}{n:Nat}(h:uq l=some n):n=l.length:=by
 unfold uq at h;cases af:isNil (lJ 256 l) with
 |true=>rw[af,bH] at h;injection h with h;exact h.symm
 |false=>
  rw[af,cZ] at h;split at h
  ·rename_i m hm;injection h with h;subst h
   have:=I9 hm;omega
  ·split at h
   ·rename_i m hm;injection h with h;subst h
    have:=I9 hm;omega
   ·injection h with h;exact h.symm
theorem Mq(h:bz P B w0 μ H w){T:aL Value}(aG:hI μ T n tmps){x:Option Operand}{v:Option Value}(he:gA T H x=some v):xF μ v (x.map (cB tmps)):=by
 cases x with
 |none=>simp[gA] at he;subst he;trivial
 |some x=>
  simp only[gA] at he;cases j:aR T H x with
  |none=>rw[j] at he;simp at he
  |some u=>rw[j] at he;simp at he;subst he;exact oM h aG j
theorem Ru(h:bz P B w0 μ H w)(aG:hI μ S.T n tmps){c:Call}{b:Builtin}{r:b9}(aF:o.op=.call c)(af:c.callee=.builtin b)(he:mr P S H o b c=some r):kg P B w0 call az μ H w (execOp (cB tmps) o) r:=by
 have Fz:∀cs b,o.op≠.select cs b:=fun cs b q=>by rw[aF] at q;cases q
 have nt:ek P S.T H o=some r->kg P B w0 call az μ H w (execOp (cB tmps) o) r:=yd h aG Fz;obtain⟨cs,hex⟩:∃cs,execOp (cB tmps) o=builtin b c.argTypes o.type cs (c.args.map (cB tmps)):=⟨_,by simp[execOp,aF,resolve,af,invoke];rfl⟩;unfold mr at he;cases aK:ev S.T H c.args.toList with
 |none=>rw[aK] at he;simp at he
 |some args=>
  rw[aK] at he;have aw:bp μ args (c.args.map (cB tmps)).toList:=by have:=zL h aG aK;simpa using this
  simp only at he;have pt:∀l,(c.args.map (cB tmps)).toList=l->c.args.map (cB tmps)=l.toArray:=fun l q=>by rw[<-q]
  have sl:∀l,c.argTypes.toList=l->c.argTypes=l.toArray:=fun l q=>by rw[<-q]
  split at he
  ·--len of a slice
   rename_i a m qu t lb;split at he
   ·rename_i e hu;injection he with he;subst he
    obtain⟨v',l',aA,U,ab⟩:=aw.g6;have:=ab.ie;subst this;refine .inl ⟨.int .i64 m,w,μ,?_,h,Step.refl _ _,.atom _ rfl⟩;rw[hex,pt _ aA,sl _ lb];cases a with
    |none=>rw[U.nM];simp[builtin,Builtin.len_,dH hu,goInt]
    |some a=>obtain⟨_,_,rfl⟩:=U.sR;simp[builtin,Builtin.len_,dH hu,goInt]
   ·cases he
  ·--len of a map
   rename_i cD t lb;split at he
   ·rename_i k e hu;split at he
    ·rename_i es clock hm;injection he with he;subst he
     obtain⟨v',l',aA,U,ab⟩:=aw.g6;have:=ab.ie;subst this;obtain⟨L,bD,rfl⟩:=U.zq;obtain⟨j2,AX,b4,b0⟩:=h.map bD hm;have qH:(getObj L.r).run P w=.ok (.map j2 AX) w:=by simp[getObj,Sem.run,b4]
     have hlen:j2.size=es.length:=by have:=b0.length;simp at this;omega
     refine .inl ⟨.int .i64 es.length,w,μ,?_,h,Step.refl _ _,.atom _ rfl⟩;rw[hex,pt _ aA,sl _ lb];simp[builtin,Builtin.len_,dH hu,goInt,qH,hlen]
    ·cases he
   ·cases he
  ·--len of a string
   rename_i s t lb;split at he
   ·rename_i hu;have he:some (b9.val (.int .i64 s.data.toList.length) H)=some r:=by
     cases hle:uq s.data.toList with
     |none=>rw[hle] at he;cases he
     |some n=>
      rw[hle] at he;simp only at he;rw[n'] at he;rw[<-Lx hle];exact he
    injection he with he;subst he
    obtain⟨v',l',aA,U,ab⟩:=aw.g6;have:=ab.ie;subst this;have e4:(Builtin.len_ #[t] o.type #[.string s]).run P w=.ok (goInt s.size) w:=by simp[Builtin.len_,dH hu]
    refine .inl ⟨goInt s.size,w,μ,?_,h,Step.refl _ _,.atom _ rfl⟩;rw[hex,pt _ aA,sl _ lb,U.zT];simp[builtin,e4]
   ·cases he
  ·--append
   rename_i s x ft fK lb;split at he
   ·cases he
   ·rename_i d ax hu;obtain⟨v',l',aA,U,ab⟩:=aw.g6;obtain⟨zZ,B2,rfl,aV,br⟩:=ab.g6;have:=br.ie;subst this;have:=q9 (call:=call) (az:=az) (s:=Builtin.append_ #[ft,fK] o.type #[v',zZ]) (fun v H' q=>Rr h U aV hu (fun k q=>ax k q) q) he;rw[hex,pt _ aA,sl _ lb];exact this
   ·cases he
  ·--cap
   rename_i a m qu t lb;split at he
   ·rename_i e hu;cases dd:Nat.beq qu cf with
    |true=>rw[dd] at he;cases he
    |false=>
     rw[dd,cZ] at he;injection he with he;subst he
     obtain⟨v',l',aA,U,ab⟩:=aw.g6;have:=ab.ie;subst this;have dV:qu≠cf:=fun q=>by rw[q,ga] at dd;cases dd
     obtain⟨bA,rfl⟩:=U.Yt dV;refine .inl ⟨.int .i64 qu,w,μ,?_,h,Step.refl _ _,.atom _ rfl⟩;rw[hex,pt _ aA,sl _ lb];simp[builtin,Builtin.cap_,dH hu,goInt]
   ·cases he
  ·--rk acR data
   rename_i a m qu;cases dd:(Nat.beq qu cf&&Nat.beq m 0) with
   |true=>rw[dd] at he;cases he
   |false=>
    rw[dd,cZ] at he;cases j6:Nat.beq qu 0 with
    |true=>rw[j6] at he;cases he
    |false=>
     rw[j6,cZ] at he;injection he with he;subst he
     obtain⟨v',l',aA,U,ab⟩:=aw.g6;have:=ab.ie;subst this;have j6:qu≠0:=fun q=>by rw[q] at j6;cases j6
     obtain⟨id,off,L,eB,c',rfl,bD,rfl,ae,_,oo⟩:=U.pY (.inr (.inr (by omega)));have hm:qu=cf->m≠0:=fun q cR=>by subst q;subst cR;rw[ga] at dd;cases dd
     have lN:c'≠0/\eB=off:=by
      rcases oo with⟨_,rfl,rfl⟩|⟨q,aP,rfl,_⟩|⟨q,aP,_⟩
      ·exact⟨j6,rfl⟩
      ·exact⟨by have:=hm q;omega,rfl⟩
      ·exact absurd aP (hm q)
     obtain⟨lN,rfl⟩:=lN;refine .inl ⟨.pointer (some ⟨L.r,eB,none⟩),w,μ,?_,h,Step.refl _ _,.ptr id eB L bD⟩;have e4:(Builtin.unsafeSliceData_ c.argTypes o.type #[.slice (some ⟨L.r,eB,none⟩) m c']).run P w=.ok (.pointer (some ⟨L.r,eB,none⟩)) w:=by
      show((if c'≠0 then pure _ else _:Sem Value)).run P w=_;rw[bs lN];rfl
     rw[hex,pt _ aA];simp[builtin,e4]
  ·--a string over bytes
   rename_i p m nI it lb;obtain⟨v',l',aA,U,ab⟩:=aw.g6;obtain⟨zZ,B2,rfl,aV,br⟩:=ab.g6;have:=br.ie;subst this;have:=q9 (call:=call) (az:=az) (s:=Builtin.unsafeString_ #[nI,it] o.type #[v',zZ]) (fun v H' q=>by
    obtain⟨bP,bS,cE,c4,cO,ey⟩:=RW h U aV q;exact⟨bP,bS,μ,cE,c4,cO,ey⟩) he
   rw[hex,pt _ aA,sl _ lb];exact this
  ·--copy
   rename_i d s mX ft lb;obtain⟨v',l',aA,U,ab⟩:=aw.g6;obtain⟨zZ,B2,rfl,aV,br⟩:=ab.g6;have:=br.ie;subst this;have:=q9 (call:=call) (az:=az) (s:=Builtin.copy_ #[mX,ft] o.type #[v',zZ]) (fun v H' q=>by
    obtain⟨bP,bS,cE,c4,cO,ey⟩:=Rx h U aV q;exact⟨bP,bS,μ,cE,c4,cO,ey⟩) he
   rw[hex,pt _ aA,sl _ lb];exact this
  ·--clear
   rename_i x t lb;obtain⟨v',l',aA,U,ab⟩:=aw.g6;have:=ab.ie;subst this;have:=q9 (call:=call) (az:=az) (s:=Builtin.clear_ #[t] o.type #[v']) (fun v H' q=>by
    obtain⟨bP,bS,cE,c4,cO,ey⟩:=Rv h U q;exact⟨bP,bS,μ,cE,c4,cO,ey⟩) he
   rw[hex,pt _ aA,sl _ lb];exact this
  ·--panic
   rename_i t v;injection he with he;subst he
   obtain⟨v',l',aA,U,ab⟩:=aw.g6;have:=ab.ie;subst this;obtain⟨dh,rfl,j⟩:=U.qV;refine .inl ⟨.iface t v,.iface t dh,rfl,rfl,?_,.iface t v dh j⟩;rw[hex,pt _ aA];simp[builtin,Instr.panic,goPanic,Sem.run]
  ·--recover
   have aA:=aw.ie;have e4:(execOp (cB tmps) o).run P w=.ok .recover w:=by rw[hex];simp[builtin]
   injection he with he;subst he
   exact e4
  ·exact nt he
theorem Ry(h:bz P B w0 μ H w)(aG:hI μ S.T n tmps){c:Call}{r:b9}(aF:o.op=.defer c)(he:ya P S.T H c=some r):kg P B w0 call az μ H w (execOp (cB tmps) o) r:=by
 unfold ya at he;cases aK:ev S.T H c.args.toList with
 |none=>rw[aK] at he;simp at he
 |some args=>
  rw[aK] at he;simp only at he;have aw:bp μ args (c.args.map (cB tmps)).toList:=by have:=zL h aG aK;simpa using this
  cases jG:c.callee with
  |builtin b=>rw[jG] at he;simp at he
  |invoke recv name=>
   rw[jG] at he;simp only at he;cases ap:aR S.T H recv with
   |none=>rw[ap] at he;simp at he
   |some GP=>
    rw[ap] at he;simp only[bL] at he;subst he;refine⟨.method name,#[],#[],GP::args,cB tmps recv::(c.args.map (cB tmps)).toList,rfl,?_,rfl,bp.nil _,bp.cons (oM h aG ap) aw⟩;have aA:(cB tmps recv::(c.args.map (cB tmps)).toList).toArray=#[cB tmps recv]++c.args.map (cB tmps):=by apply mZ;simp
    rw[aA];simp[execOp,aF,resolve,jG]
  |value Ec=>
   rw[jG] at he;simp only at he;cases ay:aR S.T H Ec with
   |none=>rw[ay] at he;simp at he
   |some h9=>
    rw[ay] at he;have hY:=oM h aG ay;cases h9 with
    |func fn first captured=>
     simp only at he;cases pA:q4 fn with
     |false=>rw[pA] at he;simp at he
     |true=>
     rw[pA] at he;simp only[bH,bL] at he;subst he;rcases hY.vH with⟨bA,b',aD,_,U,ab⟩|⟨l,L,rfl,bD,rfl,rfl,aD⟩
     ·refine⟨fn,captured,b',first.toList++args,bA.toList++(c.args.map (cB tmps)).toList,rfl,?_,pA,ab,U.append aw⟩;have aA:(bA.toList++(c.args.map (cB tmps)).toList).toArray=bA++c.args.map (cB tmps):=by apply mZ;simp
      rw[aA];simp[execOp,aF,resolve,jG,Deferred.ofValue,aD]
     ·simp[q4] at pA
    |_=>simp at he
end
end
end Go.Cre
