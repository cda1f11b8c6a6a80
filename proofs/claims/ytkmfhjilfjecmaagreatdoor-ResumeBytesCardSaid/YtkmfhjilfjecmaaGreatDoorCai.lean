/- A part of the proof of ResumeBytes. -/
import Derived.Test.YtkmfhjilfjecmaaGreatDoorCah
import Derived.Laws.BitsLemmas
set_option linter.unusedVariables false
set_option linter.unusedSimpArgs false
namespace Go.Cre
noncomputable section
open Go.RowKit
section
variable {P:Program}{B:Nat->Prop}{w0 w:World}{μ:bY}{H H':aA}{n:Nat}{tmps:Array Value}
variable {call:eH}{aR:gR}{o:Oper}{S:bh}
theorem tM{α:Type}(n:Int)(k:Int->α):rp n k=k n:=by
 cases n with
 |ofNat m=>cases m<;>rfl
 |negSucc m=>cases m<;>rfl
theorem Fq(k:IntKind)(n:Int):Ai k n=k.wrap n:=by
 unfold Ai;cases n with
 |ofNat m=>
  simp only
  cases ap:Nat.blt m (ux k) with
  |false=>rfl
  |true=>
   have ap:m<ux k:=hV ap;simp only[b7];cases k<;>simp only[ux] at ap<;>simp[IntKind.wrap,IntKind.bits,IntKind.signed]<;>omega
 |negSucc m=>
  simp only
  cases ap:(k.signed&&Nat.blt m (ux k)) with
  |false=>rfl
  |true=>
   simp only[fS] at ap;have hs:=ap.1;have ap:m<ux k:=hV ap.2;simp only[b7];cases k with
   |i64=>simp only[ux] at ap;rw[IntKind.wrap_i64,Int.negSucc_eq];omega
   |i32=>simp only[ux] at ap;rw[IntKind.wrap_i32,Int.negSucc_eq];omega
   |i8=>simp[ux] at ap
   |i16=>simp[ux] at ap
   |_=>cases hs
theorem ED(a b:Int):qv a b=decide (a<b):=by
 cases a with
 |ofNat a=>cases b with
  |ofNat b=>
   simp only[qv];have:Nat.blt a b=decide (a<b):=by
    by_cases h:a<b
    ·rw[y4 h];exact j8 h
    ·rw[GA h];cases q:Nat.blt a b
     ·rfl
     ·exact absurd (hV q) h
   rw[this];simp
  |negSucc b=>simp[qv];omega
 |negSucc a=>cases b with
  |ofNat b=>simp[qv];omega
  |negSucc b=>
   simp only[qv];by_cases h:b<a
   ·have:Nat.blt b a=true:=j8 h;rw[this,eq_comm,GB];omega
   ·have:Nat.blt b a=false:=by
     cases q:Nat.blt b a
     ·rfl
     ·exact absurd (hV q) h
    rw[this,eq_comm,mz];omega
theorem EC(a b:Int):qu a b=(a==b):=by
 rw[qT,J8];cases a with
 |ofNat a=>cases b with
  |ofNat b=>simp only[qu];constructor
            ·intro h;rw[eO h]
            ·intro h;injection h with h;rw[h];exact hz b
  |negSucc b=>simp[qu]
 |negSucc a=>cases b with
  |ofNat b=>simp[qu]
  |negSucc b=>simp only[qu];constructor
              ·intro h;rw[eO h]
              ·intro h;injection h with h;rw[h];exact hz b
theorem Xp{a b:IntKind}(h:uw a b=true):a=b:=by cases a<;>cases b<;>first|rfl|cases h
theorem zU(H:aA)(b:Bool):yh H b=some (.val (.bool b) H):=by cases b<;>rfl
theorem akq(h:b9 P B w0 μ H w){k:IntKind}{a b:Int}{z7:Option cL}{op:BinOp}{t:TypeId}{x y:Operand}{r:cL}(U:dz tmps x=.int k a)(ai:dz tmps y=.int k b)(ar:∃MI,o.op=.binOp op t x y MI)
 (Ev:z7=some r->nZ P B w0 call aR μ H w (execOp (dz tmps) o) r)(he:nj H k a b z7 op=some r):nZ P B w0 call aR μ H w (execOp (dz tmps) o) r:=by
 obtain⟨MI,ar⟩:=ar;have aq:(eqGuard op t x y (.int k a) (.int k b)).run P w=.ok () w:=by cases op<;>simp[eqGuard]
 have fin:∀v,(binOp op t (.int k a) (.int k b)).run P w=.ok v w->isAtom v=true->some (cL.val v H)=some r->nZ P B w0 call aR μ H w (execOp (dz tmps) o) r:=by
  intro v ay a1 aw;injection aw with aw;subst aw
  refine .inl ⟨v,w,μ,?_,h,Step.refl _ _,.atom _ a1⟩;simp[execOp,ar,U,ai,aq,ay]
 cases op with
 |add=>simp only[nj,tM,Fq,pT] at he;exact fin _ (by simp[binOp,Op.intArith]) rfl he
 |sub=>simp only[nj,tM,Fq,pT] at he;exact fin _ (by simp[binOp,Op.intArith]) rfl he
 |mul=>simp only[nj,tM,Fq,pT] at he;exact fin _ (by simp[binOp,Op.intArith]) rfl he
 |eql=>simp only[nj,zU,EC] at he;exact fin _ (by simp[binOp,Op.intCmp]) rfl he
 |neq=>simp only[nj,zU,EC] at he;exact fin _ (by simp[binOp,Op.intCmp,bne]) rfl he
 |lss=>simp only[nj,zU,ED] at he;exact fin _ (by simp[binOp,Op.intCmp]) rfl he
 |leq=>simp only[nj,zU,ED] at he;exact fin _ (by simp[binOp,Op.intCmp];rw[<-decide_not];exact decide_eq_decide.2 (by omega)) rfl he
 |gtr=>simp only[nj,zU,ED] at he;exact fin _ (by simp[binOp,Op.intCmp]) rfl he
 |geq=>simp only[nj,zU,ED] at he;exact fin _ (by simp[binOp,Op.intCmp];rw[<-decide_not];exact decide_eq_decide.2 (by omega)) rfl he
 |_=>exact Ev he
end
end
end Go.Cre
namespace Go.Cre
noncomputable section
open Go.RowKit
section
variable {P:Program}{B:Nat->Prop}{w0 w:World}{μ:bY}{H H':aA}{n:Nat}{tmps:Array Value}
variable {call:eH}{aR:gR}{o:Oper}{S:bh}
theorem bB.GZ{fn:Fn}{a b:Array Value}{v:Value}(h:bB μ (.func fn a b) v):
 (∃bV b',v=.func fn bV b'/\x9 fn=true/\b0 μ a.toList bV.toList/\b0 μ b.toList b'.toList)\/(∃l L,fn=.yield l/\μ l=some L/\a=#[]/\b=#[]/\v=.func (.yield L.r) #[] #[]):=by
 cases h with
 |atom _ q=>simp[isAtom] at q
 |func fn a b bV b' ai a1 ap vX vY=>
  exact .inl ⟨bV,b',rfl,ai,⟨by simpa using a1,fun i v v' x y=>vX i v v' (by simpa using x) (by simpa using y)⟩,⟨by simpa using ap,fun i v v' x y=>vY i v v' (by simpa using x) (by simpa using y)⟩⟩
 |yield l L bS=>exact .inr ⟨l,L,rfl,bS,rfl,rfl,rfl⟩
theorem Kr{recv recv':Value}{name:String}{rest yg:List Value}{f:FuncId}{bT:List Value}(aw:bB μ recv recv')(av:b0 μ rest yg)(he:y8 P H recv name rest=some (f,bT)):
 ∃jJ,(callMethod recv' name yg.toArray).run P w=(callFunc f jJ.toArray).run P w/\b0 μ bT jJ:=by
 unfold y8 at he;cases recv with
 |iface t v=>
  obtain⟨v',rfl,ay⟩:=aw.xX;simp only at he;cases ao:P.info? t with
  |none=>rw[ao] at he;simp at he
  |some i=>
   rw[ao] at he;simp only at he;cases hm:i.methods.find? (·.name==name) with
   |none=>rw[hm] at he;simp at he
   |some m=>
    rw[hm] at he;simp only at he;cases au:m.path.isEmpty with
    |false=>rw[au] at he;simp at he
    |true=>
     rw[au] at he;simp only[lY,dT] at he;have ai4:m.path=#[]:=by simpa using au
     cases aD:m.func with
     |none=>rw[aD] at he;simp at he
     |some q=>
      obtain⟨g,Ck⟩:=q;rw[aD] at he;simp only at he;have key:∀im,(∀ID,(receiverAt t (.val v') Ck ID).run P w=.ok im w)->f=g->(callMethod (.iface t v') name yg.toArray).run P w=(callFunc f (im::yg).toArray).run P w:=by
       intro im HX ah0;subst ah0;have aiK:(method (P.types.size+Made.depth) t v' name).run P w=.ok (f,im) w:=by
        have:P.types.size+Made.depth=(P.types.size+99)+1:=rfl;rw[this];generalize P.types.size+99=k;simp[method,typeInfo,ao,hm,ai4,follow,aD,HX]
       simp[callMethod,aiK]
      cases hu:P.underlying t with
      |none=>rw[hu] at he;simp at he
      |some d=>
       rw[hu] at he;cases d with
       |pointer elem=>
        cases Ck with
        |true=>
         simp only[cp,dB] at he;obtain⟨rfl,rfl⟩:=he;exact⟨v'::yg,key v' (fun ID=>by simp[receiverAt,e1 hu,Place.get]) rfl,b0.cons ay av⟩
        |false=>simp at he
       |_=>
        cases Ck with
        |true=>simp at he
        |false=>
         simp only[cp,dB] at he;obtain⟨rfl,rfl⟩:=he;exact⟨v'::yg,key v' (fun ID=>by simp[receiverAt,e1 hu,Place.get]) rfl,b0.cons ay av⟩
 |_=>simp at he
theorem UP{fn:Fn}{args cz cap eh:List Value}{f:FuncId}{bT:List Value}(a1:b0 μ args cz)(aC:b0 μ cap eh)(he:l7 P H fn args cap=some (f,bT)):
 ∃jJ,(invoke (.fn fn eh.toArray) cz.toArray).run P w=(callFunc f jJ.toArray).run P w/\b0 μ bT jJ:=by
 unfold l7 at he;cases fn with
 |func g=>
  simp only[cp,dB] at he;obtain⟨rfl,rfl⟩:=he;refine⟨cz++eh,?_,a1.append aC⟩;simp[invoke]
 |method name=>
  cases args with
  |nil=>simp at he
  |cons r rest=>
   obtain⟨dx,yg,rfl,aa,ae⟩:=a1.jP;obtain⟨jJ,a,b⟩:=Kr (w:=w) aa ae he;refine⟨jJ,?_,b⟩;rw[<-a];simp[invoke]
 |methodOf t name=>
  cases args with
  |nil=>simp at he
  |cons r rest=>
   obtain⟨dx,yg,rfl,aa,ae⟩:=a1.jP;simp only at he;cases hu:P.underlying t with
   |none=>rw[hu] at he;simp at he
   |some d=>
    rw[hu] at he;by_cases aV:∃QK,d=.interface QK
    ·obtain⟨QK,rfl⟩:=aV;obtain⟨jJ,a,b⟩:=Kr (w:=w) aa ae he;refine⟨jJ,?_,b⟩;rw[<-a];simp[invoke,e1 hu]
    ·have oY:y8 P H (.iface t r) name rest=some (f,bT):=by
      cases d<;>first|exact he|exact absurd ⟨_,rfl⟩ aV
     obtain⟨jJ,a,b⟩:=Kr (w:=w) (.iface t r dx aa) ae oY;refine⟨jJ,?_,b⟩;rw[<-a];cases d<;>first|exact absurd ⟨_,rfl⟩ aV|simp[invoke,e1 hu]
 |_=>simp at he
theorem UN(h:b9 P B w0 μ H w)(aB:lD μ S.T n tmps){c:Call}{r:cL}(aC:o.op=.call c)(Wm:∀b,c.callee≠.builtin b)(he:n9 P call aR S.T H c=some r):nZ P B w0 call aR μ H w (execOp (dz tmps) o) r:=by
 unfold n9 at he;have sK:∀args,eI S.T H c.args.toList=some args->b0 μ args (c.args.map (dz tmps)).toList:=fun args q=>by
  have:=IS h aB q;simpa using this
 have fin:∀f bT jJ,(execOp (dz tmps) o).run P w=(callFunc f jJ.toArray).run P w->b0 μ bT jJ->pv (call f bT H)=some r->nZ P B w0 call aR μ H w (execOp (dz tmps) o) r:=by
  intro f bT jJ aa ae aF;cases hD:call f bT H with
  |none=>rw[hD] at aF;simp[pv] at aF
  |some p=>
   obtain⟨e,H1⟩:=p;rw[hD] at aF;cases e with
   |returned v=>simp[pv] at aF;subst aF;exact .inr (.inl ⟨f,bT,jJ,aa,ae,hD⟩)
   |panicked bK=>simp[pv] at aF;subst aF;exact .inr ⟨f,bT,jJ,aa,ae,hD⟩
   |outgrown=>simp[pv] at aF
 cases a1:eI S.T H c.args.toList with
 |none=>rw[a1] at he;simp at he
 |some args=>
  rw[a1] at he;simp only at he;have av:=sK args a1;cases nc:c.callee with
  |builtin b=>exact absurd nc (Wm b)
  |invoke recv name=>
   rw[nc] at he;simp only at he;cases aw:bj S.T H recv with
   |none=>rw[aw] at he;simp at he
   |some rv=>
    rw[aw] at he;simp only at he;cases hm:y8 P H rv name args with
    |none=>rw[hm] at he;simp at he
    |some p=>
     obtain⟨f,bT⟩:=p;rw[hm] at he;obtain⟨jJ,bm,a2⟩:=Kr (w:=w) (wo h aB aw) av hm;refine fin f bT jJ ?_ a2 he;rw[<-bm];have iL:(#[dz tmps recv]++Array.map (dz tmps) c.args)[0]?=some (dz tmps recv):=by rw[Sj (by simp)];rfl
     have aL:(Array.map (dz tmps) c.args).extract 0 c.args.size=(List.map (dz tmps) c.args.toList).toArray:=by apply tf;simp;exact eo (by simp)
     simp[execOp,aC,resolve,nc,invoke,iL,aL]
  |value N9=>
   rw[nc] at he;simp only at he;cases aD:bj S.T H N9 with
   |none=>rw[aD] at he;simp at he
   |some fv=>
    rw[aD] at he;have mc:=wo h aB aD;cases fv with
    |func fn first captured=>
     rcases mc.GZ with⟨bV,b',ay,uj,aa,ae⟩|⟨l,L,rfl,bS,rfl,rfl,ay⟩
     ·have oY:(match l7 P H fn (first.toList++args) captured.toList with|some (f,bT)=>pv (call f bT H)|none=>none)=some r:=by
       cases fn<;>first|exact he|(simp[x9] at uj)
      cases hm:l7 P H fn (first.toList++args) captured.toList with
      |none=>rw[hm] at oY;simp at oY
      |some p=>
       obtain⟨f,bT⟩:=p;rw[hm] at oY;obtain⟨jJ,bm,a2⟩:=UP (w:=w) (aa.append av) ae hm;refine fin f bT jJ ?_ a2 oY;rw[<-bm];have aL:(bV.toList++(c.args.map (dz tmps)).toList).toArray=bV++c.args.map (dz tmps):=by apply tf;simp
       have bk:b'.toList.toArray=b':=by simp
       rw[aL,bk];simp[execOp,aC,resolve,nc,Deferred.ofValue,ay]
     ·simp only[Array.isEmpty_empty,wG,b7] at he;cases ai:aR l args H with
      |none=>rw[ai] at he;simp[Ju] at he
      |some p=>
       obtain⟨e,H1⟩:=p;rw[ai] at he;cases e with
       |returned v=>
        simp[Ju] at he;subst he;refine .inr (.inr ⟨l,L,args,(c.args.map (dz tmps)).toList,bS,?_,av,ai⟩);have aL:(List.map (dz tmps) c.args.toList).toArray=c.args.map (dz tmps):=by apply tf;simp
        simp[execOp,aC,resolve,nc,Deferred.ofValue,ay,invoke,aL]
       |panicked bK=>simp[Ju] at he
       |outgrown=>simp[Ju] at he
    |_=>simp at he
end
end
end Go.Cre
namespace Go.Cre
noncomputable section
open Go.RowKit
section
variable {P:Program}{B:Nat->Prop}{w0 w:World}{μ:bY}{H H':aA}{n:Nat}{tmps:Array Value}
variable {call:eH}{aR:gR}{o:Oper}{S:bh}
theorem aky{α:Type}{l:List α}(h:isNil l=true):l=[]:=by
 cases l with
 |nil=>rfl
 |cons a l=>cases h
theorem adI{α:Type}(k:Nat)(l:List α):xc (k+1) l=Option.rec (motive:=fun _=>Option (List α)) none (xc k) (xc k l):=rfl
theorem adH{α:Type}:∀{k:Nat} {l r:List α},xc k l=some r->l.length=2 ^ k+r.length:=by
 intro k;induction k with
 |zero=>
  intro l r h;cases l with
  |nil=>cases h
  |cons v l=>
   have h:some l=some r:=h;injection h with h;subst h;simp;omega
 |succ k aI=>
  intro l r h;rw[adI] at h;cases aa:xc k l with
  |none=>rw[aa] at h;cases h
  |some m=>
   rw[aa] at h;have h:xc k m=some r:=h;have aL:=aI aa;have bk:=aI h;rw[C2];omega
theorem adP{α:Type}(k n:Nat)(l:List α):AU (k+1) n l=Option.rec (motive:=fun _=>Option Nat) (AU k n l) (fun r=>AU k (Nat.add n (Nat.pow 2 k)) r) (xc k l):=rfl
theorem Ut{α:Type}:∀{k n m:Nat} {l:List α},AU k n l=some m->m=n+l.length:=by
 intro k;induction k with
 |zero=>
  intro n m l h;have h:Bool.rec (motive:=fun _=>Option Nat) none (some n) (isNil l)=some m:=h;cases aP:isNil l with
  |false=>rw[aP] at h;cases h
  |true=>rw[aP] at h;injection h with h;rw[aky aP];simp[h]
 |succ k aI=>
  intro n m l h;rw[adP] at h;cases aa:xc k l with
  |none=>rw[aa] at h;exact aI h
  |some r=>
   rw[aa] at h;have h:AU k (n+2 ^ k) r=some m:=h;have aL:=adH aa;have bk:=aI h;omega
theorem Xu{α:Type}{l:List α}{n:Nat}(h:BV l=some n):n=l.length:=by
 unfold BV at h;cases ap:isNil (nJ 256 l) with
 |true=>rw[ap,b7] at h;injection h with h;exact h.symm
 |false=>
  rw[ap,dT] at h;split at h
  ·rename_i m hm;injection h with h;subst h
   have:=Ut hm;omega
  ·split at h
   ·rename_i m hm;injection h with h;subst h
    have:=Ut hm;omega
   ·injection h with h;exact h.symm
theorem Yj(h:b9 P B w0 μ H w){T:bg Value}(aB:lD μ T n tmps){x:Option Operand}{v:Option Value}(he:jQ T H x=some v):FM μ v (x.map (dz tmps)):=by
 cases x with
 |none=>simp[jQ] at he;subst he;trivial
 |some x=>
  simp only[jQ] at he;cases U:bj T H x with
  |none=>rw[U] at he;simp at he
  |some u=>rw[U] at he;simp at he;subst he;exact wo h aB U
theorem aeM(h:b9 P B w0 μ H w)(aB:lD μ S.T n tmps){c:Call}{b:Builtin}{r:cL}(aC:o.op=.call c)(ap:c.callee=.builtin b)(he:pw P S H o b c=some r):nZ P B w0 call aR μ H w (execOp (dz tmps) o) r:=by
 have P9:∀cs b,o.op≠.select cs b:=fun cs b q=>by rw[aC] at q;cases q
 have sS:gm P S.T H o=some r->nZ P B w0 call aR μ H w (execOp (dz tmps) o) r:=GQ h aB P9;obtain⟨cs,hex⟩:∃cs,execOp (dz tmps) o=builtin b c.argTypes o.type cs (c.args.map (dz tmps)):=⟨_,by simp[execOp,aC,resolve,ap,invoke];rfl⟩;unfold pw at he;cases a1:eI S.T H c.args.toList with
 |none=>rw[a1] at he;simp at he
 |some args=>
  rw[a1] at he;have av:b0 μ args (c.args.map (dz tmps)).toList:=by have:=IS h aB a1;simpa using this
  simp only at he;have xy:∀l,(c.args.map (dz tmps)).toList=l->c.args.map (dz tmps)=l.toArray:=fun l q=>by rw[<-q]
  have BJ:∀l,c.argTypes.toList=l->c.argTypes=l.toArray:=fun l q=>by rw[<-q]
  split at he
  ·--len of a slice
   rename_i a m cE t fL;split at he
   ·rename_i e hu;injection he with he;subst he
    obtain⟨v',l',aL,aa,ae⟩:=av.jP;have:=ae.lm;subst this;refine .inl ⟨.int .i64 m,w,μ,?_,h,Step.refl _ _,.atom _ rfl⟩;rw[hex,xy _ aL,BJ _ fL];cases a with
    |none=>rw[aa.uK];simp[builtin,Builtin.len_,e1 hu,goInt]
    |some a=>obtain⟨_,_,rfl⟩:=aa.Cx;simp[builtin,Builtin.len_,e1 hu,goInt]
   ·cases he
  ·--len of a map
   rename_i dA t fL;split at he
   ·rename_i k e hu;split at he
    ·rename_i es clock hm;injection he with he;subst he
     obtain⟨v',l',aL,aa,ae⟩:=av.jP;have:=ae.lm;subst this;obtain⟨L,bS,rfl⟩:=aa.Ir;obtain⟨mA,Kh,g1,g2⟩:=h.map bS hm;have Hu:(getObj L.r).run P w=.ok (.map mA Kh) w:=by simp[getObj,Sem.run,g1]
     have hlen:mA.size=es.length:=by have:=g2.length;simp at this;omega
     refine .inl ⟨.int .i64 es.length,w,μ,?_,h,Step.refl _ _,.atom _ rfl⟩;rw[hex,xy _ aL,BJ _ fL];simp[builtin,Builtin.len_,e1 hu,goInt,Hu,hlen]
    ·cases he
   ·cases he
  ·--len of a string
   rename_i s t fL;split at he
   ·rename_i hu;have he:some (cL.val (.int .i64 s.data.toList.length) H)=some r:=by
     cases hle:BV s.data.toList with
     |none=>rw[hle] at he;cases he
     |some n=>
      rw[hle] at he;simp only at he;rw[tM] at he;rw[<-Xu hle];exact he
    injection he with he;subst he
    obtain⟨v',l',aL,aa,ae⟩:=av.jP;have:=ae.lm;subst this;have iB:(Builtin.len_ #[t] o.type #[.string s]).run P w=.ok (goInt s.size) w:=by simp[Builtin.len_,e1 hu]
    refine .inl ⟨goInt s.size,w,μ,?_,h,Step.refl _ _,.atom _ rfl⟩;rw[hex,xy _ aL,BJ _ fL,aa.Jb];simp[builtin,iB]
   ·cases he
  ·--append
   rename_i s x hh hx fL;split at he
   ·cases he
   ·rename_i d aV hu;obtain⟨v',l',aL,aa,ae⟩:=av.jP;obtain⟨Jh,Lu,rfl,aF,bo⟩:=ae.jP;have:=bo.lm;subst this;have:=zO (call:=call) (aR:=aR) (s:=Builtin.append_ #[hh,hx] o.type #[v',Jh]) (fun v H' q=>aeJ h aa aF hu (fun k q=>aV k q) q) he;rw[hex,xy _ aL,BJ _ fL];exact this
   ·cases he
  ·--cap
   rename_i a m cE t fL;split at he
   ·rename_i e hu;cases d':Nat.beq cE cZ with
    |true=>rw[d'] at he;cases he
    |false=>
     rw[d',dT] at he;injection he with he;subst he
     obtain⟨v',l',aL,aa,ae⟩:=av.jP;have:=ae.lm;subst this;have ca:cE≠cZ:=fun q=>by rw[q,hz] at d';cases d'
     obtain⟨bV,rfl⟩:=aa.aoi ca;refine .inl ⟨.int .i64 cE,w,μ,?_,h,Step.refl _ _,.atom _ rfl⟩;rw[hex,xy _ aL,BJ _ fL];simp[builtin,Builtin.cap_,e1 hu,goInt]
   ·cases he
  ·--Fi ava data
   rename_i a m cE;cases d':(Nat.beq cE cZ&&Nat.beq m 0) with
   |true=>rw[d'] at he;cases he
   |false=>
    rw[d',dT] at he;cases ib:Nat.beq cE 0 with
    |true=>rw[ib] at he;cases he
    |false=>
     rw[ib,dT] at he;injection he with he;subst he
     obtain⟨v',l',aL,aa,ae⟩:=av.jP;have:=ae.lm;subst this;have ib:cE≠0:=fun q=>by rw[q] at ib;cases ib
     obtain⟨id,off,L,gf,eh,rfl,bS,rfl,ar,_,tZ⟩:=aa.yl (.inr (.inr (by omega)));have hm:cE=cZ->m≠0:=fun q du=>by subst q;subst du;rw[hz] at d';cases d'
     have qj:eh≠0/\gf=off:=by
      rcases tZ with⟨_,rfl,rfl⟩|⟨q,a7,rfl,_⟩|⟨q,a7,_⟩
      ·exact⟨ib,rfl⟩
      ·exact⟨by have:=hm q;omega,rfl⟩
      ·exact absurd a7 (hm q)
     obtain⟨qj,rfl⟩:=qj;refine .inl ⟨.pointer (some ⟨L.r,gf,none⟩),w,μ,?_,h,Step.refl _ _,.ptr id gf L bS⟩;have iB:(Builtin.unsafeSliceData_ c.argTypes o.type #[.slice (some ⟨L.r,gf,none⟩) m eh]).run P w=.ok (.pointer (some ⟨L.r,gf,none⟩)) w:=by
      show((if eh≠0 then pure _ else _:Sem Value)).run P w=_;rw[aE qj];rfl
     rw[hex,xy _ aL];simp[builtin,iB]
  ·--a string over bytes
   rename_i p m pe it fL;obtain⟨v',l',aL,aa,ae⟩:=av.jP;obtain⟨Jh,Lu,rfl,aF,bo⟩:=ae.jP;have:=bo.lm;subst this;have:=zO (call:=call) (aR:=aR) (s:=Builtin.unsafeString_ #[pe,it] o.type #[v',Jh]) (fun v H' q=>by
    obtain⟨bm,a2,a3,a4,a5,da⟩:=afd h aa aF q;exact⟨bm,a2,μ,a3,a4,a5,da⟩) he
   rw[hex,xy _ aL,BJ _ fL];exact this
  ·--copy
   rename_i d s r7 hh fL;obtain⟨v',l',aL,aa,ae⟩:=av.jP;obtain⟨Jh,Lu,rfl,aF,bo⟩:=ae.jP;have:=bo.lm;subst this;have:=zO (call:=call) (aR:=aR) (s:=Builtin.copy_ #[r7,hh] o.type #[v',Jh]) (fun v H' q=>by
    obtain⟨bm,a2,a3,a4,a5,da⟩:=aeO h aa aF q;exact⟨bm,a2,μ,a3,a4,a5,da⟩) he
   rw[hex,xy _ aL,BJ _ fL];exact this
  ·--panic
   rename_i t v;injection he with he;subst he
   obtain⟨v',l',aL,aa,ae⟩:=av.jP;have:=ae.lm;subst this;obtain⟨dR,rfl,U⟩:=aa.xX;refine .inl ⟨.iface t v,.iface t dR,rfl,rfl,?_,.iface t v dR U⟩;rw[hex,xy _ aL];simp[builtin,Instr.panic,goPanic,Sem.run]
  ·--recover
   have aL:=av.lm;have iB:(execOp (dz tmps) o).run P w=.ok .recover w:=by rw[hex];simp[builtin]
   injection he with he;subst he
   exact iB
  ·exact sS he
theorem aeP(h:b9 P B w0 μ H w)(aB:lD μ S.T n tmps){c:Call}{r:cL}(aC:o.op=.defer c)(he:GN P S.T H c=some r):nZ P B w0 call aR μ H w (execOp (dz tmps) o) r:=by
 unfold GN at he;cases a1:eI S.T H c.args.toList with
 |none=>rw[a1] at he;simp at he
 |some args=>
  rw[a1] at he;simp only at he;have av:b0 μ args (c.args.map (dz tmps)).toList:=by have:=IS h aB a1;simpa using this
  cases nc:c.callee with
  |builtin b=>rw[nc] at he;simp at he
  |invoke recv name=>
   rw[nc] at he;simp only at he;cases aw:bj S.T H recv with
   |none=>rw[aw] at he;simp at he
   |some rv=>
    rw[aw] at he;simp only[cp] at he;subst he;refine⟨.method name,#[],#[],rv::args,dz tmps recv::(c.args.map (dz tmps)).toList,rfl,?_,rfl,b0.nil _,b0.cons (wo h aB aw) av⟩;have aL:(dz tmps recv::(c.args.map (dz tmps)).toList).toArray=#[dz tmps recv]++c.args.map (dz tmps):=by apply tf;simp
    rw[aL];simp[execOp,aC,resolve,nc]
  |value N9=>
   rw[nc] at he;simp only at he;cases aD:bj S.T H N9 with
   |none=>rw[aD] at he;simp at he
   |some fv=>
    rw[aD] at he;have mc:=wo h aB aD;cases fv with
    |func fn first captured=>
     simp only at he;cases uj:x9 fn with
     |false=>rw[uj] at he;simp at he
     |true=>
     rw[uj] at he;simp only[b7,cp] at he;subst he;rcases mc.GZ with⟨bV,b',ay,_,aa,ae⟩|⟨l,L,rfl,bS,rfl,rfl,ay⟩
     ·refine⟨fn,captured,b',first.toList++args,bV.toList++(c.args.map (dz tmps)).toList,rfl,?_,uj,ae,aa.append av⟩;have aL:(bV.toList++(c.args.map (dz tmps)).toList).toArray=bV++c.args.map (dz tmps):=by apply tf;simp
      rw[aL];simp[execOp,aC,resolve,nc,Deferred.ofValue,ay]
     ·simp[x9] at uj
    |_=>simp at he
end
end
end Go.Cre
