/- A part of the proof of ResumeBack. -/
import Derived.Test.YtiemfjdacfioeaaGreatDoorCar
set_option linter.unusedVariables false
set_option linter.unusedSimpArgs false
namespace Go.Opn
noncomputable section
open Go.Cre Go.RowKit
theorem Lx{P:Program}{t:TypeId}{cs:Array Value}{off:Nat}{v:Value}{k:IntKind}(hu:P.underlying t=some (.int k))(h:cs[off]?=some v):eP P (part t cs off)=some v:=by
 unfold part;rw[dL (a:=false)]
 ·show eP P (match cs[off]? with|some v=>pure v|none=>stuck "part: no such cell")=_
  rw[h];rfl
 ·unfold isAgg;rw[dL (w6 hu)];rfl
theorem eq_int{P:Program}{t:TypeId}{k:IntKind}{n:Nat}{a b:Int}(hu:P.underlying t=some (.int k)):eP P (Op.equalIn (n+1) t (.int .i64 a) (.int .i64 b))=some (decide (a=b)):=by
 unfold Op.equalIn;rw[dL (w6 hu)];show eP P (if IntKind.i64=IntKind.i64 then pure (a==b) else _)=_;rw[aE rfl];show some (a==b)=_;rw[show(a==b)=decide (a=b) from rfl]
theorem ako{P:Program}{n:Nat}{xs ys:Array Value}:∀(kr:List Field) (b6 bs:List Int) (k:Nat),kr.length=b6.length->b6.length=bs.length->(∀i f,kr[i]?=some f->f.name≠ "_"/\P.underlying f.type=some (.int .i64)/\f.offset=k+i)->(∀i a,b6[i]?=some a->xs[k+i]?=some (.int .i64 a))->(∀i a,bs[i]?=some a->ys[k+i]?=some (.int .i64 a))->
 eP P (forIn kr ((none,()):Option Bool×Unit) fun f ap4=>
        if f.name≠ "_" then do
           let tj <-part f.type xs f.offset
           let FF <-part f.type ys f.offset
           let tj <-Op.equalIn (n+1) f.type tj FF
           if(!tj)=true then pure (ForInStep.done (some false,()))
             else pure (ForInStep.yield (none,()))
        else pure (ForInStep.yield (none,())))=some (if b6=bs then none else some false,()):=by
 intro kr;induction kr with
 |nil=>
  intro b6 bs k aa ae _ _ _;obtain rfl:b6=[]:=yq (by simpa using aa.symm);obtain rfl:bs=[]:=yq (by simpa using ae.symm);rfl
 |cons f kr aK=>
  intro b6 bs k aa ae aC U ai;cases b6 with
  |nil=>cases aa
  |cons a b6=>
   cases bs with
   |nil=>cases ae
   |cons b bs=>
    obtain⟨f1,f2,f3⟩:=aC 0 f rfl;rw[Sg]
    have bE:eP P (if f.name≠ "_" then do
             let tj <-part f.type xs f.offset
             let FF <-part f.type ys f.offset
             let tj <-Op.equalIn (n+1) f.type tj FF
             if(!tj)=true then pure (ForInStep.done ((some false,()):Option Bool×Unit))
              else pure (ForInStep.yield (none,()))
            else pure (ForInStep.yield (none,())))=some (if a=b then ForInStep.yield (none,()) else ForInStep.done (some false,())):=by
     rw[aE f1,dL (Lx f2 (by rw[f3];exact U 0 a rfl)),dL (Lx f2 (by rw[f3];exact ai 0 b rfl)),dL (eq_int f2)];by_cases mV:a=b
     ·simp[mV];rfl
     ·simp[mV];rfl
    rw[dL bE];by_cases mV:a=b
    ·rw[aE mV]
     simp only
     rw[aK b6 bs (k+1) (by simpa using aa) (by simpa using ae) (fun i g aq=>by obtain⟨g1,g2,g3⟩:=aC (i+1) g aq;exact⟨g1,g2,by omega⟩) (fun i c aH=>by have:=U (i+1) c aH;rwa [show k+(i+1)=k+1+i by omega] at this) (fun i c aH=>by have:=ai (i+1) c aH;rwa [show k+(i+1)=k+1+i by omega] at this)];simp[mV]
    ·rw[ap mV]
     simp only
     rw[ap (by intro q;injection q with bd a6;exact mV bd)];rfl
def FL (P:Program):List Field->Nat->Bool
 |[],_=>true
 |f::kr,k=>!(f.name== "_")&&(match P.underlying f.type with|some (.int .i64)=>true|_=>false)&&Nat.beq f.offset k&&FL P kr (k+1)
def HZ (P:Program)(t:TypeId):Option Nat:=match P.underlying t with
 |some (.struct fields)=>bif FL P fields.toList 0&&!P.stoodInHeld t&&!P.eqGuardType P.depth t then some fields.toList.length else none
 |_=>none
theorem aa2{P:Program}:∀{kr:List Field} {k:Nat},FL P kr k=true->∀i f,kr[i]?=some f->f.name≠ "_"/\P.underlying f.type=some (.int .i64)/\f.offset=k+i:=by
 intro kr;induction kr with
 |nil=>intro k _ i f h;simp at h
 |cons g kr aK=>
  intro k h i f aC;simp only[FL,fU] at h;obtain⟨⟨⟨aa,ae⟩,aG⟩,br⟩:=h;cases i with
  |zero=>
   simp at aC;subst aC;refine⟨by simpa using aa,?_,by have:=eN aG;omega⟩;split at ae
   ·assumption
   ·cases ae
  |succ i=>
   obtain⟨bd,a6,b9⟩:=aK br i f (by simpa using aC);exact⟨bd,a6,by omega⟩
theorem ad6{P:Program}{t:TypeId}{k n:Nat}{b6 bs:List Int}(aD:HZ P t=some k)(a':b6.length=k)(au:bs.length=k):eP P (Op.equalIn (n+1+1) t (.agg (b6.map (Value.int .i64)).toArray) (.agg (bs.map (Value.int .i64)).toArray))=some (decide (b6=bs))/\P.eqGuardType P.depth t=false/\∃kr,P.underlying t=some (.struct kr):=by
 unfold HZ at aD;split at aD
 ·rename_i fields hu;cases aH:(FL P fields.toList 0&&!P.stoodInHeld t&&!P.eqGuardType P.depth t) with
  |false=>rw[aH] at aD;cases aD
  |true=>
   rw[aH,cb] at aD;injection aD with aD
   simp only[fU,qL] at aH;obtain⟨⟨bt,bw⟩,dh⟩:=aH;refine⟨?_,dh,fields,hu⟩;unfold Op.equalIn;rw[dL (w6 hu)];simp only
   simp only[<-Array.forIn_toList];rw[dL (a:=P) rfl];rw[ap (by simp[bw])];have av:=ako (P:=P) (n:=n) (xs:=(b6.map (Value.int .i64)).toArray) (ys:=(bs.map (Value.int .i64)).toArray) fields.toList b6 bs 0 (by omega) (by omega) (fun i f aC=>by have:=aa2 bt i f aC;exact this) (fun i a q=>by simp[q]) (fun i a q=>by simp[q]);rw[dL av];by_cases mV:b6=bs
   ·simp[mV];rfl
   ·simp[mV];rfl
 ·cases aD
section
variable {K:eL}{B:ea}{o:Oper}{n:Nat}{ds:e7}{l:List (Nat×Value)}{m m':aO}{J:aI}{eR:cn->aO->aI->Prop}{d:Nat}
theorem ZJ{op:BinOp}{t eD:TypeId}{x y:Operand}{k:Nat}{la bs:List Int}{xs ys:Array Value}{b:Bool}(ar:o.op=.binOp op t x y eD)(dW:op=.eql/\b=decide (la=bs)\/op=.neq/\b=decide (¬la=bs))(U:b7 l x=some (.agg xs))(ai:b7 l y=some (.agg ys))(aD:HZ K.P t=some k)(Eg:xs=(la.map (Value.int .i64)).toArray)(ajA:ys=(bs.map (Value.int .i64)).toArray)(a':la.length=k)(au:bs.length=k):cV K B o n ds l m J (.bool b):=by
 subst Eg;subst ajA;obtain⟨aa,ae,kr,aG⟩:=ad6 (n:=9998) aD a' au;intro call aR S H ax aJ;have dO:∀gf:List Int,plain (.agg (gf.map (Value.int .i64)).toArray)=true:=fun gf=>by
  show(gf.map (Value.int .i64)).all (iA 7)=true;rw[List.all_map,s8];intro i _;rfl
 unfold cO fq;simp only[ar];show nM K.P _ op t (bk S.T H x) (bk S.T H y)=_;rw[du ax H U,du ax H ai];show orElse (fI K.P S.T H o) _=_;have:fI K.P S.T H o=some (.val (.bool b) H):=by
  refine uz ax (by rw[ar];rfl) U ai (dO _) (dO _) ?_ rfl;unfold execOp;simp only[ar];rw[jy ax H U,jy ax H ai];rw[dL (a:=.bool b)]
  ·rfl
  rcases dW with⟨rfl,rfl⟩|⟨rfl,rfl⟩
  ·rw[dL (a:=())]
   ·have au:binOp .eql t (.agg (la.map (Value.int .i64)).toArray) (.agg (bs.map (Value.int .i64)).toArray)=(do pure (.bool (<-Op.equal t (.agg (la.map (Value.int .i64)).toArray) (.agg (bs.map (Value.int .i64)).toArray)))):=by simp[binOp]
    rw[au,dL (s:=Op.equal t _ _) aa];rfl
   ·unfold eqGuard;simp only[lK,Fl,Ej];rw[dL (a:=K.P) rfl,dL (a:=K.P) rfl,ae];rfl
  ·rw[dL (a:=())]
   ·have au:binOp .neq t (.agg (la.map (Value.int .i64)).toArray) (.agg (bs.map (Value.int .i64)).toArray)=(do pure (.bool (!(<-Op.equal t (.agg (la.map (Value.int .i64)).toArray) (.agg (bs.map (Value.int .i64)).toArray))))):=by simp[binOp]
    rw[au,dL (s:=Op.equal t _ _) aa];show some (Value.bool (!decide (la=bs)))=_;rw[show(!decide (la=bs))=decide (¬la=bs) by simp]
   ·unfold eqGuard;simp only[lK,Fl,Ej];rw[dL (a:=K.P) rfl,dL (a:=K.P) rfl,ae];rfl
 rw[this];rfl
theorem Acc.fz{c:Code}{e:TypeId}{sz k:Nat}{v:Value}{cells:List Value}{aY m0:aO}{E:cn}{c0:Exit->cn->aO->aI->Prop}(h:Acc e sz v k cells aY)(hm:m=aY++m0)(aU:∀ag,J.le ag->hL ag e sz v k cells->ab K B c E m0 ag c0):ab K B c E m J c0:=by
 subst hm;cases h with
 |nil=>exact aU J (aI.le.refl _) .nil
 |kp a=>exact aU J (aI.le.refl _) (.kp _ _ _ (by decide))
 |@opn a k cells rest z av bN=>
  intro S H ax aJ;obtain⟨bp,bC⟩:=aJ.mD (m:=m0) (x:=(cells,e)) rfl;exact aU _ bC (.row (aI.oy _ _ _) (by rw[mP,et (by omega)]) av (fun q=>absurd rfl q) (fun _=>rfl)) S H ax bp
 |@cap a k C cells full el aa ae aG br=>
  intro S H ax aJ;obtain⟨bp,bC⟩:=aJ.mD (m:=m0) (x:=(full,el)) rfl;exact aU _ bC (.row (aI.oy _ _ _) ae (by rw[<-ae,h1,aa,mf (nt _ aG)]) (fun _=>⟨aG,br⟩) (fun q=>absurd q (Nat.ne_of_lt br))) S H ax bp
end
section
variable {K:eL}{B:ea}{o:Oper}{n:Nat}{ds:e7}{l:List (Nat×Value)}{m m':aO}{J:aI}{eR:cn->aO->aI->Prop}{d:Nat}{c0:Exit->cn->aO->aI->Prop}
theorem wrap_u8{n:Int}(aa:0<=n)(ae:n<=255):IntKind.u8.wrap n=n:=by
 unfold IntKind.wrap IntKind.signed IntKind.bits;simp only[Bool.false_and,Fl,Ej];omega
def MK (a b:Int):BinOp->Option Int
 |.add=>some (a+b)
 |.sub=>some (a -b)
 |.mul=>some (a*b)
 |_=>none
theorem Rx{op:BinOp}{t eD:TypeId}{x y:Operand}{k:IntKind}{a b c ch:Int}(ar:o.op=.binOp op t x y eD)(U:b7 l x=some (.int k a))(ai:b7 l y=some (.int k b))(az:MK a b op=some c)(hw:k.wrap c=ch):cV K B o n ds l m J (.int k ch):=by
 refine ZH ar U ai ?_;cases op<;>simp only[MK,cp,reduceCtorEq] at az<;>subst az<;>subst hw<;>rfl
theorem ZO{op:BinOp}{t eD:TypeId}{x y:Operand}{a b:List UInt8}{v:Value}(ar:o.op=.binOp op t x y eD)(U:b7 l x=some (.string ⟨⟨a⟩⟩))(ai:b7 l y=some (.string ⟨⟨b⟩⟩))(dW:op=.eql/\v=.bool (decide (a=b))\/op=.neq/\v=.bool (decide (¬a=b))):cV K B o n ds l m J v:=by
 intro call aR S H ax aJ;unfold cO fq;simp only[ar];show nM K.P _ op t (bk S.T H x) (bk S.T H y)=_;rw[du ax H U,du ax H ai];show orElse (fI K.P S.T H o) _=_;have:fI K.P S.T H o=some (.val v H):=by
  rcases dW with⟨rfl,rfl⟩|⟨rfl,rfl⟩
  ·refine uz ax (by rw[ar];rfl) U ai rfl rfl ?_ rfl;unfold execOp;simp only[ar];rw[jy ax H U,jy ax H ai];have au:binOp .eql t (.string ⟨⟨a⟩⟩) (.string ⟨⟨b⟩⟩)=Op.stringOp .eql ⟨⟨a⟩⟩ ⟨⟨b⟩⟩:=by simp[binOp]
   have aq:eP K.P (eqGuard .eql t x y (.string ⟨⟨a⟩⟩) (.string ⟨⟨b⟩⟩))=some ():=rfl;rw[dL (a:=.bool (decide (a=b)))]
   ·rfl
   rw[dL aq,au];show some (Value.bool ((⟨⟨a⟩⟩:ByteArray).toList==(⟨⟨b⟩⟩:ByteArray).toList))=_;rw[S6]
  ·refine uz ax (by rw[ar];rfl) U ai rfl rfl ?_ rfl;unfold execOp;simp only[ar];rw[jy ax H U,jy ax H ai];have au:binOp .neq t (.string ⟨⟨a⟩⟩) (.string ⟨⟨b⟩⟩)=Op.stringOp .neq ⟨⟨a⟩⟩ ⟨⟨b⟩⟩:=by simp[binOp]
   have aq:eP K.P (eqGuard .neq t x y (.string ⟨⟨a⟩⟩) (.string ⟨⟨b⟩⟩))=some ():=rfl;rw[dL (a:=.bool (decide (¬a=b)))]
   ·rfl
   rw[dL aq,au];show some (Value.bool (!((⟨⟨a⟩⟩:ByteArray).toList==(⟨⟨b⟩⟩:ByteArray).toList)))=_;rw[S6,show(!decide (a=b))=decide (¬a=b) by simp]
 rw[this];rfl
theorem UU{S:bi}{ops:List Oper}{d:Nat}{want:Bool}(aq:mr ops o=some (d,want))(au:S.T.get d=some undef):fj ops S.T o=some false:=by
 unfold mr at aq;unfold fj;cases q:o.guard with
 |none=>rw[q] at aq;cases aq
 |some x=>
  obtain⟨j,w⟩:=x;rw[q] at aq;show vw ops S.T (j,w)=_;unfold vw;simp only at aq ⊢;cases aP:nth ops j with
  |none=>rfl
  |some p=>
   rw[aP] at aq;simp only at aq ⊢;cases aZ:p.dst with
   |none=>rfl
   |some k2=>
    rw[aZ] at aq;simp only[cp,dC] at aq;obtain⟨rfl,rfl⟩:=aq;simp only[au];rfl
theorem W.agf{ops rest:List Oper}{bL:Option (List PanicEntry)->cn->aO->aI->Prop}{d e:Nat}{want:Bool}(aq:mr ops o=some (d,want))(au:look l d=some undef)(aZ:o.dst=some e)(aP:Nat.blt e n=true)(h:W K B ops rest ⟨n,ds,(e,undef)::l⟩ m J bL):W K B ops (o::rest) ⟨n,ds,l⟩ m J bL:=by
 intro S H ax aJ;have cY:=UU aq (ax.get d _ au);obtain⟨bq,s1,s2⟩:=ax.put (dst:=some e) aP undef;obtain⟨p,aS,H',cL,m',ag,bp,bC,b5,da⟩:=h bq H s2 aJ;refine⟨p,aS,H',cL,m',ag,.cons hN mz ?_ bp,bC,b5,da⟩;unfold one;rw[cY];show pI H (S.put o.dst undef)=_;rw[aZ,s1];rfl
theorem ab.ht{c:Code}(k:Nat)(news:List (Nat×Value))(aa:ab K B c ⟨n,ds,l⟩ m J fun e cL m' ag=>match e with
 |.normal=>(∃l',cL=⟨n,ds,l'⟩/\pN l' (news++l.drop k))/\m.Sublist m'/\ag=J
 |e=>c0 e cL m' ag)(ae:c0 .normal ⟨n,ds,news++l.drop k⟩ m J):ab K B c ⟨n,ds,l⟩ m J c0:=ab.cut aa ae
theorem ab.akn{α:Type}{c:Code}{base:List (Nat×Value)}(sN:α->List (Nat×Value))(mem:α->aO)(fz:α->aI)(inv:α->Prop)(sL:α->Nat)(s:α)(af:inv s)
 (bE:∀s,inv s->ab K B c ⟨n,ds,sN s++base⟩ (mem s) (fz s) fun e E m J=>match e with
  |.normal=>∃c3 l,inv c3/\sL c3<sL s/\E=⟨n,ds,l⟩/\pN l (sN c3++base)/\(mem c3).Sublist m/\J=fz c3
  |e=>c0 e E m J):ab K B (.loop c) ⟨n,ds,sN s++base⟩ (mem s) (fz s) c0:=
 ab.loop (fun s=>sN s++base) mem fz inv sL bE s af
theorem ab.rG{α:Type}{c:Code}{base:List (Nat×Value)}(sN:α->List (Nat×Value))(inv:α->Prop)(sL:α->Nat)(s:α)(af:inv s)
 (bE:∀s,inv s->ab K B c ⟨n,ds,sN s++base⟩ m J fun e E m1 dQ=>match e with
  |.normal=>∃c3 l,inv c3/\sL c3<sL s/\E=⟨n,ds,l⟩/\pN l (sN c3++base)/\m.Sublist m1/\dQ=J
  |e=>c0 e E m1 dQ):ab K B (.loop c) ⟨n,ds,sN s++base⟩ m J c0:=
 ab.loop (fun s=>sN s++base) (fun _=>m) (fun _=>J) inv sL bE s af
theorem cR.app{aY m m':aO}{a:Nat}{b b':cK}(h:cR m a b b' m'):cR (aY++m) a b b' (aY++m'):=by
 induction aY with
 |nil=>exact h
 |cons x aY aK=>exact .tail x aK
theorem W.fz{ops rest:List Oper}{bL:Option (List PanicEntry)->cn->aO->aI->Prop}{E:cn}{a:Nat}{b:cK}{x:List Value×TypeId}(U:b.rowOf=some x)(h:J.le (J.add a x)->(J.add a x) a=some x->W K B ops rest E m (J.add a x) bL):W K B ops rest E ((a,b)::m) J bL:=by
 intro S H ax aJ;obtain⟨bp,bC⟩:=aJ.mD U;exact h bC (aI.oy _ _ _) S H ax bp
def dG(J:aI)(v:Value)(l:List Int):Prop:=∃e,hL J e 1 v l.length (l.map (Value.int .i64))
theorem dG.mono{ag:aI}(hle:J.le ag){v:Value}{l:List Int}(h:dG J v l):dG ag v l:=by obtain⟨e,h⟩:=h;exact⟨e,h.mono hle⟩
theorem dG.inv{v:Value}{l:List Int}(h:dG J v l):∃b c,v=.slice b l.length c/\(b=none->l=[])/\(0<l.length->∃a off cells e,b=some ⟨a,off,none⟩/\J a=some (cells,e)/\∀(i:Int),0<=i->i<l.length->∃x,l[i.toNat]?=some x/\nth cells (off+i.toNat*1)=some (.int .i64 x)):=by
 obtain⟨e,h⟩:=h;obtain⟨b,c,aa,ae,br,aG⟩:=hL.inv h;refine⟨b,c,aa,fun q=>yq (br q),fun q=>?_⟩;obtain⟨a,off,cells,e,bp,bC,b5⟩:=aG q;refine⟨a,off,cells,e,bp,bC,fun i i0 i1=>?_⟩;have c4:i.toNat<l.length:=by omega
 refine⟨l[i.toNat],de c4,?_⟩;rw[At,b5 _ (by omega),pb,de c4];rfl
theorem dG.lit{a:Nat}{l:List Int}{e:TypeId}(av:l.length<c9)(h:J a=some (l.map (Value.int .i64),e)):dG J (.slice (some ⟨a,0,none⟩) l.length l.length) l:=
 ⟨e,.row h (by rw[mP,et (by simp)]) (by simp) (fun _=>⟨cZ _,av⟩) (fun q=>absurd q (by omega))⟩
theorem get_at{α:Type}(s:List α)(i:Nat)(h:i<s.length):∃b,s[((i:Nat):Int).toNat]?=some b/\s[i]?=some b:=⟨s[i],by simp[h],de h⟩
theorem aoG{c:Call}{s:List UInt8}{t:TypeId}(ar:o.op=.call c)(aH:c.callee=.builtin .len)(a':h5 l c.args.toList=some [.string ⟨⟨s⟩⟩])(aD:c.argTypes.toList=[t])(af:sJ K.P t=true):cV K B o n ds l m J (.int .i64 s.length):=aoI ar aH a' aD af
theorem aoE{t:TypeId}{x aX:Operand}{s:List UInt8}{k:IntKind}{i:Int}{b:UInt8}(ar:o.op=.index t x aX)(U:b7 l x=some (.string ⟨⟨s⟩⟩))(ao:b7 l aX=some (.int k i))(aD:sJ K.P t=true)(bD:0<=i)(au:s[i.toNat]?=some b):cV K B o n ds l m J (.int .u8 b.toNat):=aoF ar U ao aD bD au
theorem amf{α:Type}:∀(L:List α) (k:Nat) (h:k<L.length),(L[k]::L.eraseIdx k).Perm L:=by
 intro L;induction L with
 |nil=>intro k h;cases h
 |cons a L aK=>
  intro k h;cases k with
  |zero=>exact Sc _
  |succ k=>exact(List.Perm.swap _ _ _).trans ((aK k (by simpa using h)).cons a)
theorem fM{α:Type}{p:α}{rest L:List α}(k:Nat)(aw:nth L k=some p)(ay:rest.Perm (L.eraseIdx k)):(p::rest).Perm L:=by
 rw[kR] at aw;obtain⟨h,rfl⟩:=dX.1 aw;exact(ay.cons _).trans (amf L k h)
end
section
variable {K:eL}{B:ea}{n:Nat}{ds:e7}{l:List (Nat×Value)}{m:aO}{J:aI}{c0:Exit->cn->aO->aI->Prop}
end
structure Grow (H H':aB):Prop where
 wf:jc H'
 bZ:H'.bZ=H.bZ
 ak:H.ak<=H'.ak
 ct:H.ct<=H'.ct
 eF:∀a,a<H.ak->H'.mem.get a=H.mem.get a
 oc:∀f,f<H.ct->H'.bM.get f=H.bM.get f
open Classical in
def acb (K:eL)(f:FuncId)(b6:List Value)(v:Value)(H:aB):aB:=if h:∃H',lL K.Q f b6 H (.returned v) H'/\Grow H H' then Classical.choose h else H
abbrev uW:=List (FuncId×List Value×Value)
def Yz:uW->FuncId->Option (List Value×Value)
 |[],_=>none
 |(g,b6,v)::R,f=>bif Nat.beq f g then some (b6,v) else Yz R f
open Classical in
def Ce (K:eL)(R:uW):eH:=fun f args H=>match Yz R f with
 |some (b6,v)=>if args=b6 then some (.returned v,acb K f args v H) else none
 |none=>none
def dx(K:eL)(B:ea)(R:uW)(ops:List Oper)(bf:List jr)(E:cn)(m:aO)(J:aI)(bL:cn->aO->aI->Prop):Prop:=
 ∀S H,Sat E S->Inv K.g0 B J m H->∃aS H' cL m' ag,dK K.P (il K.Q (Ce K R)) (g' K.Q hN (Ce K R)).aR ops bf S H=some (.ok aS H')/\Sat cL aS/\Inv K.g0 B ag m' H'/\bL cL m' ag
section
variable {K:eL}{B:ea}{R:uW}{ops:List Oper}{bf:List jr}{E:cn}{m m':aO}{J:aI}{o:Oper}{bL:cn->aO->aI->Prop}{c0:Exit->cn->aO->aI->Prop}
variable {n:Nat}{ds:e7}{l:List (Nat×Value)}{d i g:Nat}{want b:Bool}
theorem ab.Dp(R:uW){id:Nat}{a:Array Oper}(av:H4 a.toList=none)(dt:Dn a.toList=true)(aw:IB a.toList=bf)(h:dx K B R a.toList bf E m J fun E m J=>c0 .normal E m J):ab K B (.region id a true) E m J c0:=by
 intro S H ax aJ;obtain⟨aS,H',cL,m',ag,aa,ae,aG,br⟩:=h S H ax aJ;refine⟨.normal,aS,H',cL,m',ag,ef.xW K.dD.rH hN (Ce K R) ?_,ae,aG,br⟩;show rP (vo K.P (g' K.Q hN (Ce K R)).call (g' K.Q hN (Ce K R)).aR a.toList S H)=_;rw[Jg];unfold vo;rw[av];show rP (w5 K.P (il K.Q (Ce K R)) (g' K.Q hN (Ce K R)).aR a.toList S H)=_;unfold w5;rw[dt,cb,aw,aa];rfl
theorem dx.nil(h:bL E m J):dx K B R ops [] E m J bL:=fun S H ax aJ=>⟨S,H,E,m,J,rfl,ax,aJ,h⟩
theorem dx.split(au:look l d=some (.bool b))(aa:b=true->dx K B R ops bf ⟨n,ds,(d,.bool true)::l⟩ m J bL)(bD:b=false->dx K B R ops bf ⟨n,ds,(d,.bool false)::l⟩ m J bL):dx K B R ops bf ⟨n,ds,l⟩ m J bL:=by
 intro S H ax aJ;have key:∀c:Bool,b=c->Sat ⟨n,ds,(d,.bool c)::l⟩ S:=fun c e=>by
  subst e;refine⟨ax.n,ax.ds,ax.b2,ax.bJ,ax.cJ,ax.has,fun t v q=>?_⟩;have a6:(bif Nat.beq t d then some (Value.bool b) else look l t)=some v:=q;cases c7:Nat.beq t d with
  |true=>rw[c7,cb] at a6;obtain rfl:=eN c7;rw[<-a6];exact ax.get _ _ au
  |false=>rw[c7,dZ] at a6;exact ax.get t v a6
 cases b with
 |true=>exact aa rfl S H (key true rfl) aJ
 |false=>exact bD rfl S H (key false rfl) aJ
theorem dx.ZV{v:Value}(ao:nth ops i=some o)(cY:∀S,Sat ⟨n,ds,l⟩ S->fj ops S.T o=some true)(aZ:o.dst=some d)(aP:Nat.blt d n=true)(az:cV K B o n ds l m J v)(h:dx K B R ops bf ⟨n,ds,(d,v)::l⟩ m J bL):dx K B R ops (.val i::bf) ⟨n,ds,l⟩ m J bL:=by
 intro S H ax aJ;obtain⟨bq,s1,s2⟩:=ax.put (dst:=some d) aP v;obtain⟨aS,H',cL,m',ag,aa,ae,aG,br⟩:=h bq H s2 aJ;refine⟨aS,H',cL,m',ag,?_,ae,aG,br⟩;show jl ops i (mI K.P _ _ ops S H (dK K.P _ _ ops bf))=_;unfold jl;rw[ao];show mI K.P _ _ ops S H (dK K.P _ _ ops bf) o=_;unfold mI;rw[cY S ax];show Ct S H o.dst (dK K.P _ _ ops bf) (cO K.P _ _ S H o)=_;rw[az _ _ S H ax aJ,aZ];show(bif Nat.beq H.ak H.ak then pM (dK K.P _ _ ops bf) H (S.put (some d) v) else none)=_;rw[hA,cb,s1];exact aa
theorem dx.ZU(ao:nth ops i=some o)(cY:∀S,Sat ⟨n,ds,l⟩ S->fj ops S.T o=some false)(aZ:o.dst=some d)(aP:Nat.blt d n=true)(h:dx K B R ops bf ⟨n,ds,(d,undef)::l⟩ m J bL):dx K B R ops (.val i::bf) ⟨n,ds,l⟩ m J bL:=by
 intro S H ax aJ;obtain⟨bq,s1,s2⟩:=ax.put (dst:=some d) aP undef;obtain⟨aS,H',cL,m',ag,aa,ae,aG,br⟩:=h bq H s2 aJ;refine⟨aS,H',cL,m',ag,?_,ae,aG,br⟩;show jl ops i (mI K.P _ _ ops S H (dK K.P _ _ ops bf))=_;unfold jl;rw[ao];show mI K.P _ _ ops S H (dK K.P _ _ ops bf) o=_;unfold mI;rw[cY S ax];show pM (dK K.P _ _ ops bf) H (S.put o.dst undef)=_;rw[aZ,s1];exact aa
theorem afB(aq:o.guard=none):∀S,Sat ⟨n,ds,l⟩ S->fj ops S.T o=some true:=fun S ax=>by unfold fj;rw[aq]
theorem UI(aq:mr ops o=some (g,want))(au:look l g=some (.bool b))(hw:(b==want)=true):∀S,Sat ⟨n,ds,l⟩ S->fj ops S.T o=some true:=fun S ax=>by rw[Ke aq (ax.get g _ au),hw]
theorem UG(aq:mr ops o=some (g,want))(au:look l g=some (.bool b))(hw:(b==want)=false):∀S,Sat ⟨n,ds,l⟩ S->fj ops S.T o=some false:=fun S ax=>by rw[Ke aq (ax.get g _ au),hw]
theorem UH(aq:mr ops o=some (g,want))(au:look l g=some undef):∀S,Sat ⟨n,ds,l⟩ S->fj ops S.T o=some false:=fun S ax=>UU aq (ax.get g _ au)
theorem dx.val{v:Value}(ao:nth ops i=some o)(aq:o.guard=none)(aZ:o.dst=some d)(aP:Nat.blt d n=true)(az:cV K B o n ds l m J v)(h:dx K B R ops bf ⟨n,ds,(d,v)::l⟩ m J bL):dx K B R ops (.val i::bf) ⟨n,ds,l⟩ m J bL:=dx.ZV ao (afB aq) aZ aP az h
theorem dx.L8{v:Value}(ao:nth ops i=some o)(aq:mr ops o=some (g,want))(au:look l g=some (.bool b))(hw:(b==want)=true)(aZ:o.dst=some d)(aP:Nat.blt d n=true)(az:cV K B o n ds l m J v)(h:dx K B R ops bf ⟨n,ds,(d,v)::l⟩ m J bL):dx K B R ops (.val i::bf) ⟨n,ds,l⟩ m J bL:=dx.ZV ao (UI aq au hw) aZ aP az h
theorem dx.ZT(ao:nth ops i=some o)(aq:mr ops o=some (g,want))(au:look l g=some (.bool b))(hw:(b==want)=false)(aZ:o.dst=some d)(aP:Nat.blt d n=true)(h:dx K B R ops bf ⟨n,ds,(d,undef)::l⟩ m J bL):dx K B R ops (.val i::bf) ⟨n,ds,l⟩ m J bL:=dx.ZU ao (UG aq au hw) aZ aP h
theorem dx.oj(ao:nth ops i=some o)(aq:mr ops o=some (g,want))(au:look l g=some undef)(aZ:o.dst=some d)(aP:Nat.blt d n=true)(h:dx K B R ops bf ⟨n,ds,(d,undef)::l⟩ m J bL):dx K B R ops (.val i::bf) ⟨n,ds,l⟩ m J bL:=dx.ZU ao (UH aq au) aZ aP h
theorem nQ.of{v u:Value}(ao:nth ops i=some o)(cY:∀S,Sat ⟨n,ds,l⟩ S->fj ops S.T o=some true)(aZ:o.dst=some d)(az:cV K B o n ds l m J v)(hu:look l d=some u)(he:iC 8 v u=true):nQ K B ops n ds l m J i:=by
 intro call aR S H ax aJ;unfold wR;rw[ao];show JU K.P call aR ops S H o (fj ops S.T o)=true;rw[cY S ax];show JV H.ak S.T o.dst (cO K.P call aR S H o)=true;rw[az _ _ S H ax aJ,aZ];show(Nat.beq H.ak H.ak&&(match S.T.get d with|some u=>iC 8 v u|none=>false))=true
 rw[hA,ax.get d u hu];simpa using he
theorem nQ.L8{v u:Value}(ao:nth ops i=some o)(aq:mr ops o=some (g,want))(au:look l g=some (.bool b))(hw:(b==want)=true)(aZ:o.dst=some d)(az:cV K B o n ds l m J v)(hu:look l d=some u)(he:iC 8 v u=true):nQ K B ops n ds l m J i:=nQ.of ao (UI aq au hw) aZ az hu he
theorem nQ.no(ao:nth ops i=some o)(cY:∀S,Sat ⟨n,ds,l⟩ S->fj ops S.T o=some false):nQ K B ops n ds l m J i:=by
 intro call aR S H ax aJ;unfold wR;rw[ao];show JU K.P call aR ops S H o (fj ops S.T o)=true;rw[cY S ax];rfl
theorem aow{op:BinOp}{t eD:TypeId}{x y:Operand}{a c:Bool}{v:Value}(ar:o.op=.binOp op t x y eD)(U:b7 l x=some (.bool a))(ai:b7 l y=some (.bool c))(dW:op=.eql/\v=.bool (decide (a=c))\/op=.neq/\v=.bool (decide (¬a=c)))(aD:K.P.underlying t=some .bool):cV K B o n ds l m J v:=by
 intro call aR S H ax aJ;unfold cO fq;simp only[ar];show nM K.P _ op t (bk S.T H x) (bk S.T H y)=_;rw[du ax H U,du ax H ai];show orElse (fI K.P S.T H o) _=_;have vF:eP K.P (Op.equal t (.bool a) (.bool c))=some (decide (a=c)):=by
  show eP K.P (Op.equalIn (9999+1) t (.bool a) (.bool c))=_;unfold Op.equalIn;rw[dL (w6 aD)];show some (a==c)=_;cases a<;>cases c<;>rfl
 have:fI K.P S.T H o=some (.val v H):=by
  rcases dW with⟨rfl,rfl⟩|⟨rfl,rfl⟩
  ·refine uz ax (by rw[ar];rfl) U ai rfl rfl ?_ rfl;unfold execOp;simp only[ar];rw[jy ax H U,jy ax H ai];have au:binOp .eql t (.bool a) (.bool c)=(do pure (.bool (<-Op.equal t (.bool a) (.bool c)))):=by simp[binOp]
   have aq:eP K.P (eqGuard .eql t x y (.bool a) (.bool c))=some ():=rfl;rw[dL (a:=.bool (decide (a=c)))]
   ·rfl
   rw[dL aq,au,dL vF];rfl
  ·refine uz ax (by rw[ar];rfl) U ai rfl rfl ?_ rfl;unfold execOp;simp only[ar];rw[jy ax H U,jy ax H ai];have au:binOp .neq t (.bool a) (.bool c)=(do pure (.bool (!(<-Op.equal t (.bool a) (.bool c))))):=by simp[binOp]
   have aq:eP K.P (eqGuard .neq t x y (.bool a) (.bool c))=some ():=rfl;rw[dL (a:=.bool (decide (¬a=c)))]
   ·rfl
   rw[dL aq,au,dL vF];show some (Value.bool (!decide (a=c)))=_;rw[show(!decide (a=c))=decide (¬a=c) by simp]
 rw[this];rfl
theorem ZX(b:Bool)(n:Nat):iC (n+1) (.bool b) (.bool b)=true:=by cases b<;>rfl
theorem Z0(s:ByteArray)(n:Nat):iC (n+1) (.string s) (.string s)=true:=by
 show decide (s.data.toList=s.data.toList)=true;simp
theorem dG.get{CZ:Option Addr}{lH dU:Nat}{N:List Int}(h:dG J (.slice CZ lH dU) N):lH=N.length/\(CZ=none->N=[])/\(0<N.length->∃a off cells e,CZ=some ⟨a,off,none⟩/\J a=some (cells,e)/\∀(i:Int),0<=i->i<N.length->∃x,N[i.toNat]?=some x/\nth cells (off+i.toNat*1)=some (.int .i64 x)):=by
 obtain⟨b,c,aa,ae,aG⟩:=h.inv;injection aa with br eu gK
 subst br;subst eu;subst gK;exact⟨rfl,ae,aG⟩
end
def gw(K:eL)(B:ea)(ops:List Oper)(bf:List jr)(E:cn)(m:aO)(J:aI)(bL:cn->aO->aI->Prop):Prop:=
 ∀S H,Sat E S->Inv K.g0 B J m H->∃aV:eH,(∀f args H1 r,aV f args H1=some r->H.ak<=H1.ak)/\∃aS H' cL m' ag,
  (∀e9:eH,(∀f args H r,aV f args H=some r->e9 f args H=some r)->dK K.P (il K.Q e9) (g' K.Q hN e9).aR ops bf S H=some (.ok aS H'))/\Sat cL aS/\Inv K.g0 B ag m' H'/\bL cL m' ag
section
variable {K:eL}{B:ea}{ops:List Oper}{bf:List jr}{E:cn}{m m':aO}{J:aI}{o:Oper}{bL:cn->aO->aI->Prop}{c0:Exit->cn->aO->aI->Prop}
variable {n:Nat}{ds:e7}{l:List (Nat×Value)}{d i:Nat}
theorem gw.val{v:Value}(ao:nth ops i=some o)(aq:o.guard=none)(aZ:o.dst=some d)(aP:Nat.blt d n=true)(az:cV K B o n ds l m J v)(h:gw K B ops bf ⟨n,ds,(d,v)::l⟩ m J bL):gw K B ops (.val i::bf) ⟨n,ds,l⟩ m J bL:=by
 intro S H ax aJ;obtain⟨bq,s1,s2⟩:=ax.put (dst:=some d) aP v;obtain⟨aV,dS,aS,H',cL,m',ag,aa,ae,aG,br⟩:=h bq H s2 aJ;refine⟨aV,dS,aS,H',cL,m',ag,fun e9 q=>?_,ae,aG,br⟩;show jl ops i (mI K.P _ _ ops S H (dK K.P _ _ ops bf))=_;unfold jl;rw[ao];show mI K.P _ _ ops S H (dK K.P _ _ ops bf) o=_;unfold mI fj;rw[aq];show Ct S H o.dst (dK K.P _ _ ops bf) (cO K.P _ _ S H o)=_;rw[az _ _ S H ax aJ,aZ];show(bif Nat.beq H.ak H.ak then pM (dK K.P _ _ ops bf) H (S.put (some d) v) else none)=_;rw[hA,cb,s1];exact aa e9 q
theorem gw.call{c:Call}{x:Operand}{f:FuncId}{first cap:Array Value}{args b6:List Value}{eO:Value->aO->aI->Prop}
 (ao:nth ops i=some o)(aq:o.guard=none)(ar:o.op=.call c)(aZ:o.dst=some d)(aP:Nat.blt d n=true)(aH:c.callee=.value x)(U:b7 l x=some (.func (.func f) first cap))(a':h5 l c.args.toList=some args)(has:(first.toList++args)++cap.toList=b6)
 (fQ:Fn K f b6 [] J eO)(Hl:∀v m' ag,eO v m' ag->∃a b,(a,b)∈m')(h:∀v m' ag,J.le ag->eO v m' ag->gw K B ops bf ⟨n,ds,(d,v)::l⟩ (m'++m) ag bL):gw K B ops (.bV i::bf) ⟨n,ds,l⟩ m J bL:=by
 intro S H ax aJ;obtain⟨v,H',ag,m',bp,bC,b5⟩:=fQ H (aJ.enter (bh:=[]) (bW:=m) (.refl _) trivial);obtain⟨da,gM⟩:=aJ.leave (bh:=[]) (bW:=m) (.refl _) bC;have e0:H.ak<H'.ak:=by
  obtain⟨a,b,mV⟩:=Hl _ _ _ b5;have aa:=bC.lt mV;rcases(bC.own a b mV).2.1 with q|q
  ·have q:H.ak<=a:=q;omega
  ·cases q
 obtain⟨bq,s1,s2⟩:=ax.put (dst:=some d) aP v;obtain⟨aV,dS,aS,qQ,cL,iy,s7,aa,ae,aG,br⟩:=h v m' ag gM b5 bq H' s2 da;refine⟨fun cW cz H1=>if H1.ak=H.ak then nz f b6 H (.returned v,H') cW cz H1 else aV cW cz H1,fun cW cz H1 r q=>?_,aS,qQ,cL,iy,s7,fun e9 q=>?_,ae,aG,br⟩
 ·simp only at q;split at q
  ·omega
  ·have:=dS cW cz H1 r q;omega
 ·have hC:e9 f b6 H=some (.returned v,H'):=q f b6 H _ (by simp only[Ek];unfold nz;rw[aE ⟨rfl,rfl,rfl⟩]);have Bw:∀cW cz H1 r,aV cW cz H1=some r->e9 cW cz H1=some r:=fun cW cz H1 r ay=>q cW cz H1 r (by
   simp only
   rw[ap (by have:=dS cW cz H1 r ay;omega)];exact ay)
  show jl ops i (fun o=>kn (dK K.P _ _ ops bf) (one K.P _ _ ops S H o))=_;unfold jl;rw[ao];show kn (dK K.P _ _ ops bf) (one K.P _ _ ops S H o)=_;unfold one fj;rw[aq];show kn (dK K.P _ _ ops bf) (pD S H o.dst (cO K.P _ _ S H o))=_;have he:cO K.P (il K.Q e9) (g' K.Q hN e9).aR S H o=some (.val v H'):=by
   unfold cO fq;simp only[ar];show lI K.P _ c=_;unfold lI;rw[aH];show po K.P _ _ S.T H c=_;unfold po;rw[oI ax H a'];simp only[aH];rw[du ax H U];simp only
   show(match mU K.P H (.func f) (first.toList++args) cap.toList with|some (f,b6)=>q8 (il K.Q _ f b6 H)|none=>none)=_
   unfold mU;simp only
   rw[has,F' bp hC];rfl
  rw[he,aZ];show kn (dK K.P _ _ ops bf) (pI H' (S.put (some d) v))=_;rw[s1];exact aa e9 Bw
theorem gw.cF{is:List Nat}(aH:s4 K B ops n ds l m J is)(h:gw K B ops bf ⟨n,ds,l⟩ m J bL):gw K B ops (.cF is::bf) ⟨n,ds,l⟩ m J bL:=by
 intro S H ax aJ;obtain⟨aV,dS,aS,H',cL,m',ag,aa,ae,aG,br⟩:=h S H ax aJ;refine⟨aV,dS,aS,H',cL,m',ag,fun e9 q=>?_,ae,aG,br⟩;show AJ K.P _ _ ops S H (dK K.P _ _ ops bf) is=_;unfold AJ;rw[s4.all ax aJ aH,cb];exact aa e9 q
end
section
variable {K:eL}{B:ea}{ops:List Oper}{bf:List jr}{F:List (FuncId×List Value)}{m m':aO}{J:aI}{o:Oper}{bL:cn->aO->aI->Prop}
variable {n:Nat}{ds:e7}{l:List (Nat×Value)}{d i:Nat}
theorem alM{S:bi}(ax:Sat ⟨n,ds,l⟩ S):∀{xs:List (Nat×Operand)} {vs:List (Nat×Value)},tz l xs=some vs->sS S.T xs=some vs:=by
 intro xs;induction xs with
 |nil=>intro vs h;exact h
 |cons x r aK=>
  obtain⟨i,x⟩:=x;intro vs h;simp only[tz] at h;simp only[sS];cases U:b7 l x with
  |none=>rw[U] at h;cases h
  |some v=>
   rw[U] at h;simp only at h;rw[QI ax U];simp only;cases ay:tz l r with
   |none=>rw[ay] at h;cases h
   |some ws=>rw[ay] at h;simp only at h;rw[aK ay];exact h
theorem a7.buildSlice{t e:TypeId}{k sz:Nat}{gf cells:List Value}{eG:Array (Nat×Operand)}{vs:List (Nat×Value)}(ao:nth ops i=some o)(aq:o.guard=none)(ar:o.op=.buildSlice t k eG)(aZ:o.dst=some d)(aP:Nat.blt d n=true)(aw:tz l eG.toList=some vs)(aD:jS K.P t=some (e,sz,gf))(aU:(Nat.ble k 100000&&Nat.ble (k*sz) 100000)=true)(aC:nC (fun i=>some (i*sz,sz)) (gG gf k) vs=some cells)(aa:cells.all eQ=true)
 (h:∀a,a7 K B ops bf F ⟨n,ds,(d,.slice (some ⟨a,0,none⟩) k k)::l⟩ ((a,.row cells e)::m) J bL):a7 K B ops (.gh i::bf) F ⟨n,ds,l⟩ m J bL:=by
 obtain⟨hu,eU,gS,z,h',bN,bm,rfl,bl,b8,gx⟩:=x2 aD;refine a7.gh (b:=.row cells e false 0 0 false) (p:=.row cells e) (ep:=.Ck k k) ao aq aZ aP (fun S ax=>?_) (fun H a q=>q) (fun c e r z q=>by cases q) h;rw[ar];simp only[nx];rw[alM ax aw];simp only[FM,hu,eU,bN];rw[aU,gx,show Nat.beq z.cells.toList.length sz=true by rw[bl];exact hA _];simp only[wg,cb,aC,aa]
theorem Acc.form{e:TypeId}{sz k:Nat}{v:Value}{cells:List Value}{aY:aO}(h:Acc e sz v k cells aY):∃b c,v=.slice b k c:=by
 cases h with
 |nil=>exact⟨_,_,rfl⟩
 |kp a=>exact⟨_,_,rfl⟩
 |opn h=>exact⟨_,_,rfl⟩
 |cap=>exact⟨_,_,rfl⟩
end
end
end Go.Opn
