/- A part of the proof of ResumeBytes. -/
import Derived.Test.YtkmfhjilfjecmaaGreatDoorCas
set_option linter.unusedVariables false
set_option linter.unusedSimpArgs false
namespace Go.Opn
noncomputable section
open Go.Cre Go.RowKit
theorem LU{P:Program}{t:TypeId}{cs:Array Value}{off:Nat}{v:Value}{k:IntKind}(hu:P.underlying t=some (.int k))(h:cs[off]?=some v):eY P (part t cs off)=some v:=by
 unfold part;rw[eb (a:=false)]
 ·show eY P (match cs[off]? with|some v=>pure v|none=>stuck "part: no such cell")=_
  rw[h];rfl
 ·unfold isAgg;rw[eb (y9 hu)];rfl
theorem eq_int{P:Program}{t:TypeId}{k:IntKind}{n:Nat}{a b:Int}(hu:P.underlying t=some (.int k)):eY P (Op.equalIn (n+1) t (.int .i64 a) (.int .i64 b))=some (decide (a=b)):=by
 unfold Op.equalIn;rw[eb (y9 hu)];show eY P (if IntKind.i64=IntKind.i64 then pure (a==b) else _)=_;rw[aE rfl];show some (a==b)=_;rw[show(a==b)=decide (a=b) from rfl]
theorem akZ{P:Program}{n:Nat}{xs ys:Array Value}:∀(kv:List Field) (bT bs:List Int) (k:Nat),kv.length=bT.length->bT.length=bs.length->(∀i f,kv[i]?=some f->f.name≠ "_"/\P.underlying f.type=some (.int .i64)/\f.offset=k+i)->(∀i a,bT[i]?=some a->xs[k+i]?=some (.int .i64 a))->(∀i a,bs[i]?=some a->ys[k+i]?=some (.int .i64 a))->
 eY P (forIn kv ((none,()):Option Bool×Unit) fun f aqQ=>
        if f.name≠ "_" then do
           let tu <-part f.type xs f.offset
           let FU <-part f.type ys f.offset
           let tu <-Op.equalIn (n+1) f.type tu FU
           if(!tu)=true then pure (ForInStep.done (some false,()))
             else pure (ForInStep.yield (none,()))
        else pure (ForInStep.yield (none,())))=some (if bT=bs then none else some false,()):=by
 intro kv;induction kv with
 |nil=>
  intro bT bs k aa ae _ _ _;obtain rfl:bT=[]:=yA (by simpa using aa.symm);obtain rfl:bs=[]:=yA (by simpa using ae.symm);rfl
 |cons f kv aI=>
  intro bT bs k aa ae aD U ai;cases bT with
  |nil=>cases aa
  |cons a bT=>
   cases bs with
   |nil=>cases ae
   |cons b bs=>
    obtain⟨f1,f2,f3⟩:=aD 0 f rfl;rw[SE]
    have bA:eY P (if f.name≠ "_" then do
             let tu <-part f.type xs f.offset
             let FU <-part f.type ys f.offset
             let tu <-Op.equalIn (n+1) f.type tu FU
             if(!tu)=true then pure (ForInStep.done ((some false,()):Option Bool×Unit))
              else pure (ForInStep.yield (none,()))
            else pure (ForInStep.yield (none,())))=some (if a=b then ForInStep.yield (none,()) else ForInStep.done (some false,())):=by
     rw[aE f1,eb (LU f2 (by rw[f3];exact U 0 a rfl)),eb (LU f2 (by rw[f3];exact ai 0 b rfl)),eb (eq_int f2)];by_cases nb:a=b
     ·simp[nb];rfl
     ·simp[nb];rfl
    rw[eb bA];by_cases nb:a=b
    ·rw[aE nb]
     simp only
     rw[aI bT bs (k+1) (by simpa using aa) (by simpa using ae) (fun i g aq=>by obtain⟨g1,g2,g3⟩:=aD (i+1) g aq;exact⟨g1,g2,by omega⟩) (fun i c aC=>by have:=U (i+1) c aC;rwa [show k+(i+1)=k+1+i by omega] at this) (fun i c aC=>by have:=ai (i+1) c aC;rwa [show k+(i+1)=k+1+i by omega] at this)];simp[nb]
    ·rw[an nb]
     simp only
     rw[an (by intro q;injection q with bb a7;exact nb bb)];rfl
def F0 (P:Program):List Field->Nat->Bool
 |[],_=>true
 |f::kv,k=>!(f.name== "_")&&(match P.underlying f.type with|some (.int .i64)=>true|_=>false)&&Nat.beq f.offset k&&F0 P kv (k+1)
def Ll (P:Program)(t:TypeId):Option Nat:=match P.underlying t with
 |some (.struct fields)=>bif F0 P fields.toList 0&&!P.stoodInHeld t&&!P.eqGuardType P.depth t then some fields.toList.length else none
 |_=>none
theorem abr{P:Program}:∀{kv:List Field} {k:Nat},F0 P kv k=true->∀i f,kv[i]?=some f->f.name≠ "_"/\P.underlying f.type=some (.int .i64)/\f.offset=k+i:=by
 intro kv;induction kv with
 |nil=>intro k _ i f h;simp at h
 |cons g kv aI=>
  intro k h i f aD;simp only[F0,fS] at h;obtain⟨⟨⟨aa,ae⟩,aF⟩,bo⟩:=h;cases i with
  |zero=>
   simp at aD;subst aD;refine⟨by simpa using aa,?_,by have:=eO aF;omega⟩;split at ae
   ·assumption
   ·cases ae
  |succ i=>
   obtain⟨bb,a7,b8⟩:=aI bo i f (by simpa using aD);exact⟨bb,a7,by omega⟩
theorem aeC{P:Program}{t:TypeId}{k n:Nat}{bT bs:List Int}(aB:Ll P t=some k)(a1:bT.length=k)(ap:bs.length=k):eY P (Op.equalIn (n+1+1) t (.agg (bT.map (Value.int .i64)).toArray) (.agg (bs.map (Value.int .i64)).toArray))=some (decide (bT=bs))/\P.eqGuardType P.depth t=false/\∃kv,P.underlying t=some (.struct kv):=by
 unfold Ll at aB;split at aB
 ·rename_i fields hu;cases aC:(F0 P fields.toList 0&&!P.stoodInHeld t&&!P.eqGuardType P.depth t) with
  |false=>rw[aC] at aB;cases aB
  |true=>
   rw[aC,b7] at aB;injection aB with aB
   simp only[fS,qU] at aC;obtain⟨⟨c1,c2⟩,c3⟩:=aC;refine⟨?_,c3,fields,hu⟩;unfold Op.equalIn;rw[eb (y9 hu)];simp only
   simp only[<-Array.forIn_toList];rw[eb (a:=P) rfl];rw[an (by simp[c2])];have av:=akZ (P:=P) (n:=n) (xs:=(bT.map (Value.int .i64)).toArray) (ys:=(bs.map (Value.int .i64)).toArray) fields.toList bT bs 0 (by omega) (by omega) (fun i f aD=>by have:=abr c1 i f aD;exact this) (fun i a q=>by simp[q]) (fun i a q=>by simp[q]);rw[eb av];by_cases nb:bT=bs
   ·simp[nb];rfl
   ·simp[nb];rfl
 ·cases aB
section
variable {K:eE}{B:dV}{o:Oper}{n:Nat}{ds:e7}{l:List (Nat×Value)}{m m':aN}{J:aH}{ey:cf->aN->aH->Prop}{d:Nat}
theorem apr{op:BinOp}{t eS:TypeId}{x y:Operand}{k:Nat}{la bs:List Int}{xs ys:Array Value}{b:Bool}(ar:o.op=.binOp op t x y eS)(d':op=.eql/\b=decide (la=bs)\/op=.neq/\b=decide (¬la=bs))(U:b6 l x=some (.agg xs))(ai:b6 l y=some (.agg ys))(aB:Ll K.P t=some k)(Ex:xs=(la.map (Value.int .i64)).toArray)(akc:ys=(bs.map (Value.int .i64)).toArray)(a1:la.length=k)(ap:bs.length=k):dm K B o n ds l m J (.bool b):=by
 subst Ex;subst akc;obtain⟨aa,ae,kv,aF⟩:=aeC (n:=9998) aB a1 ap;intro call aR S H ax aJ;have dE:∀gi:List Int,plain (.agg (gi.map (Value.int .i64)).toArray)=true:=fun gi=>by
  show(gi.map (Value.int .i64)).all (iF 7)=true;rw[List.all_map,tk];intro i _;rfl
 unfold cJ fe;simp only[ar];show pd K.P _ op t (bj S.T H x) (bj S.T H y)=_;rw[dy ax H U,dy ax H ai];show orElse (gm K.P S.T H o) _=_;have:gm K.P S.T H o=some (.val (.bool b) H):=by
  refine zS ax (by rw[ar];rfl) U ai (dE _) (dE _) ?_ rfl;unfold execOp;simp only[ar];rw[lH ax H U,lH ax H ai];rw[eb (a:=.bool b)]
  ·rfl
  rcases d' with⟨rfl,rfl⟩|⟨rfl,rfl⟩
  ·rw[eb (a:=())]
   ·have ap:binOp .eql t (.agg (la.map (Value.int .i64)).toArray) (.agg (bs.map (Value.int .i64)).toArray)=(do pure (.bool (<-Op.equal t (.agg (la.map (Value.int .i64)).toArray) (.agg (bs.map (Value.int .i64)).toArray)))):=by simp[binOp]
    rw[ap,eb (s:=Op.equal t _ _) aa];rfl
   ·unfold eqGuard;simp only[lY,Fx,EA];rw[eb (a:=K.P) rfl,eb (a:=K.P) rfl,ae];rfl
  ·rw[eb (a:=())]
   ·have ap:binOp .neq t (.agg (la.map (Value.int .i64)).toArray) (.agg (bs.map (Value.int .i64)).toArray)=(do pure (.bool (!(<-Op.equal t (.agg (la.map (Value.int .i64)).toArray) (.agg (bs.map (Value.int .i64)).toArray))))):=by simp[binOp]
    rw[ap,eb (s:=Op.equal t _ _) aa];show some (Value.bool (!decide (la=bs)))=_;rw[show(!decide (la=bs))=decide (¬la=bs) by simp]
   ·unfold eqGuard;simp only[lY,Fx,EA];rw[eb (a:=K.P) rfl,eb (a:=K.P) rfl,ae];rfl
 rw[this];rfl
theorem Acc.fw{c:Code}{e:TypeId}{sz k:Nat}{v:Value}{cells:List Value}{aY m0:aN}{E:cf}{cX:Exit->cf->aN->aH->Prop}(h:Acc e sz v k cells aY)(hm:m=aY++m0)(aO:∀af,J.le af->hL af e sz v k cells->ab K B c E m0 af cX):ab K B c E m J cX:=by
 subst hm;cases h with
 |nil=>exact aO J (aH.le.refl _) .nil
 |kt a=>exact aO J (aH.le.refl _) (.kt _ _ _ (by decide))
 |@opn a k cells rest z av bE=>
  intro S H ax aJ;obtain⟨bl,bp⟩:=aJ.mJ (m:=m0) (x:=(cells,e)) rfl;exact aO _ bp (.row (aH.oL _ _ _) (by rw[mr,eo (by omega)]) av (fun q=>absurd rfl q) (fun _=>rfl)) S H ax bl
 |@cap a k C cells full el aa ae aF bo=>
  intro S H ax aJ;obtain⟨bl,bp⟩:=aJ.mJ (m:=m0) (x:=(full,el)) rfl;exact aO _ bp (.row (aH.oL _ _ _) ae (by rw[<-ae,iu,aa,mu (nB _ aF)]) (fun _=>⟨aF,bo⟩) (fun q=>absurd q (Nat.ne_of_lt bo))) S H ax bl
end
section
variable {K:eE}{B:dV}{o:Oper}{n:Nat}{ds:e7}{l:List (Nat×Value)}{m m':aN}{J:aH}{ey:cf->aN->aH->Prop}{d:Nat}{cX:Exit->cf->aN->aH->Prop}
theorem wrap_u8{n:Int}(aa:0<=n)(ae:n<=255):IntKind.u8.wrap n=n:=by
 unfold IntKind.wrap IntKind.signed IntKind.bits;simp only[Bool.false_and,Fx,EA];omega
def Nb (a b:Int):BinOp->Option Int
 |.add=>some (a+b)
 |.sub=>some (a -b)
 |.mul=>some (a*b)
 |_=>none
theorem My{op:BinOp}{t eS:TypeId}{x y:Operand}{k:IntKind}{a b c cd:Int}(ar:o.op=.binOp op t x y eS)(U:b6 l x=some (.int k a))(ai:b6 l y=some (.int k b))(ay:Nb a b op=some c)(hw:k.wrap c=cd):dm K B o n ds l m J (.int k cd):=by
 refine Z7 ar U ai ?_;cases op<;>simp only[Nb,cp,reduceCtorEq] at ay<;>subst ay<;>subst hw<;>rfl
theorem Vi{S:bh}{ops:List Oper}{d:Nat}{want:Bool}(aq:mY ops o=some (d,want))(ap:S.T.get d=some undef):fD ops S.T o=some false:=by
 unfold mY at aq;unfold fD;cases q:o.guard with
 |none=>rw[q] at aq;cases aq
 |some x=>
  obtain⟨j,w⟩:=x;rw[q] at aq;show vF ops S.T (j,w)=_;unfold vF;simp only at aq ⊢;cases aP:nth ops j with
  |none=>rfl
  |some p=>
   rw[aP] at aq;simp only at aq ⊢;cases aV:p.dst with
   |none=>rfl
   |some hB=>
    rw[aV] at aq;simp only[cp,dB] at aq;obtain⟨rfl,rfl⟩:=aq;simp only[ap];rfl
theorem W.agP{ops rest:List Oper}{bH:Option (List PanicEntry)->cf->aN->aH->Prop}{d e:Nat}{want:Bool}(aq:mY ops o=some (d,want))(ap:look l d=some undef)(aV:o.dst=some e)(aP:Nat.blt e n=true)(h:W K B ops rest ⟨n,ds,(e,undef)::l⟩ m J bH):W K B ops (o::rest) ⟨n,ds,l⟩ m J bH:=by
 intro S H ax aJ;have dd:=Vi aq (ax.get d _ ap);obtain⟨bn,s1,s2⟩:=ax.put (dst:=some e) aP undef;obtain⟨p,aS,H',E',m',af,bl,bp,bQ,cU⟩:=h bn H s2 aJ;refine⟨p,aS,H',E',m',af,.cons gW lq ?_ bl,bp,bQ,cU⟩;unfold one;rw[dd];show pg H (S.put o.dst undef)=_;rw[aV,s1];rfl
theorem ab.hl{c:Code}(k:Nat)(news:List (Nat×Value))(aa:ab K B c ⟨n,ds,l⟩ m J fun e E' m' af=>match e with
 |.normal=>(∃l',E'=⟨n,ds,l'⟩/\pY l' (news++l.drop k))/\m.Sublist m'/\af=J
 |e=>cX e E' m' af)(ae:cX .normal ⟨n,ds,news++l.drop k⟩ m J):ab K B c ⟨n,ds,l⟩ m J cX:=ab.cut aa ae
theorem ab.akY{α:Type}{c:Code}{base:List (Nat×Value)}(s0:α->List (Nat×Value))(mem:α->aN)(fw:α->aH)(inv:α->Prop)(sY:α->Nat)(s:α)(hs:inv s)
 (bA:∀s,inv s->ab K B c ⟨n,ds,s0 s++base⟩ (mem s) (fw s) fun e E m J=>match e with
  |.normal=>∃c4 l,inv c4/\sY c4<sY s/\E=⟨n,ds,l⟩/\pY l (s0 c4++base)/\(mem c4).Sublist m/\J=fw c4
  |e=>cX e E m J):ab K B (.loop c) ⟨n,ds,s0 s++base⟩ (mem s) (fw s) cX:=
 ab.loop (fun s=>s0 s++base) mem fw inv sY bA s hs
theorem ab.rT{α:Type}{c:Code}{base:List (Nat×Value)}(s0:α->List (Nat×Value))(inv:α->Prop)(sY:α->Nat)(s:α)(hs:inv s)
 (bA:∀s,inv s->ab K B c ⟨n,ds,s0 s++base⟩ m J fun e E m1 dO=>match e with
  |.normal=>∃c4 l,inv c4/\sY c4<sY s/\E=⟨n,ds,l⟩/\pY l (s0 c4++base)/\m.Sublist m1/\dO=J
  |e=>cX e E m1 dO):ab K B (.loop c) ⟨n,ds,s0 s++base⟩ m J cX:=
 ab.loop (fun s=>s0 s++base) (fun _=>m) (fun _=>J) inv sY bA s hs
theorem cQ.app{aY m m':aN}{a:Nat}{b b':cC}(h:cQ m a b b' m'):cQ (aY++m) a b b' (aY++m'):=by
 induction aY with
 |nil=>exact h
 |cons x aY aI=>exact .tail x aI
theorem W.fw{ops rest:List Oper}{bH:Option (List PanicEntry)->cf->aN->aH->Prop}{E:cf}{a:Nat}{b:cC}{x:List Value×TypeId}(U:b.rowOf=some x)(h:J.le (J.add a x)->(J.add a x) a=some x->W K B ops rest E m (J.add a x) bH):W K B ops rest E ((a,b)::m) J bH:=by
 intro S H ax aJ;obtain⟨bl,bp⟩:=aJ.mJ U;exact h bp (aH.oL _ _ _) S H ax bl
def dI(J:aH)(v:Value)(l:List Int):Prop:=∃e,hL J e 1 v l.length (l.map (Value.int .i64))
theorem dI.mono{af:aH}(hle:J.le af){v:Value}{l:List Int}(h:dI J v l):dI af v l:=by obtain⟨e,h⟩:=h;exact⟨e,h.mono hle⟩
theorem dI.inv{v:Value}{l:List Int}(h:dI J v l):∃b c,v=.slice b l.length c/\(b=none->l=[])/\(0<l.length->∃a off cells e,b=some ⟨a,off,none⟩/\J a=some (cells,e)/\∀(i:Int),0<=i->i<l.length->∃x,l[i.toNat]?=some x/\nth cells (off+i.toNat*1)=some (.int .i64 x)):=by
 obtain⟨e,h⟩:=h;obtain⟨b,c,aa,ae,bo,aF⟩:=hL.inv h;refine⟨b,c,aa,fun q=>yA (bo q),fun q=>?_⟩;obtain⟨a,off,cells,e,bl,bp,bQ⟩:=aF q;refine⟨a,off,cells,e,bl,bp,fun i i0 i1=>?_⟩;have cV:i.toNat<l.length:=by omega
 refine⟨l[i.toNat],dj cV,?_⟩;rw[yE,bQ _ (by omega),oF,dj cV];rfl
theorem dI.lit{a:Nat}{l:List Int}{e:TypeId}(av:l.length<cZ)(h:J a=some (l.map (Value.int .i64),e)):dI J (.slice (some ⟨a,0,none⟩) l.length l.length) l:=
 ⟨e,.row h (by rw[mr,eo (by simp)]) (by simp) (fun _=>⟨cW _,av⟩) (fun q=>absurd q (by omega))⟩
theorem get_at{α:Type}(s:List α)(i:Nat)(h:i<s.length):∃b,s[((i:Nat):Int).toNat]?=some b/\s[i]?=some b:=⟨s[i],by simp[h],dj h⟩
theorem aps{c:Call}{s:List UInt8}{t:TypeId}(ar:o.op=.call c)(aC:c.callee=.builtin .len)(a1:hY l c.args.toList=some [.string ⟨⟨s⟩⟩])(aB:c.argTypes.toList=[t])(hs:sW K.P t=true):dm K B o n ds l m J (.int .i64 s.length):=apu ar aC a1 aB hs
theorem apo{t:TypeId}{x aW:Operand}{s:List UInt8}{k:IntKind}{i:Int}{b:UInt8}(ar:o.op=.index t x aW)(U:b6 l x=some (.string ⟨⟨s⟩⟩))(ao:b6 l aW=some (.int k i))(aB:sW K.P t=true)(bw:0<=i)(ap:s[i.toNat]?=some b):dm K B o n ds l m J (.int .u8 b.toNat):=apq ar U ao aB bw ap
def Ja (P:Program)(s t:TypeId):Option TypeId:=match P.underlying s,P.underlying t with
 |some .string,some (.slice e)=>(match P.underlying e with|some (.int .u8)=>bif Nat.beq (P.cellsOf e) 1 then some e else none|_=>none)
 |_,_=>none
def l5(s:List UInt8):List Value:=s.map fun b=>Value.int .u8 b.toNat
theorem amR{α:Type}:∀(L:List α) (k:Nat) (h:k<L.length),(L[k]::L.eraseIdx k).Perm L:=by
 intro L;induction L with
 |nil=>intro k h;cases h
 |cons a L aI=>
  intro k h;cases k with
  |zero=>exact Sz _
  |succ k=>exact(List.Perm.swap _ _ _).trans ((aI k (by simpa using h)).cons a)
theorem fN{α:Type}{p:α}{rest L:List α}(k:Nat)(au:nth L k=some p)(aw:rest.Perm (L.eraseIdx k)):(p::rest).Perm L:=by
 rw[kE] at au;obtain⟨h,rfl⟩:=dY.1 au;exact(aw.cons _).trans (amR L k h)
end
section
variable {K:eE}{B:dV}{n:Nat}{ds:e7}{l:List (Nat×Value)}{m:aN}{J:aH}{cX:Exit->cf->aN->aH->Prop}
end
structure Grow (H H':aA):Prop where
 wf:jk H'
 bW:H'.bW=H.bW
 ak:H.ak<=H'.ak
 cn:H.cn<=H'.cn
 eC:∀a,a<H.ak->H'.mem.get a=H.mem.get a
 nQ:∀f,f<H.cn->H'.bI.get f=H.bI.get f
open Classical in
def acL (K:eE)(f:FuncId)(bT:List Value)(v:Value)(H:aA):aA:=if h:∃H',ly K.Q f bT H (.returned v) H'/\Grow H H' then Classical.choose h else H
abbrev u2:=List (FuncId×List Value×Value)
def Y1:u2->FuncId->Option (List Value×Value)
 |[],_=>none
 |(g,bT,v)::R,f=>bif Nat.beq f g then some (bT,v) else Y1 R f
open Classical in
def Cq (K:eE)(R:u2):eH:=fun f args H=>match Y1 R f with
 |some (bT,v)=>if args=bT then some (.returned v,acL K f args v H) else none
 |none=>none
def dv(K:eE)(B:dV)(R:u2)(ops:List Oper)(bc:List jF)(E:cf)(m:aN)(J:aH)(bH:cf->aN->aH->Prop):Prop:=
 ∀S H,Sat E S->Inv K.g0 B J m H->∃aS H' E' m' af,dL K.P (hM K.Q (Cq K R)) (gH K.Q gW (Cq K R)).aR ops bc S H=some (.ok aS H')/\Sat E' aS/\Inv K.g0 B af m' H'/\bH E' m' af
section
variable {K:eE}{B:dV}{R:u2}{ops:List Oper}{bc:List jF}{E:cf}{m m':aN}{J:aH}{o:Oper}{bH:cf->aN->aH->Prop}{cX:Exit->cf->aN->aH->Prop}
variable {n:Nat}{ds:e7}{l:List (Nat×Value)}{d i g:Nat}{want b:Bool}
theorem ab.DF(R:u2){id:Nat}{a:Array Oper}(av:Io a.toList=none)(dq:DE a.toList=true)(au:IV a.toList=bc)(h:dv K B R a.toList bc E m J fun E m J=>cX .normal E m J):ab K B (.region id a true) E m J cX:=by
 intro S H ax aJ;obtain⟨aS,H',E',m',af,aa,ae,aF,bo⟩:=h S H ax aJ;refine⟨.normal,aS,H',E',m',af,eg.yb K.dt.rU gW (Cq K R) ?_,ae,aF,bo⟩;show r2 (vw K.P (gH K.Q gW (Cq K R)).call (gH K.Q gW (Cq K R)).aR a.toList S H)=_;rw[Jy];unfold vw;rw[av];show r2 (xi K.P (hM K.Q (Cq K R)) (gH K.Q gW (Cq K R)).aR a.toList S H)=_;unfold xi;rw[dq,b7,au,aa];rfl
theorem dv.nil(h:bH E m J):dv K B R ops [] E m J bH:=fun S H ax aJ=>⟨S,H,E,m,J,rfl,ax,aJ,h⟩
theorem dv.split(ap:look l d=some (.bool b))(aa:b=true->dv K B R ops bc ⟨n,ds,(d,.bool true)::l⟩ m J bH)(bw:b=false->dv K B R ops bc ⟨n,ds,(d,.bool false)::l⟩ m J bH):dv K B R ops bc ⟨n,ds,l⟩ m J bH:=by
 intro S H ax aJ;have key:∀c:Bool,b=c->Sat ⟨n,ds,(d,.bool c)::l⟩ S:=fun c e=>by
  subst e;refine⟨ax.n,ax.ds,ax.b5,ax.bF,ax.cK,ax.has,fun t v q=>?_⟩;have a7:(bif Nat.beq t d then some (Value.bool b) else look l t)=some v:=q;cases c8:Nat.beq t d with
  |true=>rw[c8,b7] at a7;obtain rfl:=eO c8;rw[<-a7];exact ax.get _ _ ap
  |false=>rw[c8,dT] at a7;exact ax.get t v a7
 cases b with
 |true=>exact aa rfl S H (key true rfl) aJ
 |false=>exact bw rfl S H (key false rfl) aJ
theorem dv.aai{v:Value}(ao:nth ops i=some o)(dd:∀S,Sat ⟨n,ds,l⟩ S->fD ops S.T o=some true)(aV:o.dst=some d)(aP:Nat.blt d n=true)(ay:dm K B o n ds l m J v)(h:dv K B R ops bc ⟨n,ds,(d,v)::l⟩ m J bH):dv K B R ops (.val i::bc) ⟨n,ds,l⟩ m J bH:=by
 intro S H ax aJ;obtain⟨bn,s1,s2⟩:=ax.put (dst:=some d) aP v;obtain⟨aS,H',E',m',af,aa,ae,aF,bo⟩:=h bn H s2 aJ;refine⟨aS,H',E',m',af,?_,ae,aF,bo⟩;show jy ops i (mM K.P _ _ ops S H (dL K.P _ _ ops bc))=_;unfold jy;rw[ao];show mM K.P _ _ ops S H (dL K.P _ _ ops bc) o=_;unfold mM;rw[dd S ax];show CH S H o.dst (dL K.P _ _ ops bc) (cJ K.P _ _ S H o)=_;rw[ay _ _ S H ax aJ,aV];show(bif Nat.beq H.ak H.ak then pX (dL K.P _ _ ops bc) H (S.put (some d) v) else none)=_;rw[hz,b7,s1];exact aa
theorem dv.aah(ao:nth ops i=some o)(dd:∀S,Sat ⟨n,ds,l⟩ S->fD ops S.T o=some false)(aV:o.dst=some d)(aP:Nat.blt d n=true)(h:dv K B R ops bc ⟨n,ds,(d,undef)::l⟩ m J bH):dv K B R ops (.val i::bc) ⟨n,ds,l⟩ m J bH:=by
 intro S H ax aJ;obtain⟨bn,s1,s2⟩:=ax.put (dst:=some d) aP undef;obtain⟨aS,H',E',m',af,aa,ae,aF,bo⟩:=h bn H s2 aJ;refine⟨aS,H',E',m',af,?_,ae,aF,bo⟩;show jy ops i (mM K.P _ _ ops S H (dL K.P _ _ ops bc))=_;unfold jy;rw[ao];show mM K.P _ _ ops S H (dL K.P _ _ ops bc) o=_;unfold mM;rw[dd S ax];show pX (dL K.P _ _ ops bc) H (S.put o.dst undef)=_;rw[aV,s1];exact aa
theorem af8(aq:o.guard=none):∀S,Sat ⟨n,ds,l⟩ S->fD ops S.T o=some true:=fun S ax=>by unfold fD;rw[aq]
theorem af'(aq:mY ops o=some (g,want))(ap:look l g=some (.bool b))(hw:(b==want)=true):∀S,Sat ⟨n,ds,l⟩ S->fD ops S.T o=some true:=fun S ax=>by rw[KB aq (ax.get g _ ap),hw]
theorem af7(aq:mY ops o=some (g,want))(ap:look l g=some (.bool b))(hw:(b==want)=false):∀S,Sat ⟨n,ds,l⟩ S->fD ops S.T o=some false:=fun S ax=>by rw[KB aq (ax.get g _ ap),hw]
theorem af9(aq:mY ops o=some (g,want))(ap:look l g=some undef):∀S,Sat ⟨n,ds,l⟩ S->fD ops S.T o=some false:=fun S ax=>Vi aq (ax.get g _ ap)
theorem dv.val{v:Value}(ao:nth ops i=some o)(aq:o.guard=none)(aV:o.dst=some d)(aP:Nat.blt d n=true)(ay:dm K B o n ds l m J v)(h:dv K B R ops bc ⟨n,ds,(d,v)::l⟩ m J bH):dv K B R ops (.val i::bc) ⟨n,ds,l⟩ m J bH:=dv.aai ao (af8 aq) aV aP ay h
theorem dv.aag{v:Value}(ao:nth ops i=some o)(aq:mY ops o=some (g,want))(ap:look l g=some (.bool b))(hw:(b==want)=true)(aV:o.dst=some d)(aP:Nat.blt d n=true)(ay:dm K B o n ds l m J v)(h:dv K B R ops bc ⟨n,ds,(d,v)::l⟩ m J bH):dv K B R ops (.val i::bc) ⟨n,ds,l⟩ m J bH:=dv.aai ao (af' aq ap hw) aV aP ay h
theorem dv.aaf(ao:nth ops i=some o)(aq:mY ops o=some (g,want))(ap:look l g=some (.bool b))(hw:(b==want)=false)(aV:o.dst=some d)(aP:Nat.blt d n=true)(h:dv K B R ops bc ⟨n,ds,(d,undef)::l⟩ m J bH):dv K B R ops (.val i::bc) ⟨n,ds,l⟩ m J bH:=dv.aah ao (af7 aq ap hw) aV aP h
theorem dv.oA(ao:nth ops i=some o)(aq:mY ops o=some (g,want))(ap:look l g=some undef)(aV:o.dst=some d)(aP:Nat.blt d n=true)(h:dv K B R ops bc ⟨n,ds,(d,undef)::l⟩ m J bH):dv K B R ops (.val i::bc) ⟨n,ds,l⟩ m J bH:=dv.aah ao (af9 aq ap) aV aP h
theorem apg{op:BinOp}{t eS:TypeId}{x y:Operand}{a c:Bool}{v:Value}(ar:o.op=.binOp op t x y eS)(U:b6 l x=some (.bool a))(ai:b6 l y=some (.bool c))(d':op=.eql/\v=.bool (decide (a=c))\/op=.neq/\v=.bool (decide (¬a=c)))(aB:K.P.underlying t=some .bool):dm K B o n ds l m J v:=by
 intro call aR S H ax aJ;unfold cJ fe;simp only[ar];show pd K.P _ op t (bj S.T H x) (bj S.T H y)=_;rw[dy ax H U,dy ax H ai];show orElse (gm K.P S.T H o) _=_;have vN:eY K.P (Op.equal t (.bool a) (.bool c))=some (decide (a=c)):=by
  show eY K.P (Op.equalIn (9999+1) t (.bool a) (.bool c))=_;unfold Op.equalIn;rw[eb (y9 aB)];show some (a==c)=_;cases a<;>cases c<;>rfl
 have:gm K.P S.T H o=some (.val v H):=by
  rcases d' with⟨rfl,rfl⟩|⟨rfl,rfl⟩
  ·refine zS ax (by rw[ar];rfl) U ai rfl rfl ?_ rfl;unfold execOp;simp only[ar];rw[lH ax H U,lH ax H ai];have ap:binOp .eql t (.bool a) (.bool c)=(do pure (.bool (<-Op.equal t (.bool a) (.bool c)))):=by simp[binOp]
   have aq:eY K.P (eqGuard .eql t x y (.bool a) (.bool c))=some ():=rfl;rw[eb (a:=.bool (decide (a=c)))]
   ·rfl
   rw[eb aq,ap,eb vN];rfl
  ·refine zS ax (by rw[ar];rfl) U ai rfl rfl ?_ rfl;unfold execOp;simp only[ar];rw[lH ax H U,lH ax H ai];have ap:binOp .neq t (.bool a) (.bool c)=(do pure (.bool (!(<-Op.equal t (.bool a) (.bool c))))):=by simp[binOp]
   have aq:eY K.P (eqGuard .neq t x y (.bool a) (.bool c))=some ():=rfl;rw[eb (a:=.bool (decide (¬a=c)))]
   ·rfl
   rw[eb aq,ap,eb vN];show some (Value.bool (!decide (a=c)))=_;rw[show(!decide (a=c))=decide (¬a=c) by simp]
 rw[this];rfl
theorem dI.get{Dc:Option Addr}{lU dS:Nat}{N:List Int}(h:dI J (.slice Dc lU dS) N):lU=N.length/\(Dc=none->N=[])/\(0<N.length->∃a off cells e,Dc=some ⟨a,off,none⟩/\J a=some (cells,e)/\∀(i:Int),0<=i->i<N.length->∃x,N[i.toNat]?=some x/\nth cells (off+i.toNat*1)=some (.int .i64 x)):=by
 obtain⟨b,c,aa,ae,aF⟩:=h.inv;injection aa with bo eB ht
 subst bo;subst eB;subst ht;exact⟨rfl,ae,aF⟩
end
def gy(K:eE)(B:dV)(ops:List Oper)(bc:List jF)(E:cf)(m:aN)(J:aH)(bH:cf->aN->aH->Prop):Prop:=
 ∀S H,Sat E S->Inv K.g0 B J m H->∃aU:eH,(∀f args H1 r,aU f args H1=some r->H.ak<=H1.ak)/\∃aS H' E' m' af,
  (∀fa:eH,(∀f args H r,aU f args H=some r->fa f args H=some r)->dL K.P (hM K.Q fa) (gH K.Q gW fa).aR ops bc S H=some (.ok aS H'))/\Sat E' aS/\Inv K.g0 B af m' H'/\bH E' m' af
section
variable {K:eE}{B:dV}{ops:List Oper}{bc:List jF}{E:cf}{m m':aN}{J:aH}{o:Oper}{bH:cf->aN->aH->Prop}{cX:Exit->cf->aN->aH->Prop}
variable {n:Nat}{ds:e7}{l:List (Nat×Value)}{d i:Nat}
theorem gy.val{v:Value}(ao:nth ops i=some o)(aq:o.guard=none)(aV:o.dst=some d)(aP:Nat.blt d n=true)(ay:dm K B o n ds l m J v)(h:gy K B ops bc ⟨n,ds,(d,v)::l⟩ m J bH):gy K B ops (.val i::bc) ⟨n,ds,l⟩ m J bH:=by
 intro S H ax aJ;obtain⟨bn,s1,s2⟩:=ax.put (dst:=some d) aP v;obtain⟨aU,dH,aS,H',E',m',af,aa,ae,aF,bo⟩:=h bn H s2 aJ;refine⟨aU,dH,aS,H',E',m',af,fun fa q=>?_,ae,aF,bo⟩;show jy ops i (mM K.P _ _ ops S H (dL K.P _ _ ops bc))=_;unfold jy;rw[ao];show mM K.P _ _ ops S H (dL K.P _ _ ops bc) o=_;unfold mM fD;rw[aq];show CH S H o.dst (dL K.P _ _ ops bc) (cJ K.P _ _ S H o)=_;rw[ay _ _ S H ax aJ,aV];show(bif Nat.beq H.ak H.ak then pX (dL K.P _ _ ops bc) H (S.put (some d) v) else none)=_;rw[hz,b7,s1];exact aa fa q
theorem gy.call{c:Call}{x:Operand}{f:FuncId}{first cap:Array Value}{args bT:List Value}{eP:Value->aN->aH->Prop}
 (ao:nth ops i=some o)(aq:o.guard=none)(ar:o.op=.call c)(aV:o.dst=some d)(aP:Nat.blt d n=true)(aC:c.callee=.value x)(U:b6 l x=some (.func (.func f) first cap))(a1:hY l c.args.toList=some args)(has:(first.toList++args)++cap.toList=bT)
 (fJ:Fn K f bT [] J eP)(HC:∀v m' af,eP v m' af->∃a b,(a,b)∈m')(h:∀v m' af,J.le af->eP v m' af->gy K B ops bc ⟨n,ds,(d,v)::l⟩ (m'++m) af bH):gy K B ops (.bR i::bc) ⟨n,ds,l⟩ m J bH:=by
 intro S H ax aJ;obtain⟨v,H',af,m',bl,bp,bQ⟩:=fJ H (aJ.enter (bf:=[]) (bM:=m) (.refl _) trivial);obtain⟨cU,gb⟩:=aJ.leave (bf:=[]) (bM:=m) (.refl _) bp;have e4:H.ak<H'.ak:=by
  obtain⟨a,b,nb⟩:=HC _ _ _ bQ;have aa:=bp.lt nb;rcases(bp.own a b nb).2.1 with q|q
  ·have q:H.ak<=a:=q;omega
  ·cases q
 obtain⟨bn,s1,s2⟩:=ax.put (dst:=some d) aP v;obtain⟨aU,dH,aS,pi,E',h2,q0,aa,ae,aF,bo⟩:=h v m' af gb bQ bn H' s2 cU;refine⟨fun cP cz H1=>if H1.ak=H.ak then k8 f bT H (.returned v,H') cP cz H1 else aU cP cz H1,fun cP cz H1 r q=>?_,aS,pi,E',h2,q0,fun fa q=>?_,ae,aF,bo⟩
 ·simp only at q;split at q
  ·omega
  ·have:=dH cP cz H1 r q;omega
 ·have hD:fa f bT H=some (.returned v,H'):=q f bT H _ (by simp only[EB];unfold k8;rw[aE ⟨rfl,rfl,rfl⟩]);have BE:∀cP cz H1 r,aU cP cz H1=some r->fa cP cz H1=some r:=fun cP cz H1 r aw=>q cP cz H1 r (by
   simp only
   rw[an (by have:=dH cP cz H1 r aw;omega)];exact aw)
  show jy ops i (fun o=>kr (dL K.P _ _ ops bc) (one K.P _ _ ops S H o))=_;unfold jy;rw[ao];show kr (dL K.P _ _ ops bc) (one K.P _ _ ops S H o)=_;unfold one fD;rw[aq];show kr (dL K.P _ _ ops bc) (pP S H o.dst (cJ K.P _ _ S H o))=_;have he:cJ K.P (hM K.Q fa) (gH K.Q gW fa).aR S H o=some (.val v H'):=by
   unfold cJ fe;simp only[ar];show kU K.P _ c=_;unfold kU;rw[aC];show n9 K.P _ _ S.T H c=_;unfold n9;rw[n8 ax H a1];simp only[aC];rw[dy ax H U];simp only
   show(match l7 K.P H (.func f) (first.toList++args) cap.toList with|some (f,bT)=>pv (hM K.Q _ f bT H)|none=>none)=_
   unfold l7;simp only
   rw[has,Dm bl hD];rfl
  rw[he,aV];show kr (dL K.P _ _ ops bc) (pg H' (S.put (some d) v))=_;rw[s1];exact aa fa BE
theorem gy.cA{is:List Nat}(aC:th K B ops n ds l m J is)(h:gy K B ops bc ⟨n,ds,l⟩ m J bH):gy K B ops (.cA is::bc) ⟨n,ds,l⟩ m J bH:=by
 intro S H ax aJ;obtain⟨aU,dH,aS,H',E',m',af,aa,ae,aF,bo⟩:=h S H ax aJ;refine⟨aU,dH,aS,H',E',m',af,fun fa q=>?_,ae,aF,bo⟩;show AS K.P _ _ ops S H (dL K.P _ _ ops bc) is=_;unfold AS;rw[th.all ax aJ aC,b7];exact aa fa q
end
section
variable {K:eE}{B:dV}{ops:List Oper}{bc:List jF}{F:List (FuncId×List Value)}{m m':aN}{J:aH}{o:Oper}{bH:cf->aN->aH->Prop}
variable {n:Nat}{ds:e7}{l:List (Nat×Value)}{d i:Nat}
theorem amo{S:bh}(ax:Sat ⟨n,ds,l⟩ S):∀{xs:List (Nat×Operand)} {vs:List (Nat×Value)},tK l xs=some vs->s8 S.T xs=some vs:=by
 intro xs;induction xs with
 |nil=>intro vs h;exact h
 |cons x r aI=>
  obtain⟨i,x⟩:=x;intro vs h;simp only[tK] at h;simp only[s8];cases U:b6 l x with
  |none=>rw[U] at h;cases h
  |some v=>
   rw[U] at h;simp only at h;rw[Q8 ax U];simp only;cases aw:tK l r with
   |none=>rw[aw] at h;cases h
   |some ws=>rw[aw] at h;simp only at h;rw[aI aw];exact h
theorem a8.buildSlice{t e:TypeId}{k sz:Nat}{gi cells:List Value}{ew:Array (Nat×Operand)}{vs:List (Nat×Value)}(ao:nth ops i=some o)(aq:o.guard=none)(ar:o.op=.buildSlice t k ew)(aV:o.dst=some d)(aP:Nat.blt d n=true)(au:tK l ew.toList=some vs)(aB:j2 K.P t=some (e,sz,gi))(aO:(Nat.ble k 100000&&Nat.ble (k*sz) 100000)=true)(aD:nK (fun i=>some (i*sz,sz)) (gG gi k) vs=some cells)(aa:cells.all eM=true)
 (h:∀a,a8 K B ops bc F ⟨n,ds,(d,.slice (some ⟨a,0,none⟩) k k)::l⟩ ((a,.row cells e)::m) J bH):a8 K B ops (.gk i::bc) F ⟨n,ds,l⟩ m J bH:=by
 obtain⟨hu,eV,fO,z,ia,bE,b1,rfl,b2,b3,b4⟩:=yj aB;refine a8.gk (b:=.row cells e false 0 0 false) (p:=.row cells e) (er:=.Cw k k) ao aq aV aP (fun S ax=>?_) (fun H a q=>q) (fun c e r z=>⟨nofun,nofun⟩) h;rw[ar];simp only[nE];rw[amo ax au];simp only[F1,hu,eV,bE];rw[aO,b4,show Nat.beq z.cells.toList.length sz=true by rw[b2];exact hz _];simp only[wG,b7,aD,aa]
theorem Acc.form{e:TypeId}{sz k:Nat}{v:Value}{cells:List Value}{aY:aN}(h:Acc e sz v k cells aY):∃b c,v=.slice b k c:=by
 cases h with
 |nil=>exact⟨_,_,rfl⟩
 |kt a=>exact⟨_,_,rfl⟩
 |opn h=>exact⟨_,_,rfl⟩
 |cap=>exact⟨_,_,rfl⟩
end
end
end Go.Opn
