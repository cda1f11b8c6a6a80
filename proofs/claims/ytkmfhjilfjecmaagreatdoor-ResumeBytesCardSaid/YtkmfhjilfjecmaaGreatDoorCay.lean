/- A part of the proof of ResumeBytes. -/
import Derived.Test.YtkmfhjilfjecmaaGreatDoorCax
set_option linter.unusedVariables false
set_option linter.unusedSimpArgs false
namespace Go.Opn
noncomputable section
open Go.Cre Go.RowKit
def hj(e:TypeId)(sz:Nat)(v:Value)(k:Nat)(cells:List Value)(aY:aN):Prop:=(Acc e sz v k cells aY/\z0 aY/\mH aY)\/∃a full rest,Sg e sz v k cells aY a full rest 0
theorem hj.form{e:TypeId}{sz k:Nat}{v:Value}{cells:List Value}{aY:aN}(h:hj e sz v k cells aY):(∃b,v=.slice b 0 0/\k=0/\cells=[]/\aY=[])\/∃a full rest,v=.slice (some ⟨a,0,none⟩) k cZ/\aY=[(a,.opn full e rest 0)]/\full.take (k*sz)=cells/\k*sz<=full.length:=by
 rcases h with⟨h,bE,aP⟩|⟨a,full,rest,aa,ae,aF,bo,eB⟩
 ·cases h with
  |nil=>exact .inl ⟨_,rfl,rfl,rfl,rfl⟩
  |kt a=>exact .inl ⟨_,rfl,rfl,rfl,rfl⟩
  |opn aa ae=>
   have:=bE _ _ _ _ _ (.head _);subst this;exact .inr ⟨_,_,_,rfl,rfl,by rw[<-aa,tm],by omega⟩
  |cap=>exact absurd (.head _) (aP _ _ _)
 ·exact .inr ⟨a,full,rest,aa,ae,bo,by omega⟩
theorem hj.of{e:TypeId}{sz k a:Nat}{full:List Value}{rest:List Nat}(aO:k*sz<=full.length):hj e sz (.slice (some ⟨a,0,none⟩) k cZ) k (full.take (k*sz)) [(a,.opn full e rest 0)]:=by
 by_cases q:k*sz=full.length
 ·refine .inl ⟨?_,fun bV c bz r z hm=>?_,fun bV c bz hm=>?_⟩
  ·have:=Acc.opn (a:=a) (e:=e) (rest:=rest) (z:=0) q.symm (cy _);rw[q,tm];exact this
  ·rcases e3.1 hm with q|q
   ·cases q;rfl
   ·cases q
  ·rcases e3.1 hm with q|q
   ·cases q
   ·cases q
 ·exact .inr ⟨a,full,rest,rfl,rfl,by omega,rfl,cy _⟩
theorem hj.row{e:TypeId}{sz k:Nat}{v:Value}{cells:List Value}{aY:aN}(h:hj e sz v k cells aY)(bw:0<k):∃a full rest,v=.slice (some ⟨a,0,none⟩) k cZ/\aY=[(a,.opn full e rest 0)]/\full.take (k*sz)=cells/\k*sz<=full.length:=by
 rcases h.form with⟨b,_,q,_⟩|q
 ·omega
 ·exact q
section
variable {K:eE}{B:dV}{o:Oper}{n:Nat}{ds:e7}{l:List (Nat×Value)}{m m':aN}{J:aH}{ey:cf->aN->aH->Prop}{d:Nat}
theorem R4{c:Call}{t hx e:TypeId}{sz k j:Nat}{gi cells new:List Value}{v x:Value}{aY m0:aN}{hn:TypeDesc}(ar:o.op=.call c)(aC:c.callee=.builtin .append)(aV:o.dst=some d)(aP:Nat.blt d n=true)(a1:hY l c.args.toList=some [v,x])(o6:c.argTypes.toList=[t,hx])(aB:j2 K.P t=some (e,sz,gi))(jO:K.P.underlying hx=some hn)(vW:∀i,hn≠.int i)
 (ay:hj e sz v k cells aY)(hm:m.Perm (aY++m0))(U:mR K.g0 B J m sz x j new)(cr:new.length=j*sz)(ca:new.all eM=true)(a':0<j)(av:k+j<=1000000)
 (h:∀w hF,hj e sz w (k+j) (cells++new) hF->ey ⟨n,ds,(d,w)::l⟩ (hF++m0) J):hq K B o ⟨n,ds,l⟩ m J ey:=by
 rcases ay with⟨ay,aa,ae⟩|⟨a,full,rest,ay⟩
 ·exact Aj ar aC aV aP a1 o6 aB jO vW ay hm U cr ca av fun w hF q r=>h w hF (.inl ⟨q,r.1 aa,r.2 ae⟩)
 ·exact aqd ar aC aV aP a1 o6 aB jO vW ay hm U cr ca a' av fun w hF q cO ed=>h w hF (.inl ⟨q,cO rfl,ed⟩)
end
section
variable {K:eE}{B:dV}{o:Oper}{n:Nat}{ds:e7}{l:List (Nat×Value)}{m:aN}{J:aH}
def F8 (k:IntKind)(a b:Int):BinOp->Option Value
 |.shr=>some (.int k (a.fdiv (2 ^ b.toNat)))
 |.and=>some (.int k (k.wrap (BitVec.ofInt k.bits a &&& BitVec.ofInt k.bits b).toNat))
 |_=>none
theorem Z3{op:BinOp}{t eS:TypeId}{x y:Operand}{k:IntKind}{a b:Int}{v:Value}(ar:o.op=.binOp op t x y eS)(U:b6 l x=some (.int k a))(ai:b6 l y=some (.int k b))(ay:F8 k a b op=some v)(ap:0<=b)(mb:b<=k.bits):dm K B o n ds l m J v:=by
 intro call aR S H ax aJ;unfold cJ fe;simp only[ar];show pd K.P _ op t (bj S.T H x) (bj S.T H y)=_;rw[dy ax H U,dy ax H ai];show(bif uw k k then nj H k a b _ op else _)=_;rw[Ls,b7];have key:∀(yc:BinOp),op=yc->(yc=.shr\/yc=.and)->gm K.P S.T H o=some (.val v H):=by
  intro yc e h;subst e;refine zS ax (by rw[ar];rfl) U ai rfl rfl ?_ ?_
  ·unfold execOp;simp only[ar];rw[lH ax H U,lH ax H ai];rcases h with rfl|rfl
   ·simp only[F8,cp] at ay;subst ay;have aq:eY K.P (eqGuard .shr t x y (.int k a) (.int k b))=some ():=rfl;have rz:binOp .shr t (.int k a) (.int k b)=pure (.int k (a.fdiv (2 ^ b.toNat))):=by
     simp[binOp,Op.shift,show ¬b<0 by omega,mu (show b.toNat<=k.bits by omega)]
    rw[eb (a:=.int k (a.fdiv (2 ^ b.toNat)))]
    ·rfl
    rw[eb aq,rz];rfl
   ·simp only[F8,cp] at ay;subst ay;have aq:eY K.P (eqGuard .and t x y (.int k a) (.int k b))=some ():=rfl;have rz:binOp .and t (.int k a) (.int k b)=pure (.int k (k.wrap (BitVec.ofInt k.bits a &&& BitVec.ofInt k.bits b).toNat)):=by simp[binOp,Op.intBits]
    rw[eb (a:=.int k (k.wrap (BitVec.ofInt k.bits a &&& BitVec.ofInt k.bits b).toNat))]
    ·rfl
    rw[eb aq,rz];rfl
  ·rcases h with rfl|rfl<;>simp only[F8,cp] at ay<;>subst ay<;>rfl
 cases op<;>simp only[F8,reduceCtorEq] at ay
 ·show _=_;exact(show nj H k a b _ .and=_ from key .and rfl (.inr rfl))
 ·exact(show nj H k a b _ .shr=_ from key .shr rfl (.inl rfl))
end
theorem abA{a:Int}(h:0<=a)(ae:a<9223372036854775808):IntKind.i64.wrap (BitVec.ofInt IntKind.i64.bits a &&& BitVec.ofInt IntKind.i64.bits 1).toNat=a % 2:=by
 have e:(BitVec.ofInt 64 a &&& BitVec.ofInt 64 1).toNat=a.toNat % 2:=by
  rw[BitVec.toNat_and];have aa:(BitVec.ofInt 64 a).toNat=a.toNat:=by
   rw[BitVec.toNat_ofInt];congr 1
   omega
  rw[aa];show a.toNat &&& 1=_;exact Nat.and_one_is_mod _
 show IntKind.i64.wrap ((BitVec.ofInt 64 a &&& BitVec.ofInt 64 1).toNat:Int)=_;rw[e,wrap_i64 (by omega) (by omega)];omega
theorem aog{a:Nat}{q:Nat}:(a:Int).fdiv (2 ^ q)=((a / 2 ^ q:Nat):Int):=by
 rw[Int.fdiv_eq_ediv_of_nonneg _ (by exact St (Int.pow_pos (by omega)))];simp
section
variable {K:eE}{B:dV}{n:Nat}{ds:e7}{l:List (Nat×Value)}{m m':aN}{J:aH}{cX:Exit->cf->aN->aH->Prop}{f:FuncId}{args:List Value}
theorem rR{α:Type}{m:List α}:∃j,(m++j).Perm m:=⟨[],by rw[gj]⟩
theorem Xn{α:Type}{m m':List α}(h:m.Sublist m'):∃j,(m++j).Perm m':=by
 induction h with
 |slnil=>exact⟨[],.refl _⟩
 |cons a _ aI=>obtain⟨j,h⟩:=aI;exact⟨a::j,List.perm_middle.trans (h.cons a)⟩
 |cons_cons a _ aI=>obtain⟨j,h⟩:=aI;exact⟨j,h.cons a⟩
theorem ab.y2{α:Type}{c:Code}(k:Nat)(s0:α->List (Nat×Value))(mem:α->aN)(fw:α->aH)(inv:α->Prop)(aa:ab K B c ⟨n,ds,l⟩ m J fun e E' m' af=>match e with
 |.normal=>∃s l',inv s/\E'=⟨n,ds,l'⟩/\pY l' (s0 s++l.drop k)/\(∃j,(mem s++j).Perm m')/\af=fw s
 |e=>cX e E' m' af)(ae:∀s,inv s->cX .normal ⟨n,ds,s0 s++l.drop k⟩ (mem s) (fw s)):ab K B c ⟨n,ds,l⟩ m J cX:=by
 intro S H ax aJ;obtain⟨e,aS,H',E',m1,af,bl,bp,bQ,cU⟩:=aa S H ax aJ;cases e with
 |normal=>
  obtain⟨s,l',hv,rfl,gb,⟨j,ot⟩,rfl⟩:=cU;exact⟨_,aS,H',_,_,_,bl,bp.sub gb,(bQ.perm ot.symm).sub (q6 _ _),ae s hv⟩
 |exit i=>exact⟨_,aS,H',_,_,_,bl,bp,bQ,cU⟩
 |goto i=>exact⟨_,aS,H',_,_,_,bl,bp,bQ,cU⟩
 |ret=>exact⟨_,aS,H',_,_,_,bl,bp,bQ,cU⟩
 |panic c=>exact⟨_,aS,H',_,_,_,bl,bp,bQ,cU⟩
 |outgrown=>exact⟨_,aS,H',_,_,_,bl,bp,bQ,cU⟩
theorem ab.eC{c:Code}{E:cf}{h2:aN}(au:(m'++h2).Perm m)(h:ab K B c E m' J cX):ab K B c E m J cX:=fun S H ax aJ=>h S H ax ((aJ.perm au.symm).sub (q6 _ _))
theorem Fn.frame{bf bM:aN}{eP:Value->aN->aH->Prop}(h:Fn K f args bf J eP)(au:(bf++bM).Perm m):Fn K f args m J fun v m2 af=>J.le af/\∃m',m2=m'++bM/\eP v m' af:=fun H aJ=>by
 obtain⟨v,H',af,m',aa,ae,aF⟩:=h H (aJ.enter au trivial);obtain⟨bl,bp⟩:=aJ.leave au ae;exact⟨v,H',af,_,aa,bl,bp,m',rfl,aF⟩
end
end
end Go.Opn
namespace Go.Opn
noncomputable section
structure cR where
 k:Int
 p:Int
 i:Int
 ak:List Int
 ws:List Int
 fF:List Int
structure bq where
 pl:Int
 ns:List cR
 is:List (Int×Int)
open Classical
def eu (g:bq)(x:cR):Int:=
 if x.k=1 then
  if x.p≠0\/x.i≠0\/0<x.fF.length\/x.ak.length<1\/60<x.ak.length\/x.ws.length≠x.ak.length then 3
  else if ∃w∈x.ws,w<1\/1000<w then 2 else 0
 else if x.k=2 then
  if 0<x.fF.length\/0<x.ws.length\/x.ak.length<1\/10<x.ak.length then 3
  else if x.p<0\/g.pl<=x.p\/x.i<0\/(g.is.length:Int)<=x.i then 2 else 0
 else if x.k=3 then
  if x.p≠0\/x.i≠0\/0<x.ak.length\/0<x.ws.length\/(x.fF.length:Int)≠g.pl then 3
  else if ∃w∈x.fF,w< -1000000\/1000000<w then 2 else 0
 else 3
def pc (g:bq):List cR->Int
 |[]=>0
 |x::r=>if eu g x≠0 then eu g x else pc g r
abbrev gu:=Int×Int×Int
def hk(rec:Nat->Option (Nat×List gu)):List Int->Nat->Option (Nat×List gu)
 |[],n=>some (n,[])
 |c::r,n=>if c≠(n:Int) then none else match rec n with
  |none=>none
  |some (bX,es)=>match hk rec r bX with
   |none=>none
   |some (de,GJ)=>some (de,es++GJ)
def dN(ns:List cR):Nat->Int->Int->Nat->Option (Nat×List gu)
 |0,_,_,_=>none
 |f+1,kF,d,a=>match ns[a]? with
  |none=>none
  |some x=>match hk (dN ns f a (d+1)) x.ak (a+1) with
   |none=>none
   |some (n,es)=>some (n,(kF,d,(n:Int) -1)::es)
def rj(es:List gu):Int:=es.foldl (fun m e=>max m e.2.1) 0
def eJ(i:Int):Nat->List cR->List Int
 |_,[]=>[]
 |j,x::r=>if x.k=2/\x.i=i then(j:Int)::eJ i (j+1) r else eJ i (j+1) r
def gC(g:bq):List (List Int):=(List.range g.is.length).map fun(i:Nat)=>eJ (i:Int) 0 g.ns
def fj(l:List Int):Int:=match l with|[]=>-1|x::_=>x
def h8 (g:bq):Int:=
 if g.pl<1\/4<g.pl\/g.ns.length<1\/2000<g.ns.length\/200<g.is.length then 2
 else if pc g g.ns≠0 then pc g g.ns
 else match dN g.ns (g.ns.length+1) (-1) 0 0 with
  |none=>9
  |some (n,es)=>
   if n≠g.ns.length then 9
   else if 40<rj es then 5
   else if ∃x∈g.ns,x.k=2/\g.is[x.i.toNat]?≠some (x.p,(x.ak.length:Int)) then 10
   else if ∃s∈gC g,s=[] then 18
   else if ∃(i:Nat) (s t:List Int),(gC g)[i]?=some s/\(gC g)[i+1]?=some t/\fj t<fj s then 9
   else 0
theorem alB{g:bq}:∀{l:List cR},pc g l=0->∀x∈l,eu g x=0:=by
 intro l;induction l with
 |nil=>intro _ x U;cases U
 |cons y r aI=>
  intro h x U;have h:(if eu g y≠0 then eu g y else pc g r)=0:=h;by_cases q:eu g y=0
  ·rw[an (fun k=>k q)] at h;rcases e3.1 U with e|e
   ·rw[e];exact q
   ·exact aI h x e
  ·rw[aE q] at h;exact absurd h q
theorem ES{g:bq}{x:cR}(h:eu g x=0)(au:g.pl<=4):x.ak.length<=60/\x.ws.length<=60/\x.fF.length<=60:=by
 unfold eu at h;split at h
 ·split at h
  ·omega
  ·split at h<;>omega
 ·split at h
  ·split at h
   ·omega
   ·split at h<;>omega
  ·split at h
   ·split at h
    ·omega
    ·split at h<;>omega
   ·omega
structure yy (g:bq):Prop where
 dH:1<=g.pl
 ki:g.pl<=4
 bX:1<=g.ns.length
 de:g.ns.length<=2000
 i2:g.is.length<=200
 nodes:∀x∈g.ns,eu g x=0
 walk:∃es,dN g.ns (g.ns.length+1) (-1) 0 0=some (g.ns.length,es)/\rj es<=40
 types:∀x∈g.ns,x.k=2->g.is[x.i.toNat]?=some (x.p,(x.ak.length:Int))
 Ry:∀s∈gC g,s≠[]
theorem GX{g:bq}(h:h8 g=0):yy g:=by
 unfold h8 at h;split at h
 ·omega
 rename_i aa;split at h
 ·rename_i q;exact absurd h q
 rename_i ae;split at h
 ·omega
 rename_i n es aF;split at h
 ·omega
 rename_i bo;split at h
 ·omega
 rename_i eB;split at h
 ·omega
 rename_i ht;split at h
 ·omega
 rename_i lI;have bo:n=g.ns.length:=gQ.1 bo;subst bo;refine⟨by omega,by omega,by omega,by omega,by omega,alB (gQ.1 ae),⟨es,aF,by omega⟩,fun x U aO=>?_,fun s hs q=>lI ⟨s,hs,q⟩⟩;exact qW fun q=>ht ⟨x,U,aO,q⟩
def B5(x:cR):List Int:=[x.k,x.p,x.i]++((x.ak.length:Int)::x.ak)++((x.ws.length:Int)::x.ws)++((x.fF.length:Int)::x.fF)
def Qr(x:Int×Int):List Int:=[x.1,x.2]
def LL(g:bq):List Int:=[g.pl,(g.ns.length:Int)]++g.ns.flatMap B5++[(g.is.length:Int)]++g.is.flatMap Qr
theorem U3{α:Type}{f:α->List Int}{l:List α}{i:Nat}{x:α}(U:l[i]?=some x):(l.take (i+1)).flatMap f=(l.take i).flatMap f++f x:=by
 rw[nY,U];simp
end
end Go.Opn
namespace Go.Opn
noncomputable section
theorem w9(rec:Nat->Option (Nat×List gu))(c:Int)(r:List Int)(n:Nat):hk rec (c::r) n=if c≠(n:Int) then none else match rec n with
 |none=>none
 |some (bX,es)=>match hk rec r bX with
  |none=>none
  |some (de,GJ)=>some (de,es++GJ):=rfl
theorem Ub(rec:Nat->Option (Nat×List gu)):∀(a b:List Int) (n:Nat),hk rec (a++b) n=match hk rec a n with
 |none=>none
 |some (bX,aL)=>match hk rec b bX with
  |none=>none
  |some (de,bk)=>some (de,aL++bk):=by
 intro a;induction a with
 |nil=>
  intro b n;show hk rec b n=_;cases h:hk rec b n with
  |none=>simp[hk,h]
  |some p=>simp[hk,h]
 |cons c a aI=>
  intro b n;show hk rec (c::(a++b)) n=_;rw[w9,w9];by_cases aC:c≠(n:Int)
  ·rw[aE aC,aE aC]
  ·rw[an aC,an aC];cases aw:rec n with
   |none=>rfl
   |some p=>
    obtain⟨bX,aL⟩:=p;simp only
    rw[aI b bX];cases a1:hk rec a bX with
    |none=>rfl
    |some q=>
     obtain⟨de,bk⟩:=q;simp only
     cases ap:hk rec b de with
     |none=>rfl
     |some r=>obtain⟨kC,cG⟩:=r;simp
theorem acR(rec:Nat->Option (Nat×List gu))(c:Int)(n:Nat):hk rec [c] n=if c≠(n:Int) then none else rec n:=by
 rw[w9];split
 ·rfl
 ·cases h:rec n with
  |none=>rfl
  |some p=>obtain⟨bX,aL⟩:=p;simp[hk]
theorem rh{rec:Nat->Option (Nat×List gu)}{cs:List Int}{n k:Nat}{c:Int}{cur:Nat}{es:List gu}(h:hk rec (cs.take k) n=some (cur,es))(aC:cs[k]?=some c):
 hk rec (cs.take (k+1)) n=if c≠(cur:Int) then none else match rec cur with
  |none=>none
  |some (bX,aL)=>some (bX,es++aL):=by
 rw[nY,aC];show hk rec (cs.take k++[c]) n=_;rw[Ub,h];simp only[acR];by_cases q:c≠(cur:Int)
 ·rw[aE q,aE q]
 ·rw[an q,an q]
theorem tD{rec:Nat->Option (Nat×List gu)}{cs:List Int}{n k:Nat}(h:hk rec (cs.take k) n=none):hk rec cs n=none:=by
 have:=Ub rec (cs.take k) (cs.drop k) n;rw[SP,h] at this;exact this
theorem AQ{ns:List cR}{rec:Nat->Option (Nat×List gu)}(aw:∀n bX e,rec n=some (bX,e)->n<bX/\bX<=ns.length/\e.length=bX -n):∀{cs:List Int} {n bX:Nat} {e:List gu},hk rec cs n=some (bX,e)->n<=ns.length->n<=bX/\bX<=ns.length/\e.length=bX -n:=by
 intro cs;induction cs with
 |nil=>intro n bX e h aP;simp only[hk,cp,dB] at h;obtain⟨rfl,rfl⟩:=h;exact⟨cW _,aP,by simp⟩
 |cons c cs aI=>
  intro n bX e h aP;rw[w9] at h;split at h
  ·cases h
  ·split at h
   ·cases h
   ·rename_i de bk ae;obtain⟨bm,a2,a3⟩:=aw _ _ _ ae;split at h
    ·cases h
    ·rename_i kC cG aF;simp only[cp,dB] at h;obtain⟨rfl,rfl⟩:=h;obtain⟨b1,b2,b3⟩:=aI aF a2;exact⟨by omega,b2,by rw[dP];omega⟩
theorem qP{ns:List cR}:∀(f:Nat) (p d:Int) (n bX:Nat) (e:List gu),dN ns f p d n=some (bX,e)->n<bX/\bX<=ns.length/\e.length=bX -n:=by
 intro f;induction f with
 |zero=>intro p d n bX e h;cases h
 |succ f aI=>
  intro p d n bX e h;unfold dN at h;split at h
  ·cases h
  ·rename_i x U;have cV:=(dY.1 U).1;split at h
   ·cases h
   ·rename_i de es ae;simp only[cp,dB] at h;obtain⟨rfl,rfl⟩:=h;obtain⟨b1,b2,b3⟩:=AQ (fun a b c q=>aI _ _ a b c q) ae (by omega);exact⟨by omega,b2,by rw[jh];omega⟩
def jR(L:List Int)(a:Nat)(vs:List Int):List Int:=L.take a++vs++L.drop (a+vs.length)
theorem Cl{L:List Int}{a:Nat}{vs:List Int}(h:a+vs.length<=L.length):(jR L a vs).length=L.length:=by
 unfold jR;simp only[dP,iu,ms];omega
theorem am9(L:List Int)(a:Nat):jR L a []=L:=by simp[jR]
theorem Rk{L:List Int}{a b:Nat}{vs ws:List Int}(h:a+vs.length<=L.length)(ap:b=a+vs.length):jR (jR L a vs) b ws=jR L a (vs++ws):=by
 subst ap;unfold jR;have aa:(L.take a++vs).length=a+vs.length:=by rw[dP,iu];omega
 rw[JN (by omega),eo (by omega),SA,Aw (by omega),aa,k2,yz,dP,<-gw];congr 2
 omega
theorem Zq{L:List Int}{a:Nat}{x:Int}(h:a<L.length):L.set a x=jR L a [x]:=by
 rw[JL,aE h];simp[jR]
theorem YO{L:List Int}{a:Nat}{vs:List Int}(h:a+vs.length<=L.length)(i:Nat):(jR L a vs)[i]?=if a<=i/\i<a+vs.length then vs[i -a]? else L[i]?:=by
 unfold jR;have ae:(L.take a).length=a:=by rw[iu];omega
 by_cases bb:i<a
 ·rw[an (by omega),gw,k1 (by omega),kK,aE bb]
 ·by_cases a7:i<a+vs.length
  ·rw[aE (by omega),gw,pk (by omega),ae,k1 (by omega)]
  ·rw[an (by omega),gw,pk (by omega),ae,pk (by omega),q4];congr 1;omega
theorem L1{L:List Int}{a:Nat}{x:Int}{vs:List Int}(h:a+1+vs.length<=L.length):(jR L (a+1) vs).set a x=jR L a (x::vs):=by
 apply lA
 intro i;rw[kJ,YO h,Cl h,YO (by rw[jh];omega),jh];by_cases q:a=i
 ·subst q;rw[aE rfl,aE (by omega),aE (by omega),sf];rfl
 ·rw[an q];by_cases a7:a+1<=i/\i<a+1+vs.length
  ·rw[aE a7,aE (by omega),show i -a=(i -(a+1))+1 by omega,yB]
  ·rw[an a7,an (by omega)]
end
end Go.Opn
namespace Go.Opn
noncomputable section
def iD(v:Int):List Int->Nat->Int
 |[],_=>-1
 |x::r,n=>if v=x then(n:Int) else iD v r (n+1)
theorem Qm{v:Int}{l:List Int}{i:Nat}{x:Int}(U:l[i]?=some x):iD v (l.drop i) i=if v=x then(i:Int) else iD v (l.drop (i+1)) (i+1):=by
 have ao:i<l.length:=(dY.1 U).1;rw[ny ao];have:l[i]=x:=by rw[dj ao] at U;injection U
 rw[this];rfl
theorem W9{v:Int}{l:List Int}{i:Nat}(h:l.length<=i):iD v (l.drop i) i=-1:=by rw[Av h];rfl
theorem Qn{v:Int}:∀{l:List Int} {n:Nat},0<=iD v l n↔v∈l:=by
 intro l;induction l with
 |nil=>intro n;simp[iD]
 |cons x r aI=>
  intro n;unfold iD;split
  ·rename_i h;subst h;simp
  ·rename_i h;rw[aI,e3];exact⟨.inr,fun q=>q.resolve_left h⟩
theorem aki{v:Int}:∀{l:List Int} {n:Nat},iD v l n<(n:Int)+l.length:=by
 intro l;induction l with
 |nil=>intro n;simp only[iD,Ax];omega
 |cons x r aI=>
  intro n;unfold iD;rw[jh];split
  ·omega
  ·have:=aI (n:=n+1);omega
def x3:List Int->Int
 |[]=>0
 |x::r=>r.foldl max x
theorem ak4{l:List Int}{i:Nat}{x:Int}(aa:1<=i)(U:l[i]?=some x):x3 (l.take (i+1))=max (x3 (l.take i)) x:=by
 rw[nY,U];cases l with
 |nil=>cases U
 |cons y r=>
  cases i with
  |zero=>omega
  |succ i=>simp[x3]
def MO(l:List Int):Prop:=∀i x y,l[i]?=some x->l[i+1]?=some y->¬y<x
theorem GC{es:List gu}(h:∃e r,es=e::r/\e.2.1=0):rj es=x3 (es.map fun e=>e.2.1):=by
 obtain⟨e,r,rfl,bw⟩:=h;unfold rj;simp only[List.foldl_cons,nz,x3,bw];rw[List.foldl_map];rfl
theorem Je{ns:List cR}{f:Nat}{p d:Int}{a n:Nat}{es:List gu}(h:dN ns f p d a=some (n,es)):∃e r,es=e::r/\e.1=p/\e.2.1=d/\e.2.2=(n:Int) -1:=by
 cases f with
 |zero=>cases h
 |succ f=>
  unfold dN at h;split at h
  ·cases h
  ·split at h
   ·cases h
   ·simp only[cp,dB] at h;obtain⟨rfl,rfl⟩:=h;exact⟨_,_,rfl,rfl,rfl,rfl⟩
def mB(g:bq)(i:Nat):List Int:=(List.range g.is.length).map fun(j:Nat)=>fj (eJ (j:Int) i (g.ns.drop i))+1
theorem tL{g:bq}{i:Nat}:(mB g i).length=g.is.length:=by simp[mB]
theorem xl{g:bq}{i j:Nat}(h:j<g.is.length):(mB g i)[j]?=some (fj (eJ (j:Int) i (g.ns.drop i))+1):=by
 unfold mB;rw[oF,FJ h];rfl
theorem afn{g:bq}{i:Nat}(h:g.ns.length<=i):mB g i=List.replicate g.is.length 0:=by
 apply lA
 intro j;by_cases a':j<g.is.length
 ·rw[xl a',Av h,C1,aE a'];rfl
 ·rw[fo (by rw[tL];omega),C1,an a']
theorem Zl{g:bq}{j:Int}{i:Nat}{x:cR}(U:g.ns[i]?=some x):eJ j i (g.ns.drop i)=if x.k=2/\x.i=j then(i:Int)::eJ j (i+1) (g.ns.drop (i+1)) else eJ j (i+1) (g.ns.drop (i+1)):=by
 have ao:i<g.ns.length:=(dY.1 U).1;rw[ny ao];have:g.ns[i]=x:=by rw[dj ao] at U;injection U
 rw[this];rfl
theorem afo{g:bq}{i:Nat}{x:cR}(U:g.ns[i]?=some x)(aO:x.k≠2):mB g i=mB g (i+1):=by
 unfold mB;congr 1
 funext j
 rw[Zl U,an (fun q=>aO q.1)]
theorem afp{g:bq}{i:Nat}{x:cR}(U:g.ns[i]?=some x)(aO:x.k=2)(bw:0<=x.i)(aa:x.i<g.is.length):mB g i=(mB g (i+1)).set x.i.toNat ((i:Int)+1):=by
 apply lA
 intro j;rw[kJ,tL];by_cases a':j<g.is.length
 ·rw[xl a',xl a',Zl U];by_cases q:x.i.toNat=j
  ·rw[aE ⟨aO,by omega⟩,aE q,aE (by omega)];rfl
  ·rw[an (fun r=>q (by omega)),an q]
 ·rw[fo (by rw[tL];omega),fo (by rw[tL];omega),an (by omega)]
open Classical
def pV (g:bq):Int:=
 if ∃x∈g.ns,x.k=2/\g.is[x.i.toNat]?≠some (x.p,(x.ak.length:Int)) then 10
 else if ∃s∈gC g,s=[] then 18
 else if ∃(i:Nat) (s t:List Int),(gC g)[i]?=some s/\(gC g)[i+1]?=some t/\fj t<fj s then 9
 else 0
theorem tc{g:bq}{j:Nat}(h:j<g.is.length):(gC g)[j]?=some (eJ (j:Int) 0 g.ns):=by
 unfold gC;rw[oF,FJ h];rfl
theorem uI{g:bq}:(gC g).length=g.is.length:=by simp[gC]
theorem Zm{i:Int}:∀{l:List cR} {j:Nat} {y:Int},y∈eJ i j l->(j:Int)<=y:=by
 intro l;induction l with
 |nil=>intro j y h;cases h
 |cons x r aI=>
  intro j y h;unfold eJ at h;split at h
  ·rcases e3.1 h with q|q
   ·omega
   ·have:=aI q;omega
  ·have:=aI h;omega
theorem VZ{i:Int}{j:Nat}{l:List cR}:fj (eJ i j l)+1=0↔eJ i j l=[]:=by
 constructor
 ·intro h;cases hs:eJ i j l with
  |nil=>rfl
  |cons y r=>rw[hs] at h;have:=Zm (i:=i) (j:=j) (l:=l) (y:=y) (by rw[hs];exact .head _);simp only[fj] at h;omega
 ·intro h;rw[h];rfl
theorem td{g:bq}:(∃s∈gC g,s=[])↔(0:Int)∈mB g 0:=by
 constructor
 ·rintro⟨s,hs,rfl⟩;obtain⟨j,a'⟩:=kp.1 hs;have av:j<g.is.length:=by have:=(dY.1 a').1;rwa [uI] at this
  rw[tc av] at a';injection a' with a'
  have:=xl (g:=g) (i:=0) av;rw[mr,VZ.2 a'] at this;exact cb this
 ·intro h;obtain⟨j,a'⟩:=kp.1 h;have av:j<g.is.length:=by have:=(dY.1 a').1;rwa [tL] at this
  rw[xl av,mr] at a';injection a' with a'
  exact⟨_,cb (tc av),VZ.1 a'⟩
theorem z1{g:bq}:(∃(i:Nat) (s t:List Int),(gC g)[i]?=some s/\(gC g)[i+1]?=some t/\fj t<fj s)↔¬MO (mB g 0):=by
 constructor
 ·rintro⟨i,s,t,aa,ae,aF⟩ h;have av:i+1<g.is.length:=by have:=(dY.1 ae).1;rwa [uI] at this
  rw[tc (by omega)] at aa;rw[tc av] at ae;injection aa with aa;injection ae with ae
  refine h i _ _ (xl (by omega)) (xl av) ?_;rw[mr,aa,ae];omega
 ·intro h;refine qW fun q=>h fun i x y U ai cV=>q ?_;have av:i+1<g.is.length:=by have:=(dY.1 ai).1;rwa [tL] at this
  rw[xl (by omega),mr] at U;rw[xl av,mr] at ai;injection U with U;injection ai with ai
  exact⟨i,_,_,tc (by omega),tc av,by omega⟩
end
end Go.Opn
namespace Go.Opn
noncomputable section
structure Aq (ns:List cR) (p:Int) (lU bX:Nat) (cs:List Int) (es:List gu):Prop where
 le:lU<=bX
 len:es.length=bX -lU
 kids:∀c∈cs,(lU:Int)<=c/\c<bX/\∃e:gu,es[(c -lU).toNat]?=some e/\e.1=p
 Tl:cs.Pairwise (·<·)
 each:∀j:Nat,lU<=j->j<bX->∃(x:cR) (e:gu),ns[j]?=some x/\es[j -lU]?=some e/\x.ak.Pairwise (·<·)/\
  (∀c∈x.ak,(j:Int)<c/\c<bX/\∃bz:gu,es[(c -lU).toNat]?=some bz/\bz.1=(j:Int))/\
  (((j:Int)∈cs/\e.1=p)\/((lU:Int)<=e.1/\e.1<(j:Int)/\∃y:cR,ns[e.1.toNat]?=some y/\(j:Int)∈y.ak))
theorem Of{α:Type}{a b:List α}{i:Nat}{e:α}(h:a[i]?=some e):(a++b)[i]?=some e:=by
 rw[k1 (dY.1 h).1];exact h
theorem Og{α:Type}{a b:List α}{i k:Nat}{e:α}(h:b[k]?=some e)(ao:i=a.length+k):(a++b)[i]?=some e:=by
 subst ao;rw[pk (by omega),show a.length+k -a.length=k by omega];exact h
theorem Aq.cons{ns:List cR}{p:Int}{lU m bX:Nat}{r:List Int}{aL bk:List gu}(aa:Aq ns p lU m [(lU:Int)] aL)(hm:lU<m)(ae:Aq ns p m bX r bk):Aq ns p lU bX ((lU:Int)::r) (aL++bk):=by
 have cN:=aa.len;have dW:=ae.len;have at4:=ae.le;refine⟨by omega,by rw[dP];omega,fun c aC=>?_,?_,fun j Qw BT=>?_⟩
 ·rcases e3.1 aC with q|q
  ·obtain⟨bm,a2,e,a3,a4⟩:=aa.kids c (by rw[q];exact .head _);exact⟨bm,by omega,e,Of a3,a4⟩
  ·obtain⟨bm,a2,e,a3,a4⟩:=ae.kids c q;exact⟨by omega,a2,e,Og a3 (by omega),a4⟩
 ·rw[SK];exact⟨fun c aC=>by have:=(ae.kids c aC).1;omega,ae.Tl⟩
 ·by_cases q:j<m
  ·obtain⟨x,e,bm,a2,a3,a4,a5⟩:=aa.each j Qw q;refine⟨x,e,bm,Of a2,a3,fun c aC=>?_,?_⟩
   ·obtain⟨b1,b2,bz,b3,b4⟩:=a4 c aC;exact⟨b1,by omega,bz,Of b3,b4⟩
   ·rcases a5 with⟨a5,da⟩|a5
    ·refine .inl ⟨?_,da⟩;simp at a5;rw[a5];exact .head _
    ·exact .inr a5
  ·obtain⟨x,e,bm,a2,a3,a4,a5⟩:=ae.each j (by omega) BT;refine⟨x,e,bm,Og a2 (by omega),a3,fun c aC=>?_,?_⟩
   ·obtain⟨b1,b2,bz,b3,b4⟩:=a4 c aC;exact⟨b1,b2,bz,Og b3 (by omega),b4⟩
   ·rcases a5 with⟨a5,da⟩|⟨a5,da⟩
    ·exact .inl ⟨.tail _ a5,da⟩
    ·exact .inr ⟨by omega,da⟩
theorem acQ{ns:List cR}{p:Int}{rec:Nat->Option (Nat×List gu)}(aw:∀n bX e,rec n=some (bX,e)->n<bX/\bX<=ns.length/\Aq ns p n bX [(n:Int)] e):∀{cs:List Int} {n bX:Nat} {e:List gu},hk rec cs n=some (bX,e)->Aq ns p n bX cs e:=by
 intro cs;induction cs with
 |nil=>
  intro n bX e h;simp only[hk,cp,dB] at h;obtain⟨rfl,rfl⟩:=h;exact⟨cW _,by simp,(fun c aC=>by cases aC),List.Pairwise.nil,(fun j Qw BT=>by omega)⟩
 |cons c cs aI=>
  intro n bX e h;rw[w9] at h;split at h
  ·cases h
  ·rename_i aC;have aC:c=(n:Int):=gQ.1 aC;subst aC;split at h
   ·cases h
   ·rename_i de bk ae;obtain⟨bm,a2,a3⟩:=aw _ _ _ ae;split at h
    ·cases h
    ·rename_i kC cG aF;simp only[cp,dB] at h;obtain⟨rfl,rfl⟩:=h;exact a3.cons bm (aI aF)
theorem aoY{ns:List cR}:∀(f:Nat) (p d:Int) (n bX:Nat) (e:List gu),dN ns f p d n=some (bX,e)->n<bX/\bX<=ns.length/\Aq ns p n bX [(n:Int)] e:=by
 intro f;induction f with
 |zero=>intro p d n bX e h;cases h
 |succ f aI=>
  intro p d n bX e h;have av:=qP _ _ _ _ _ _ h;refine⟨av.1,av.2.1,?_⟩;unfold dN at h;split at h
  ·cases h
  ·rename_i x U;split at h
   ·cases h
   ·rename_i de es ae;simp only[cp,dB] at h;obtain⟨rfl,rfl⟩:=h;have aD:=acQ (p:=(n:Int)) (fun a b c q=>aI (n:Int) (d+1) a b c q) ae;have hle:=aD.le;have hlen:=aD.len;refine⟨by omega,by rw[jh];omega,fun c aC=>?_,SL _ _,fun j Qw BT=>?_⟩
    ·simp at aC;subst aC;exact⟨by omega,by omega,(p,d,(de:Int) -1),by simp,rfl⟩
    ·have sh:∀(c:Int) (bz:gu),(n:Int)+1<=c->es[(c -((n+1:Nat):Int)).toNat]?=some bz->((p,d,(de:Int) -1)::es)[(c -n).toNat]?=some bz:=fun c bz bb a7=>by
      rw[show(c -n).toNat=(c -((n+1:Nat):Int)).toNat+1 by omega,yB];exact a7
     by_cases q:j=n
     ·subst q;refine⟨x,(p,d,(de:Int) -1),U,by simp,aD.Tl,fun c aC=>?_,.inl ⟨.head _,rfl⟩⟩;obtain⟨b1,b2,bz,b3,b4⟩:=aD.kids c aC;exact⟨by omega,b2,bz,sh c bz (by omega) b3,b4⟩
     ·obtain⟨y,e,bm,a2,a3,a4,a5⟩:=aD.each j (by omega) BT;refine⟨y,e,bm,by rw[show j -n=(j -(n+1))+1 by omega,yB];exact a2,a3,fun c aC=>?_,?_⟩
      ·obtain⟨b1,b2,bz,b3,b4⟩:=a4 c aC;exact⟨b1,b2,bz,sh c bz (by omega) b3,b4⟩
      ·rcases a5 with⟨a5,da⟩|⟨a5,da⟩
       ·exact .inr ⟨by omega,by omega,x,by rw[da,cx];exact U,a5⟩
       ·exact .inr ⟨by omega,da⟩
structure Tree (g:bq) (P:List Int):Prop where
 len:P.length=g.ns.length
 root:P[0]?=some (-1)
 up:∀c:Nat,1<=c->c<g.ns.length->∃a:Nat,P[c]?=some (a:Int)/\a<c/\∃y,g.ns[a]?=some y/\(c:Int)∈y.ak
 down:∀(j:Nat) (x:cR),g.ns[j]?=some x->x.ak.Pairwise (·<·)/\∀c∈x.ak,(j:Int)<c/\c<g.ns.length/\P[c.toNat]?=some (j:Int)
theorem ao0{g:bq}{es:List gu}{f:Nat}{d:Int}(h:dN g.ns f (-1) d 0=some (g.ns.length,es)):Tree g (es.map fun e=>e.1):=by
 obtain⟨aa,ae,aD⟩:=aoY _ _ _ _ _ _ h;have av:=aD.len;have ec:∀{i:Nat} {e:gu},es[i]?=some e->(es.map fun e=>e.1)[i]?=some e.1:=fun q=>by rw[oF,q];rfl
 refine⟨by rw[lB];omega,?_,fun c c1 c2=>?_,fun j x U=>?_⟩
 ·obtain⟨_,_,e,a3,a4⟩:=aD.kids 0 (.head _);have:=ec a3;rw[a4] at this;exact this
 ·obtain⟨x,e,bm,a2,_,_,a5⟩:=aD.each c (cy _) c2;have:=ec a2;rcases a5 with⟨a5,_⟩|⟨a5,da,y,cT,hr⟩
  ·simp at a5;omega
  ·refine⟨e.1.toNat,?_,by omega,y,cT,hr⟩;rw[Az] at this;rw[this];congr 1;omega
 ·have a':=(dY.1 U).1;obtain⟨y,e,bm,a2,a3,a4,_⟩:=aD.each j (cy _) a';rw[U] at bm;injection bm with bm;subst bm
  refine⟨a3,fun c aC=>?_⟩;obtain⟨b1,b2,bz,b3,b4⟩:=a4 c aC;refine⟨b1,b2,?_⟩;have:=ec b3;rw[b4] at this;rw[<-this];congr 1;omega
def mv(P:List Int)(at_:Nat):List (Nat×Nat):=
 match P[at_]? with
 |none=>[]
 |some a=>if h:0<=a/\a.toNat<at_ then(a.toNat,at_)::mv P a.toNat else[]
termination_by at_
decreasing_by exact h.2
theorem J3{P:List Int}{c a:Nat}(h:P[c]?=some (a:Int))(a1:a<c):mv P c=(a,c)::mv P a:=by
 conv=>lhs;unfold mv
 rw[h];simp only;rw[dif_pos ⟨by omega,by omega⟩,cx]
theorem Tf{P:List Int}{c:Nat}{a:Int}(h:P[c]?=some a)(a1:a<0):mv P c=[]:=by
 unfold mv;rw[h];simp only;rw[dif_neg (by omega)]
theorem Te(P:List Int)(c:Nat):mv P c=[]\/∃a,P[c]?=some ((a:Nat):Int)/\a<c/\mv P c=(a,c)::mv P a:=by
 cases au:P[c]? with
 |none=>left;unfold mv;rw[au]
 |some b=>
  by_cases ap:0<=b/\b.toNat<c
  ·right
   have VS:P[c]?=some ((b.toNat:Nat):Int):=by rw[au];congr 1;omega
   exact⟨b.toNat,by rw[<-VS,au],ap.2,J3 VS ap.2⟩
  ·left;unfold mv;rw[au];simp only;rw[dif_neg ap]
theorem abz{P:List Int}:∀(n c:Nat),c<=n->∀{a d:Nat},(a,d)∈mv P c->∃pre,mv P c=pre++(a,d)::mv P a:=by
 intro n;induction n with
 |zero=>
  intro c aC a d h;rcases Te P c with q|⟨b,bb,a7,b8⟩
  ·rw[q] at h;cases h
  ·omega
 |succ n aI=>
  intro c aC a d h;rcases Te P c with q|⟨b,bb,a7,b8⟩
  ·rw[q] at h;cases h
  ·rw[b8] at h ⊢;rcases e3.1 h with q|q
   ·injection q with fl jb;exact⟨[],by rw[fl,jb];rfl⟩
   ·obtain⟨pre,PY⟩:=aI b (by omega) q;exact⟨(b,c)::pre,by rw[PY];rfl⟩
def B4(g:bq)(p:Int)(x:Nat×Nat):Option (Nat×Int):=match g.ns[x.1]? with
 |none=>none
 |some y=>if y.k=2/\y.p=p then some (x.1,iD (x.2:Int) y.ak 0) else none
def pa(g:bq)(P:List Int)(p:Int)(c:Nat):List (Nat×Int):=(mv P c).filterMap (B4 g p)
def mj(g:bq)(a:Nat):Int:=match g.ns[a]? with|none=>0|some y=>y.i
def j5(g:bq)(P:List Int)(p:Int)(c:Nat):List (Int×Int):=(pa g P p c).map fun x=>(mj g x.1,x.2)
def gE(g:bq)(P:List Int)(p:Int)(c:Nat):List (Int×Int):=(j5 g P p c).reverse
theorem B3{g:bq}{P:List Int}{p:Int}{c a:Nat}{y:cR}(h:P[c]?=some (a:Int))(a1:a<c)(ai:g.ns[a]?=some y)(hm:y.k=2/\y.p=p):pa g P p c=(a,iD (c:Int) y.ak 0)::pa g P p a:=by
 unfold pa;rw[J3 h a1,SC];have:B4 g p (a,c)=some (a,iD (c:Int) y.ak 0):=by unfold B4;simp only[ai];rw[aE hm]
 rw[this]
theorem zH{g:bq}{P:List Int}{p:Int}{c a:Nat}{y:cR}(h:P[c]?=some (a:Int))(a1:a<c)(ai:g.ns[a]?=some y)(hm:¬(y.k=2/\y.p=p)):pa g P p c=pa g P p a:=by
 unfold pa;rw[J3 h a1,SC];have:B4 g p (a,c)=none:=by unfold B4;simp only[ai];rw[an hm]
 rw[this]
theorem LD{g:bq}{P:List Int}{p:Int}{c:Nat}{a:Int}(h:P[c]?=some a)(a1:a<0):pa g P p c=[]:=by
 unfold pa;rw[Tf h a1];rfl
theorem zG{g:bq}{P:List Int}{p:Int}:∀(n c:Nat),c<=n->(pa g P p c).length<=c:=by
 have key:∀(n c:Nat),c<=n->(mv P c).length<=c:=by
  intro n;induction n with
  |zero=>
   intro c aC;unfold mv;split
   ·simp
   ·split
    ·omega
    ·simp
  |succ n aI=>
   intro c aC;unfold mv;split
   ·simp
   ·split
    ·rename_i b _ ap;have:=aI b.toNat (by omega);rw[jh];omega
    ·simp
 intro n c aC;exact p7 (List.length_filterMap_le _ _) (key n c aC)
theorem ap8{g:bq}{P:List Int}{p:Int}{c a d:Nat}{y:cR}(h:(a,d)∈mv P c)(ai:g.ns[a]?=some y)(hm:y.k=2/\y.p=p):gE g P p c≠gE g P p a:=by
 intro q;have av:(gE g P p c).length=(gE g P p a).length:=by rw[q]
 obtain⟨pre,PY⟩:=abz c c (cW _) h;unfold gE j5 pa at av;rw[PY,List.filterMap_append,SC] at av;have:B4 g p (a,d)=some (a,iD (d:Int) y.ak 0):=by unfold B4;simp only[ai];rw[aE hm]
 rw[this] at av;simp only[uY,lB,dP,jh] at av;omega
def Ad{σ:Type}(step:σ->Nat->Int->σ×Bool):σ->List (Nat×Int)->σ
 |s,[]=>s
 |s,x::r=>if(step s x.1 x.2).2=true then Ad step (step s x.1 x.2).1 r else(step s x.1 x.2).1
end
end Go.Opn
