/- A part of the proof of SampleParts. -/
import Derived.Test.YtdbhjgpppmkagaaGreatCbb
import Derived.Test.YtdbhjgpppmkagaaGreatCbg
import Derived.Test.YtdbhjgpppmkagaaGreatCbf
import Derived.Test.YtdbhjgpppmkagaaGreatCaw
set_option linter.unusedVariables false
namespace Go.Opn
noncomputable section
def ht(g:bp)(s p:List (List Int))(n:Nat):Prop:=kI g s (-(6144*(n:Int))) (6144*n)/\kI g p 0 (1073741824*n)
theorem ht.wide{g:bp}{s p:List (List Int)}{n n':Nat}(h:ht g s p n)(aM:n<=n'):ht g s p n':=
 ⟨h.1.wide (by omega) (by omega),h.2.wide (by omega) (by omega)⟩
theorem ht.zero{g:bp}(hw:hV g){n:Nat}:ht g (jl g) (jl g) n:=⟨(Xi hw).wide (by omega) (by omega),(Xi hw).wide (by omega) (by omega)⟩
theorem VL{cL:Int}:∀{l:List (List Int)} {ys:List (Int×Int)},(∀(i:Nat) (r:List Int) (y:Int×Int),l[i]?=some r->ys[i]?=some y->(r.length:Int)=y.2/\∀v∈r,cL<=v/\v<=70368744177664)->wa cL l ys=0
 |[],_,_=>rfl
 |_::_,[],_=>rfl
 |r::l,y::ys,h=>by
  obtain⟨aa,ab⟩:=h 0 r y rfl rfl;have aK:r.any (gY cL 70368744177664)=false:=by
   rw[PF];intro v ap;have:=ab v ap;simp[gY];omega
  show(if(r.length:Int)≠y.2 then 3 else if r.any (gY cL 70368744177664)=true then 2 else wa cL l ys)=0;rw[aq (by omega),aK,aq Ps];exact VL fun i b7 jZ aZ aR=>h (i+1) b7 jZ aZ aR
theorem kI.ok{g:bp}{l:List (List Int)}{cL ak oG:Int}(h:kI g l cL ak)(aa:oG<=cL)(ab:ak<=70368744177664):rB g l oG=0:=by
 unfold rB;rw[aq (by rw[h.1];simp)];exact VL fun i r y aZ aR=>⟨(h.2 i r y aZ aR).1,fun v ap=>by have:=(h.2 i r y aZ aR).2 v ap;omega⟩
theorem ht.valid{g:bp}{t:kM}{n:Nat}(h:ht g t.sum t.pl n)(aM:n<=60000)(aa:0<=t.r)(ab:t.r<=1000000)(aK:0<=t.s)(bh:t.s<=2147483646):yb g t=0:=by
 have aD:rB g t.sum (-70368744177664)=0:=h.1.ok (by omega) (by omega);have a5:rB g t.pl 0=0:=h.2.ok (by omega) (by omega);unfold yb;rw[aq (by omega),aD,aq (by simp),a5]
theorem ht.len{g:bp}{s p:List (List Int)}{n:Nat}(ar:hV g)(h:ht g s p n):s.length=g.is.length/\p.length=g.is.length/\(∀r∈s,1<=r.length/\r.length<=3)/\∀r∈p,1<=r.length/\r.length<=3:=
 ⟨h.1.1,h.2.1,(h.1.len ar).2,(h.2.len ar).2⟩
end
end Go.Opn
namespace Go.Opn
noncomputable section
def jF(l:List Int):Int:=(l.map fun x=>max x 0).sum
def nJ(l:List Int)(x:Int):Int:=if 0<jF l then(65536*max x 0).tdiv (jF l) else(65536:Int).tdiv l.length
def iP(l:List Int):List Int:=l.map (nJ l)
def rA(l:List Int):Int:=65536 -(iP l).sum
def xW(l:List Int)(i:Int):Int:=(65536*max (l.getD i.toNat 0) 0).tmod (jF l)
def Dz(l:List Int)(a b:Int):Int:=xW l b -xW l a
def qB(l:List Int)(j:Nat):List Int:=(l.set (j+1) (l.getD j 0)).set j (l.getD (j+1) 0)
def om(f:Int->Int->Int):Nat->List Int->List Int
 |0,l=>l
 |j+1,l=>if f (l.getD (j+1) 0) (l.getD j 0)<0 then om f j (qB l j) else l
def pq(f:Int->Int->Int):Nat->List Int->List Int
 |0,l=>l
 |k+1,l=>om f (k+1) (pq f k l)
def oF(n:Nat):List Int:=(List.range n).map fun(i:Nat)=>Int.ofNat i
def nt(l:List Int):List Int:=if 0<jF l/\0<rA l then pq (Dz l) (l.length -1) (oF l.length) else oF l.length
def qj(o:List Int)(i:Int):List Int:=o.set i.toNat (o.getD i.toNat 0+1)
def jW(l:List Int):List Int:=((nt l).take (rA l).toNat).foldl qj (iP l)
theorem ajO{l:List Int}{f:Int->Int}(h:∀x∈l,0<=f x):0<=(l.map f).sum:=z9 fun v ap=>by
 obtain⟨x,I,rfl⟩:=m8.1 ap;exact h x I
theorem aj3(l:List Int):0<=jF l:=ajO fun x _=>by omega
theorem RS{l:List Int}{x:Int}:0<=nJ l x:=by
 unfold nJ;split
 ·exact Int.tdiv_nonneg (by omega) (aj3 l)
 ·exact Int.tdiv_nonneg (by decide) (Int.natCast_nonneg _)
theorem RT{T:Int}(dK:0<T):∀(l:List Int),T*(l.map fun x=>(65536*max x 0).tdiv T).sum<=65536*(l.map fun x=>max x 0).sum/\65536*(l.map fun x=>max x 0).sum<=T*(l.map fun x=>(65536*max x 0).tdiv T).sum+(T -1)*l.length
 |[]=>by simp
 |x::l=>by
  obtain⟨aa,ab⟩:=RT dK l;have hm:0<=65536*max x 0:=by omega
  have aD:=XB (65536*max x 0) T;have a5:=PA T hm;have cC:=JY (65536*max x 0) dK;rw[k2,k2,Av,Av,j2,Gq,Gq];have e0:(T -1)*((l.length+1:Nat):Int)=(T -1)*l.length+(T -1):=by rw[Int.natCast_add,Gq];simp
  rw[e0];omega
theorem Ub{l:List Int}(aM:1<=l.length)(EK:l.length<=65536):0<=rA l/\rA l<l.length:=by
 unfold rA iP;rcases Pz 0 (jF l) with h|h
 ·have e:l.map (nJ l)=l.map fun x=>(65536*max x 0).tdiv (jF l):=PM fun x _=>by unfold nJ;rw[aF h]
  obtain⟨aa,ab⟩:=RT h l;rw[e];generalize (l.map fun x=>(65536*max x 0).tdiv (jF l)).sum=s at*;have aa:jF l*s<=65536*jF l:=aa;have ab:65536*jF l<=jF l*s+(jF l -1)*l.length:=ab;generalize jF l=T at*;constructor
  ·rcases Pz s 65537 with q|q
   ·omega
   ·have:=XA q (Gp h);have cC:T*65537=65536*T+T:=by omega
    omega
  ·rcases Pz (65536 -s) l.length with q|q
   ·exact q
   ·exfalso;have aZ:s<=65536 -l.length:=by omega
    have:=XA aZ (Gp h);rw[Int.mul_sub] at this;have ch:(T -1)*(l.length:Int)=T*l.length -l.length:=by rw[Int.sub_mul,Int.one_mul]
    rw[ch] at ab;have js:T*65536=65536*T:=Int.mul_comm _ _;omega
 ·have e:l.map (nJ l)=l.map fun _=>(65536:Int).tdiv l.length:=PM fun x _=>by unfold nJ;rw[aq (by omega)]
  rw[e,List.map_const',List.sum_replicate_int];have au:(0:Int)<l.length:=by omega
  have aD:=XB 65536 (l.length:Int);have a5:=PA (l.length:Int) (show(0:Int)<=65536 by decide);have cC:=JY 65536 au;omega
theorem OI{l:List Int}{j:Nat}:(qB l j).length=l.length:=by unfold qB;rw[hW,hW]
theorem Wr{l:List Int}{j:Nat}(h:j+1<l.length):∀x∈qB l j,x∈l:=fun x I=>by
 unfold qB at I;have a:l.getD j 0∈l:=by rw[oe,du (by omega)];exact As _
 have b:l.getD (j+1) 0∈l:=by rw[oe,du h];exact As _
 rcases J' I with I|rfl
 ·rcases J' I with I|rfl
  ·exact I
  ·exact a
 ·exact b
theorem YB{f:Int->Int->Int}:∀(j:Nat) (l:List Int),j<l.length->(om f j l).length=l.length/\∀x∈om f j l,x∈l:=by
 intro j;induction j with
 |zero=>intro l _;exact⟨rfl,fun x I=>I⟩
 |succ j aG=>
  intro l ay;unfold om;split
  ·obtain⟨aa,ab⟩:=aG (qB l j) (by rw[OI];omega);exact⟨aa.trans OI,fun x I=>Wr (by omega) x (ab x I)⟩
  ·exact⟨rfl,fun x I=>I⟩
theorem ae1{f:Int->Int->Int}:∀(k:Nat) (l:List Int),k<l.length->(pq f k l).length=l.length/\∀x∈pq f k l,x∈l:=by
 intro k;induction k with
 |zero=>intro l _;exact⟨rfl,fun x I=>I⟩
 |succ k aG=>
  intro l ay;obtain⟨aa,ab⟩:=aG l (by omega);obtain⟨aK,bh⟩:=YB (f:=f) (k+1) (pq f k l) (by omega);exact⟨aK.trans aa,fun x I=>ab x (bh x I)⟩
theorem BN{n:Nat}:(oF n).length=n:=by unfold oF;rw[ig,yr]
theorem ae6{n i:Nat}(h:i<n):(oF n)[i]?=some (i:Int):=by unfold oF;rw[gG,wz h];rfl
theorem Nl{n:Nat}:∀x∈oF n,0<=x/\x<n:=fun x I=>by
 obtain⟨i,ak,rfl⟩:=m8.1 I;have:=wA.1 ak;show 0<=(i:Int)/\(i:Int)<n;omega
theorem UW{l:List Int}(aM:1<=l.length):(nt l).length=l.length/\∀x∈nt l,0<=x/\x<l.length:=by
 unfold nt;split
 ·obtain⟨aa,ab⟩:=ae1 (f:=Dz l) (l.length -1) (oF l.length) (by rw[BN];omega);exact⟨aa.trans BN,fun x I=>Nl x (ab x I)⟩
 ·exact⟨BN,Nl⟩
theorem Nh{n:Nat}:∀(is o:List Int),o.length=n->(∀x∈is,0<=x/\x<n)->(∀v∈o,0<=v)->(is.foldl qj o).length=n/\(is.foldl qj o).sum=o.sum+is.length/\∀v∈is.foldl qj o,0<=v
 |[],o,an,_,h=>⟨an,by simp,h⟩
 |i::is,o,an,ak,h=>by
  have HV:=ak i (.head _);have I:=du (l:=o) (i:=i.toNat) (by omega);have hm:=cV I;obtain⟨aa,ab,aK⟩:=Nh is (qj o i) (by unfold qj;rw[hW];exact an) (fun x q=>ak x (.tail _ q)) fun v ap=>by
   rcases J' ap with q|q
   ·exact h v q
   ·rw[q,oe,I];have:=h _ hm;show 0<=o[i.toNat]+1;omega
  refine⟨aa,?_,aK⟩;rw[J7,ab,j2];unfold qj;rw[oe,I,ajP I];show o.sum -o[i.toNat]+(o[i.toNat]+1)+(is.length:Int)=_;omega
theorem Wa{l:List Int}(aM:1<=l.length)(EK:l.length<=65536):(jW l).length=l.length/\(jW l).sum=65536/\∀v∈jW l,0<=v/\v<=65536:=by
 obtain⟨aa,ab⟩:=Ub aM EK;obtain⟨aK,bh⟩:=UW aM;obtain⟨a',bd,bz⟩:=Nh (n:=l.length) ((nt l).take (rA l).toNat) (iP l) (by unfold iP;rw[ig]) (fun x I=>bh x (uM I)) (fun v ap=>by
  obtain⟨x,_,rfl⟩:=m8.1 ap;exact RS)
 have al:(jW l).sum=65536:=by
  unfold jW;rw[bd,fc];unfold rA at*;omega
 refine⟨a',al,fun v ap=>⟨bz v ap,?_⟩⟩;obtain⟨k,aH⟩:=uL ap;have:=Wp (l:=jW l) bz aH;omega
end
end Go.Opn
namespace Go.Opn
noncomputable section
end
end Go.Opn
namespace Go.Opn
noncomputable section
theorem aiN{s:Int}(aa:1<=s)(ab:s<2147483647):(48271*s) % 2147483647≠0:=by
 intro h;have aK:(1899818559*(48271*s)) % 2147483647=0:=by
  rw[Int.mul_emod,h,Int.mul_zero];rfl
 have bh:(1899818559*(48271*s))=s+2147483647*(42704033*s+1*0)+(1899818559*48271 -1 -2147483647*42704033)*s:=by omega
 omega
theorem aiO{s:Int}(aa:1<=s)(ab:s<2147483647):1<=(48271*s).tmod 2147483647/\(48271*s).tmod 2147483647<2147483647:=by
 have h:=aiN aa ab;rw[XD (by omega)];omega
theorem tdiv_le{x b t:Int}(aN:0<t)(aa:-(b*t)<=x)(ab:x<=b*t):-b<=x.tdiv t/\x.tdiv t<=b:=by
 by_cases I:0<=x
 ·rw[XC I];have bl:=Int.ediv_nonneg I (Gp aN);have bF:=Xy aN ab;omega
 ·have e:x.tdiv t=-((-x) / t):=by
   rw[<-XC (show 0<=-x by omega),Int.neg_tdiv,Int.neg_neg]
  rw[e];have bl:=Int.ediv_nonneg (show 0<=-x by omega) (Gp aN);have bF:=Xy aN (show -x<=b*t by omega);omega
end
end Go.Opn
namespace Go.Opn
noncomputable section
def sH(P:Nat->Bool):Nat->Nat->Nat
 |0,i=>i
 |k+1,i=>if P i=true then i else sH P k (i+1)
theorem T'{P:Nat->Bool}:∀{n i r:Nat},i<=r->r<=i+n->(∀j,i<=j->j<r->P j=false)->(r<i+n->P r=true)->sH P n i=r
 |0,i,r,aa,ab,_,_=>by unfold sH;omega
 |n+1,i,r,aa,ab,aK,bh=>by
  unfold sH;by_cases h:i=r
  ·subst h;rw[aF (bh (by omega))]
  ·rw[aq (by rw[aK i (dH _) (by omega)];exact Ps)];exact T' (by omega) (by omega) (fun j aZ aR=>aK j (by omega) aR) (fun q=>bh (by omega))
theorem Ua{P:Nat->Bool}:∀{n i:Nat},i<=sH P n i/\sH P n i<=i+n
 |0,i=>by unfold sH;omega
 |n+1,i=>by
  have:=Ua (P:=P) (n:=n) (i:=i+1);unfold sH;split<;>omega
def hF(w:List Int):List Int:=(List.range w.length).map fun k=>(w.take (k+1)).sum
theorem tv{w:List Int}:(hF w).length=w.length:=by unfold hF;rw[ig,yr]
theorem KX{w:List Int}{k:Nat}(h:k<w.length):(hF w)[k]?=some (w.take (k+1)).sum:=by unfold hF;rw[gG,wz h];rfl
def rJ(w:List Int)(n:Int):Nat:=sH (fun k=>decide (n<(w.take (k+1)).sum)) (w.length -1) 0
theorem N3{w:List Int}{n:Int}(h:1<=w.length):rJ w n<w.length:=by
 have:=Ua (P:=fun k=>decide (n<(w.take (k+1)).sum)) (n:=w.length -1) (i:=0);unfold rJ;omega
def mx(s:Int):Int:=(s*48271).tmod 2147483647
theorem Ou{s:Int}(aa:1<=s)(ab:s<2147483647):1<=mx s/\mx s<2147483647:=by
 unfold mx;rw[Int.mul_comm];exact aiO aa ab
def gb(g:bp)(S:List (List Int))(q:Int):List Int:=if q<g.ns.length then(match g.ns[q.toNat]? with|some x=>x.ws|none=>[]) else S.getD (q -g.ns.length).toNat []
def gr(g:bp)(n:Nat):List Int:=((List.range n).filter fun i=>match g.ns[i]? with|some x=>decide (x.k=1)|none=>false).map Int.ofNat
def qA(g:bp)(p:Int)(n:Nat):List Int:=((List.range n).filter fun i=>match g.is[i]? with|some y=>decide (y.1≠p)|none=>false).map fun(i:Nat)=>(g.ns.length:Int)+i
def fi(g:bp)(p:Int):List Int:=gr g g.ns.length++qA g p g.is.length
def fT(W:Int->List Int):List Int->Int->List (Int×Int)×Int
 |[],s=>([],s)
 |q::fq,s=>((q,(mx s).tmod (W q).sum)::(fT W fq (mx s)).1,(fT W fq (mx s)).2)
theorem Rr{W:Int->List Int}:∀(fq:List Int) (s:Int),1<=s->s<2147483647->1<=(fT W fq s).2/\(fT W fq s).2<2147483647
 |[],s,aa,ab=>⟨aa,ab⟩
 |q::fq,s,aa,ab=>by
  obtain⟨a',bd⟩:=Ou aa ab;exact Rr fq _ a' bd
structure hD where
 seen:List Bool
 sum:List (List Int)
def nH(vs row:List Int):Int:=(List.zipWith (·*·) vs row).sum
def kD(vs row:List Int):Int:=(nH vs row).tdiv 65536
def nC(row vs:List Int)(v:Int):List Int:=List.zipWith (fun a b=>a+(b -v)) row vs
def Cf(g:bp)(x:cH)(i:Nat):Int:=if x.k=2 then g.ns.length+x.i else i
def xT(S:List (List Int))(x:cH):List Int:=if x.k=2 then S.getD x.i.toNat [] else x.ws
def g4(g:bp)(S:List (List Int))(p:Int)(fA:Int->Int):Nat->Nat->hD->Int×hD
 |0,_,σ=>(0,σ)
 |f+1,i,σ=>match g.ns[i]? with
  |none=>(0,σ)
  |some x=>
   if x.k=3 then(x.gw.getD p.toNat 0*1024,σ) else
   let dp:hD:=if x.k=2 then⟨σ.seen.set x.i.toNat true,σ.sum⟩ else σ
   if x.k=2/\x.p=p then
    let r:=x.af.foldl (fun(ei:List Int×hD) c=>(ei.1++[(g4 g S p fA f c.toNat ei.2).1],(g4 g S p fA f c.toNat ei.2).2)) ([],dp)
    let v:=kD r.1 (S.getD x.i.toNat [])
    (v,⟨r.2.seen,r.2.sum.set x.i.toNat (nC (r.2.sum.getD x.i.toNat []) r.1 v)⟩)
   else g4 g S p fA f (x.af.getD (rJ (xT S x) (fA (Cf g x i))) 0).toNat dp
theorem Rk:∀{vs row:List Int} {b:Int},0<=b->(∀v∈vs,-b<=v/\v<=b)->(∀w∈row,0<=w)->-(b*row.sum)<=nH vs row/\nH vs row<=b*row.sum
 |[],row,b,ai,_,ax=>by
  have:=z9 ax;have ab:=Int.mul_nonneg ai this;show -(b*row.sum)<=0/\0<=b*row.sum;omega
 |v::vs,[],b,ai,_,_=>by show -(b*0)<=0/\0<=b*0;omega
 |v::vs,w::row,b,ai,ap,ax=>by
  obtain⟨aa,ab⟩:=Rk (vs:=vs) (row:=row) ai (fun x I=>ap x (.tail _ I)) (fun x I=>ax x (.tail _ I));have ua:=ap v (.head _);have zA:=ax w (.head _);have e:nH (v::vs) (w::row)=v*w+nH vs row:=rfl;have bl:=JX ua.2 zA;have bF:=JX ua.1 zA;rw[e,Av,Gq];rw[Int.neg_mul] at bF;omega
theorem UZ{vs row:List Int}{b:Int}(ai:0<=b)(ap:∀v∈vs,-b<=v/\v<=b)(ax:∀w∈row,0<=w)(al:row.sum=65536):-b<=kD vs row/\kD vs row<=b:=by
 obtain⟨aa,ab⟩:=Rk ai ap ax;rw[al] at aa ab;exact tdiv_le (by decide) aa ab
end
end Go.Opn
namespace Go.Opn
noncomputable section
theorem AL{rec:Nat->Option (Nat×List fD)}(ax:∀a n es,rec a=some (n,es)->a<n):∀(af:List Int) (a n:Nat) (es:List fD),gL rec af a=some (n,es)->a<=n/\∀c∈af,∃(k n':Nat) (hG:List fD),c=(k:Int)/\rec k=some (n',hG)/\a<=k/\n'<=n
 |[],a,n,es,h=>by injection h with h;injection h with aa ab;subst aa;exact⟨dH _,fun c av=>by cases av⟩
 |c::af,a,n,es,h=>by
  unfold gL at h;split at h
  ·cases h
  ·rename_i av;have av:c=(a:Int):=CI av;split at h
   ·cases h
   ·rename_i b5 sc aa;split at h
    ·cases h
    ·rename_i dr vf ab;injection h with h;injection h with aD a5;subst aD
     obtain⟨a',bd⟩:=AL ax af b5 dr vf ab;have:=ax a b5 sc aa;refine⟨by omega,fun x I=>?_⟩;rcases ft.1 I with rfl|I
     ·exact⟨a,b5,sc,av,aa,dH _,a'⟩
     ·obtain⟨k,n',hG,aZ,aR,bY,ep⟩:=bd x I;exact⟨k,n',hG,aZ,aR,by omega,ep⟩
theorem F2{ns:List cH}:∀(f:Nat) (iQ d:Int) (a n:Nat) (es:List fD),dW ns f iQ d a=some (n,es)->a<n
 |0,iQ,d,a,n,es,h=>by cases h
 |f+1,iQ,d,a,n,es,h=>by
  unfold dW at h;split at h
  ·cases h
  ·split at h
   ·cases h
   ·rename_i b5 sc aa;injection h with h;injection h with aD a5;subst aD
    have:=(AL (fun a n es q=>F2 f _ _ a n es q) _ _ _ _ aa).1;omega
section
variable {g:bp}{S pl:List (List Int)}{p:Int}{fA:Int->Int}
theorem GP{row vs:List Int}{v:Int}(h:row.length=vs.length):(nC row vs v).length=row.length:=by unfold nC;rw[PK,h,Nat.min_self]
theorem X'{row vs:List Int}{v:Int}:∀x∈nC row vs v,∃a b,a∈row/\b∈vs/\x=a+(b -v):=fun x I=>by
 obtain⟨k,aH⟩:=uL I;unfold nC at aH;rw[J8] at aH;split at aH
 ·rename_i a b aW ai;injection aH with aH
  exact⟨a,b,cV aW,cV ai,aH.symm⟩
 ·cases aH
def Ki(g:bp)(pl:List (List Int))(σ:hD)(m:Nat)(r:Int×hD):Prop:=(-3072<=r.1/\r.1<=3072)/\ht g r.2.sum pl m/\r.2.seen.length=σ.seen.length
theorem W2{rec:Nat->Option (Nat×List fD)}{V:Nat->hD->Int×hD}(ax:∀a n es,rec a=some (n,es)->a<n)(lC:∀a n es,rec a=some (n,es)->∀σ m,ht g σ.sum pl m->Ki g pl σ (m+3*(n -a)) (V a σ)):
 ∀(af:List Int) (a n:Nat) (es:List fD),gL rec af a=some (n,es)->∀(vs:List Int) (σ:hD) (m:Nat),(∀v∈vs,-3072<=v/\v<=3072)->ht g σ.sum pl m->
  (∀v∈(af.foldl (fun(ei:List Int×hD) c=>(ei.1++[(V c.toNat ei.2).1],(V c.toNat ei.2).2)) (vs,σ)).1,-3072<=v/\v<=3072)/\(af.foldl (fun(ei:List Int×hD) c=>(ei.1++[(V c.toNat ei.2).1],(V c.toNat ei.2).2)) (vs,σ)).1.length=vs.length+af.length/\
  ht g (af.foldl (fun(ei:List Int×hD) c=>(ei.1++[(V c.toNat ei.2).1],(V c.toNat ei.2).2)) (vs,σ)).2.sum pl (m+3*(n -a))/\(af.foldl (fun(ei:List Int×hD) c=>(ei.1++[(V c.toNat ei.2).1],(V c.toNat ei.2).2)) (vs,σ)).2.seen.length=σ.seen.length
 |[],a,n,es,h,vs,σ,m,ap,al=>⟨ap,by simp,al.wide (by omega),rfl⟩
 |c::af,a,n,es,h,vs,σ,m,ap,al=>by
  have hle:=(AL ax _ _ _ _ h).1;unfold gL at h;split at h
  ·cases h
  ·rename_i av;have av:c=(a:Int):=CI av;split at h
   ·cases h
   ·rename_i b5 sc aa;split at h
    ·cases h
    ·rename_i dr vf ab;injection h with h;injection h with aD a5;subst aD
     have p5:c.toNat=a:=by omega
     have aW:=ax a b5 sc aa;have ai:=(AL ax _ _ _ _ ab).1;obtain⟨a',bd,bz⟩:=lC a b5 sc aa σ m al;rw[J7,p5];obtain⟨vN,Nn,xD,No⟩:=W2 ax lC af b5 dr vf ab (vs++[(V a σ).1]) (V a σ).2 _ (fun v q=>by
      rcases lL.1 q with q|q
      ·exact ap v q
      ·rw[List.mem_singleton.1 q];exact a') bd
     refine⟨vN,by rw[Nn];simp;omega,xD.wide (by omega),No.trans bz⟩
theorem JH(hw:hV g)(aC:AB g S)(k9:0<=p)(k':p<g.pl):∀(f:Nat) (iQ d:Int) (i n:Nat) (es:List fD),dW g.ns f iQ d i=some (n,es)->∀σ m,ht g σ.sum pl m->Ki g pl σ (m+3*(n -i)) (g4 g S p fA f i σ)
 |0,iQ,d,i,n,es,h=>by cases h
 |f+1,iQ,d,i,n,es,h=>by
  intro σ m al;have jg:=F2 _ _ _ _ _ _ h;unfold dW at h;split at h
  ·cases h
  ·rename_i x I;split at h
   ·cases h
   ·rename_i b5 sc aa;injection h with h;injection h with aD a5;subst aD
    have np:=cV I;have sD:∀a n es,dW g.ns f i (d+1) a=some (n,es)->a<n:=fun a n es q=>F2 f _ _ a n es q;have lC:∀a n es,dW g.ns f i (d+1) a=some (n,es)->∀σ m,ht g σ.sum pl m->Ki g pl σ (m+3*(n -a)) (g4 g S p fA f a σ):=fun a n es q=>JH hw aC k9 k' f _ _ a n es q;obtain⟨aZ,aR⟩:=AL sD _ _ _ _ aa;unfold g4;rw[I];simp only
    by_cases zn:x.k=3
    ·rw[aF zn];refine⟨?_,al.wide (by omega),rfl⟩;rcases hw.kind x np with⟨_,_,bz,cM⟩|⟨a',_⟩|⟨a',_⟩
     ·have hm:=du (l:=x.gw) (i:=p.toNat) (by omega);have:=cM _ (cV hm);show -3072<=x.gw.getD p.toNat 0*1024/\x.gw.getD p.toNat 0*1024<=3072;rw[oe,hm];show -3072<=x.gw[p.toNat]*1024/\x.gw[p.toNat]*1024<=3072;omega
     ·omega
     ·omega
    ·rw[aq zn];have rs:∀b:Prop,[Decidable b]->ht g (if b then(⟨σ.seen.set x.i.toNat true,σ.sum⟩:hD) else σ).sum pl m/\(if b then(⟨σ.seen.set x.i.toNat true,σ.sum⟩:hD) else σ).seen.length=σ.seen.length:=fun b _=>by
      split
      ·exact⟨al,by rw[hW]⟩
      ·exact⟨al,rfl⟩
     obtain⟨s1,s2⟩:=rs (x.k=2);generalize (if x.k=2 then(⟨σ.seen.set x.i.toNat true,σ.sum⟩:hD) else σ)=dp at*;have gk:1<=x.af.length/\x.af.length<=3:=by
      rcases hw.kind x np with⟨a',_⟩|⟨_,_,bz,cM,_⟩|⟨_,bd,bz,_⟩<;>omega
     by_cases Bu:x.k=2/\x.p=p
     ·rw[aF Bu];obtain⟨vN,Nn,xD,No⟩:=W2 sD lC x.af (i+1) b5 sc aa [] dp m (fun v q=>by cases q) s1;generalize x.af.foldl (fun(ei:List Int×hD) c=>(ei.1++[(g4 g S p fA f c.toNat ei.2).1],(g4 g S p fA f c.toNat ei.2).2)) ([],dp)=r at*;obtain⟨k,aH,ah⟩:∃k:Nat,x.i=(k:Int)/\g.is[k]?=some (x.p,(x.af.length:Int)):=by
       rcases hw.kind x np with⟨a',_⟩|⟨a',_⟩|⟨_,_,_,_,_,h⟩
       ·omega
       ·omega
       ·exact h
      have vy:x.i.toNat=k:=by omega
      obtain⟨row,hJ,_,Bz⟩:=aC.1.get ah;have EY:=aC.2 row (cV hJ);have HG:S.getD x.i.toNat []=row:=by rw[vy,oe,hJ];rfl
      have ap:=UZ (vs:=r.1) (row:=row) (b:=3072) (by decide) vN (fun w Nb=>by
       obtain⟨a,aW⟩:=uL Nb;exact(Bz a w aW).1) EY
      obtain⟨Jx,Tq,hR,EX⟩:=xD.1.get ah;have EW:r.2.sum.getD x.i.toNat []=Jx:=by rw[vy,oe,Tq];rfl
      simp only[HG,EW];refine⟨ap,?_,No.trans s2⟩;have TA:ht g r.2.sum pl (m+3*(b5 -i)):=xD.wide (by omega);refine⟨?_,TA.2⟩;rw[vy];refine TA.1.ah6 Tq (GP (by rw[Nn];simp;omega)) fun z bC=>?_;obtain⟨a,b,aW,ai,rfl⟩:=X' z bC;obtain⟨aff,adA⟩:=uL aW;have ff:=EX aff a adA;have gz:=vN b ai;constructor<;>omega
     ·rw[aq Bu];have av:x.af.getD (rJ (xT S x) (fA (Cf g x i))) 0∈x.af:=by
       have cP:rJ (xT S x) (fA (Cf g x i))<x.af.length:=by
        have ay:(xT S x).length=x.af.length:=by
         unfold xT;rcases hw.kind x np with⟨a',_⟩|⟨a',bd,_⟩|⟨a',_,_,_,_,k,aH,ah⟩
         ·omega
         ·rw[aq (by omega),bd]
         ·rw[aF a'];obtain⟨row,hJ,ay,_⟩:=aC.1.get ah;rw[aH,ea,oe,hJ];show row.length=_;omega
        have:=N3 (w:=xT S x) (n:=fA (Cf g x i)) (by omega);omega
       rw[oe,du cP];exact As _
      obtain⟨k,n',hG,bx,bT,dA,nE⟩:=aR _ av;rw[bx,ea];obtain⟨v1,v2,jX⟩:=lC k n' hG bT dp m s1;exact⟨v1,v2.wide (by omega),jX.trans s2⟩
end
end
end Go.Opn
namespace Go.Opn
noncomputable section
def kC(l:List (Int×Int))(q:Int):Int:=(l.lookup q).getD 0
def n6(r6:Int):List (Int×Int)->List Bool->List (List Int)->List (List Int)->List (List Int)
 |y::ys,b::bs,s::ss,q::fq=>(if y.1=r6/\b=true then List.zipWith (·+·) q s else q)::n6 r6 ys bs ss fq
 |_,_,_,fq=>fq
theorem FJ{r6:Int}:∀{ys:List (Int×Int)} {bs:List Bool} {ss fq:List (List Int)},(n6 r6 ys bs ss fq).length=fq.length
 |y::ys,b::bs,s::ss,q::fq=>by unfold n6;rw[j2,j2,FJ]
 |[],_,_,fq=>by unfold n6;rfl
 |_::_,[],_,fq=>by unfold n6;rfl
 |_::_,_::_,[],fq=>by unfold n6;rfl
 |_::_,_::_,_::_,[]=>by unfold n6;rfl
theorem N4{r6:Int}:∀{ys:List (Int×Int)} {bs:List Bool} {ss fq:List (List Int)} {i:Nat} {y:Int×Int} {b:Bool} {s q:List Int},ys[i]?=some y->bs[i]?=some b->ss[i]?=some s->fq[i]?=some q->(n6 r6 ys bs ss fq)[i]?=some (if y.1=r6/\b=true then List.zipWith (·+·) q s else q)
 |y::ys,b::bs,s::ss,q::fq,0,_,_,_,_,aa,ab,aK,bh=>by
  injection aa with aa;injection ab with ab;injection aK with aK;injection bh with bh
  subst aa;subst ab;subst aK;subst bh;rfl
 |y::ys,b::bs,s::ss,q::fq,i+1,_,_,_,_,aa,ab,aK,bh=>N4 (ys:=ys) (bs:=bs) (ss:=ss) (fq:=fq) (i:=i) aa ab aK bh
structure Az where
 fL:Int
 sum:List (List Int)
 pl:List (List Int)
def tn(g:bp)(p:Int):Int:=(p+g.pl -1).tmod g.pl
def FI(g:bp)(S:List (List Int))(p:Int)(σ:Az):Az:=
 ⟨(fT (gb g S) (fi g p) σ.fL).2,
  (g4 g S p (kC (fT (gb g S) (fi g p) σ.fL).1) (g.ns.length+1) 0 ⟨List.replicate g.is.length false,σ.sum⟩).2.sum,
  n6 (tn g p) g.is (g4 g S p (kC (fT (gb g S) (fi g p) σ.fL).1) (g.ns.length+1) 0 ⟨List.replicate g.is.length false,σ.sum⟩).2.seen S σ.pl⟩
def eh(g:bp)(S:List (List Int)):Nat->Az->Az
 |0,σ=>σ
 |k+1,σ=>FI g S k (eh g S k σ)
def xV(g:bp)(t:kM):kM:=
 ⟨t.r+1,(eh g (t.sum.map jW) g.pl.toNat ⟨t.s,t.sum,t.pl⟩).fL,(eh g (t.sum.map jW) g.pl.toNat ⟨t.s,t.sum,t.pl⟩).sum,(eh g (t.sum.map jW) g.pl.toNat ⟨t.s,t.sum,t.pl⟩).pl⟩
def kF(g:bp):Nat->kM->kM
 |0,t=>t
 |k+1,t=>xV g (kF g k t)
theorem VE{g:bp}{m:Nat}{t:kM}:∀n,kF g (m+n) t=kF g n (kF g m t)
 |0=>rfl
 |n+1=>by show xV g (kF g (m+n) t)=xV g (kF g n (kF g m t));rw[VE n]
theorem Jn{g:bp}{t:kM}:∀n:Nat,(kF g n t).r=t.r+n
 |0=>by show t.r=t.r+((0:Nat):Int);omega
 |n+1=>by show(kF g n t).r+1=_;rw[Jn n];omega
section
variable {g:bp}{S:List (List Int)}
theorem Wb{l:List (List Int)}{cL ak:Int}(hw:hV g)(h:kI g l cL ak):AB g (l.map jW):=by
 have key:∀(i:Nat) (b7:List Int) (y:Int×Int),(l.map jW)[i]?=some b7->g.is[i]?=some y->(b7.length:Int)=y.2/\b7.sum=65536/\∀v∈b7,0<=v/\v<=65536:=fun i b7 y ax ah=>by
  rw[gG] at ax;obtain⟨r,sC,rfl⟩:=P2.1 ax;have aa:=(h.2 i r y sC ah).1;have ab:=hw.tj y (cV ah);obtain⟨a',bd,bz⟩:=Wa (l:=r) (by omega) (by omega);exact⟨by omega,bd,bz⟩
 refine⟨⟨by rw[ig];exact h.1,fun i b7 y ax ah=>⟨(key i b7 y ax ah).1,(key i b7 y ax ah).2.2⟩⟩,fun r ax=>?_⟩;obtain⟨i,ak⟩:=uL ax;have ay:=(dv.1 ak).1;rw[ig,h.1] at ay;exact(key i r _ ak (du ay)).2.1
theorem ahT{bs:List Bool}{pl:List (List Int)}{r6 ak:Int}(hw:hV g)(aC:AB g S)(ai:bs.length=g.is.length)(h:kI g pl 0 ak):kI g (n6 r6 g.is bs S pl) 0 (ak+65536):=by
 refine⟨FJ.trans h.1,fun i r y ax ah=>?_⟩;have HV:=(dv.1 ah).1;obtain⟨q,cn,EP,H8⟩:=h.get ah;obtain⟨s,al,hR,EX⟩:=aC.1.get ah;have ou:=du (l:=bs) (i:=i) (by omega);rw[N4 ah ou al cn] at ax;injection ax with ax
 subst ax;split
 ·refine⟨by rw[PK];omega,fun v ap=>?_⟩;obtain⟨k,aH⟩:=uL ap;rw[J8] at aH;split at aH
  ·rename_i a b aW kw;injection aH with aH
   have:=H8 k a aW;have:=EX k b kw;omega
  ·cases aH
 ·refine⟨EP,fun v ap=>?_⟩;obtain⟨k,aH⟩:=uL ap;have:=H8 k v aH;omega
theorem ag9(hw:hV g)(aC:AB g S)(aw:uJ g){p:Int}(k9:0<=p)(k':p<g.pl){σ:Az}{m:Nat}(h:ht g σ.sum σ.pl m)(aa:1<=σ.fL)(ab:σ.fL<2147483647):ht g (FI g S p σ).sum (FI g S p σ).pl (m+76)/\1<=(FI g S p σ).fL/\(FI g S p σ).fL<2147483647:=by
 obtain⟨es,aN,_⟩:=aw.walk;obtain⟨_,bd,bz⟩:=JH (fA:=kC (fT (gb g S) (fi g p) σ.fL).1) hw aC k9 k' _ _ _ _ _ _ aN ⟨List.replicate g.is.length false,σ.sum⟩ m h;have dr:=hw.dr;refine⟨⟨(bd.wide (n':=m+76) (by omega)).1,?_⟩,Rr _ _ aa ab⟩;have aK:=ahT (r6:=tn g p) hw aC (by rw[bz,kJ]) h.2;exact aK.wide (Ap _) (by omega)
theorem NX(hw:hV g)(aC:AB g S)(aw:uJ g){σ:Az}{m:Nat}(h:ht g σ.sum σ.pl m)(aa:1<=σ.fL)(ab:σ.fL<2147483647):∀k:Nat,(k:Int)<=g.pl->ht g (eh g S k σ).sum (eh g S k σ).pl (m+76*k)/\1<=(eh g S k σ).fL/\(eh g S k σ).fL<2147483647
 |0,_=>⟨h.wide (by omega),aa,ab⟩
 |k+1,aH=>by
  obtain⟨a,b,c⟩:=NX hw aC aw h aa ab k (by omega);obtain⟨bA,b',b1⟩:=ag9 (p:=(k:Int)) hw aC aw (by omega) (by omega) a b c;exact⟨bA.wide (by omega),b',b1⟩
theorem aiE(hw:hV g)(aw:uJ g){t:kM}{m:Nat}(h:ht g t.sum t.pl m)(aa:1<=t.s)(ab:t.s<2147483647):ht g (xV g t).sum (xV g t).pl (m+228)/\1<=(xV g t).s/\(xV g t).s<2147483647:=by
 have hp:=hw.hp;have dS:=hw.dS;obtain⟨a,b,c⟩:=NX (S:=t.sum.map jW) (σ:=⟨t.s,t.sum,t.pl⟩) hw (Wb hw h.1) aw h aa ab g.pl.toNat (by omega);exact⟨a.wide (by omega),b,c⟩
theorem Jm(hw:hV g)(aw:uJ g){t:kM}{m:Nat}(h:ht g t.sum t.pl m)(aa:1<=t.s)(ab:t.s<2147483647):∀n:Nat,ht g (kF g n t).sum (kF g n t).pl (m+228*n)/\1<=(kF g n t).s/\(kF g n t).s<2147483647
 |0=>⟨h.wide (by omega),aa,ab⟩
 |n+1=>by
  obtain⟨a,b,c⟩:=Jm hw aw h aa ab n;obtain⟨bA,b',b1⟩:=aiE hw aw a b c;exact⟨bA.wide (by omega),b',b1⟩
end
end
end Go.Opn
set_option linter.unusedSimpArgs false
namespace Go.Opn
noncomputable section
open Go.Cre Go.RowKit
section
variable {K:eN}{B:dO}{ops:List Oper}{a8:List iW}{E:b9}{m m':aI}{J:aA}{o:Oper}{bD:b9->aI->aA->Prop}{cx:Exit->b9->aI->aA->Prop}
variable {n:Nat}{ds:eQ}{l:List (Nat×Value)}{d i:Nat}
end
section
variable {K:eN}{B:dO}{o:Oper}{n:Nat}{ds:eQ}{l:List (Nat×Value)}{m m':aI}{J:aA}{eF:b9->aI->aA->Prop}{d:Nat}
theorem wrap_i32{a:Int}(bt:-2147483648<=a)(aa:a<=2147483647):IntKind.i32.wrap a=a:=by
 unfold IntKind.wrap;simp[IntKind.bits,IntKind.signed];omega
end
section
variable {K:eN}{B:dO}{ops:List Oper}{a8:List iW}{F:List (FuncId×List Value)}{E:b9}{m:aI}{J:aA}{bD:b9->aI->aA->Prop}
end
open Classical
section
variable {P:Program}{Q:db P}{B:Nat->Prop}{w0:World}
end
section
variable {K:eN}{B:dO}{f:FuncId}{fn:Func}{c:Code}{args:List Value}{a4:aI}{J:aA}
end
section
variable {K:eN}{B:dO}{ops rest:List Oper}{o:Oper}{n:Nat}{ds:eQ}{l:List (Nat×Value)}{d:Nat}{m:aI}{J:aA}{bD:Option (List PanicEntry)->b9->aI->aA->Prop}
end
end
end Go.Opn
