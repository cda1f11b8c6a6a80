/- A part of the proof of TableClose. -/
import Derived.Test.YtpahonhejmlnpaaGreatDoorCbb
import Derived.Test.YtpahonhejmlnpaaGreatDoorCbh
import Derived.Test.YtpahonhejmlnpaaGreatDoorCbj
import Derived.Test.YtpahonhejmlnpaaGreatDoorCbc
set_option linter.unusedVariables false
namespace Go.Opn
noncomputable section
def oE(l:List Int)(j:Nat):List Int:=(l.set (j+1) (l.getD j 0)).set j (l.getD (j+1) 0)
def mz(f:Int->Int->Int):Nat->List Int->List Int
 |0,l=>l
 |j+1,l=>if f (l.getD (j+1) 0) (l.getD j 0)<0 then mz f j (oE l j) else l
def qe(f:Int->Int->Int):Nat->List Int->List Int
 |0,l=>l
 |k+1,l=>mz f (k+1) (qe f k l)
def lJ(n:Nat):List Int:=(List.range n).map fun(i:Nat)=>Int.ofNat i
theorem J2:∀{l:List Int} {j:Nat},j+1<l.length->(oE l j).Perm l
 |a::b::l,0,_=>.swap a b l
 |a::l,j+1,h=>.cons a (J2 (l:=l) (j:=j) (by simp at h;omega))
theorem J1{l:List Int}{j:Nat}:(oE l j).length=l.length:=by unfold oE;rw[nP,nP]
theorem EM{l:List Int}{j i:Nat}(h:j+1<l.length):(oE l j).getD i 0=if i=j then l.getD (j+1) 0 else if i=j+1 then l.getD j 0 else l.getD i 0:=by
 unfold oE;rw[js,Cl,Cl,nP];by_cases aa:i=j
 ·subst aa;rw[bg rfl,bg rfl,bg (by omega)];rfl
 ·rw[a3 (fun q=>aa q.symm),a3 aa];by_cases ab:i=j+1
  ·subst ab;rw[bg rfl,bg rfl,bg h];rfl
  ·rw[a3 (fun q=>ab q.symm),a3 ab,<-js]
theorem Tx{f:Int->Int->Int}:∀{j:Nat} {l:List Int},j<l.length->(mz f j l).Perm l:=by
 intro j;induction j with
 |zero=>intro l _;exact .refl _
 |succ j aP=>
  intro l aA;unfold mz;split
  ·exact(aP (by rw[J1];omega)).trans (J2 aA)
  ·exact .refl _
theorem OR{f:Int->Int->Int}:∀{k:Nat} {l:List Int},k<l.length->(qe f k l).Perm l:=by
 intro k;induction k with
 |zero=>intro l _;exact .refl _
 |succ k aP=>
  intro l aA;have aa:=aP (l:=l) (by omega);exact(Tx (by rw[aa.length_eq];omega)).trans aa
def S2(r:Int->Nat)(l:List Int)(k j:Nat):Prop:=(∀a b,a<b->b<=k->a≠j->b≠j->r (l.getD b 0)<=r (l.getD a 0))/\∀b,j<b->b<=k->r (l.getD b 0)<=r (l.getD j 0)
def FC(r:Int->Nat)(l:List Int)(k:Nat):Prop:=∀a b,a<b->b<=k->r (l.getD b 0)<=r (l.getD a 0)
theorem Ty{r:Int->Nat}{f:Int->Int->Int}(az:∀a b,f a b<0↔r b<r a){k:Nat}:∀{j:Nat} {l:List Int},j<=k->k<l.length->S2 r l k j->FC r (mz f j l) k:=by
 intro j;induction j with
 |zero=>
  intro l _ _ h a b mI ah;by_cases aX:a=0
  ·subst aX;exact h.2 b mI ah
  ·exact h.1 a b mI ah aX (by omega)
 |succ j aP=>
  intro l a5 hk h;unfold mz;split
  ·rename_i cD;have cD:=(az _ _).1 cD;have Dp:j+1<l.length:=by omega
   refine aP (by omega) (by rw[J1];exact hk) ⟨fun a b mI ah aK Dh=>?_,fun b ah Xo=>?_⟩
   ·rw[EM Dp,EM Dp,a3 aK,a3 Dh];by_cases aa:a=j+1
    ·rw[bg aa,a3 (show ¬b=j+1 by omega)];exact h.1 j b (by omega) ah (by omega) (by omega)
    ·rw[a3 aa];by_cases ab:b=j+1
     ·rw[bg ab];exact h.1 a j (by omega) (by omega) (by omega) (by omega)
     ·rw[a3 ab];exact h.1 a b mI ah aa ab
   ·rw[EM Dp,EM Dp,a3 (show ¬b=j by omega),bg rfl];by_cases ab:b=j+1
    ·rw[bg ab];omega
    ·rw[a3 ab];exact h.2 b (by omega) Xo
  ·rename_i cD;have cD:¬r (l.getD j 0)<r (l.getD (j+1) 0):=fun q=>cD ((az _ _).2 q);intro a b mI ah;by_cases aa:a=j+1
   ·subst aa;exact h.2 b mI ah
   ·by_cases ab:b=j+1
    ·subst ab;by_cases aY:a=j
     ·subst aY;omega
     ·have:=h.1 a j (by omega) (by omega) aa (by omega);omega
    ·exact h.1 a b mI ah aa ab
theorem Zr{r:Int->Nat}{f:Int->Int->Int}(az:∀a b,f a b<0↔r b<r a):∀{k:Nat} {l:List Int},k<l.length->FC r (qe f k l) k:=by
 intro k;induction k with
 |zero=>intro l _ a b aa ab;omega
 |succ k aP=>
  intro l aA;have aa:=aP (l:=l) (by omega);have db:=(OR (f:=f) (k:=k) (l:=l) (by omega)).length_eq;refine Ty az (c5 _) (by omega) ⟨fun a b mI ah aK Dh=>aa a b mI (by omega),fun b ab aY=>by omega⟩
theorem v7{n:Nat}:(lJ n).length=n:=by unfold lJ;rw[gx,List.length_range]
theorem OU{n i:Nat}(h:i<n):(lJ n)[i]?=some (i:Int):=by unfold lJ;rw[jt,K8 h];rfl
theorem OV{n:Nat}:∀x∈lJ n,0<=x/\x<n:=fun x U=>by
 obtain⟨i,ar,rfl⟩:=qU.1 U;have:=La.1 ar;show 0<=(i:Int)/\(i:Int)<n;omega
theorem Zv{n:Nat}:(lJ n).Nodup:=by
 unfold lJ;refine List.Pairwise.map _ (fun a b h q=>h (by injection q)) List.nodup_range
def bV(M s p:Nat):Nat:=p*M % s
def hl(ps:List Nat)(s M:Nat):List Nat:=ps.map fun p=>p*M / s
def vk(ps:List Nat)(s M:Nat)(a b:Int):Int:=g' (bV M s (ps.getD b.toNat 0)) (bV M s (ps.getD a.toNat 0))
def hz(ps:List Nat)(s M:Nat):List Int:=qe (vk ps s M) (ps.length -1) (lJ ps.length)
def jD(o:List Nat)(i:Int):List Nat:=o.set i.toNat (o.getD i.toNat 0+1)
def lK(ps:List Nat)(s M:Nat):Nat:=M -(hl ps s M).sum
def yK(ps:List Nat)(s M:Nat):List Nat:=((hz ps s M).take (lK ps s M)).foldl jD (hl ps s M)
theorem Un{x y:Nat}:g' x y<0↔x<y:=by unfold g';split<;>(try split)<;>omega
theorem P6{s M:Nat}:∀ps:List Nat,(hl ps s M).sum*s+(ps.map (bV M s)).sum=ps.sum*M
 |[]=>by simp[hl]
 |p::ps=>by
  have aP:=P6 (s:=s) (M:=M) ps;show(p*M / s+(hl ps s M).sum)*s+(bV M s p+(ps.map (bV M s)).sum)=(p::ps).sum*M;rw[mr,iC,iC,<-aP];have:p*M / s*s+bV M s p=p*M:=by rw[j4];exact Fs _ _
  omega
theorem aad{α:Type}{r:Nat->α}(ps:List Nat):(lJ ps.length).map (fun i=>r (ps.getD i.toNat 0))=ps.map r:=by
 refine List.ext_getElem? fun i=>?_;by_cases h:i<ps.length
 ·rw[jt,OU h,jt,eO h];show some (r (ps.getD ((i:Int)).toNat 0))=_;rw[jq,js,eO h];rfl
 ·rw[qT (by rw[gx,v7];omega),qT (by rw[gx];omega)]
theorem JZ{s:Nat}:∀{l:List Nat},(∀x∈l,x<s)->l≠[]->l.sum<l.length*s
 |[],_,h=>absurd rfl h
 |[a],h,_=>by have:=h a (.head _);simp;exact this
 |a::b::l,h,_=>by
  have aa:=h a (.head _);have ab:=JZ (s:=s) (l:=b::l) (fun x q=>h x (.tail _ q)) (by simp);rw[mr,lx,iC];omega
theorem Rf:∀{l:List Nat},(∀x∈l,x=0)->l.sum=0
 |[],_=>rfl
 |a::l,h=>by rw[mr,h a (.head _),Rf (fun x q=>h x (.tail _ q))]
structure SZ (ps:List Nat) (s M:Nat):Prop where
 out:(hl ps s M).sum<=M
 IS:lK ps s M<=ps.length
 PW:(hz ps s M).length=ps.length
 En:∀x∈hz ps s M,0<=x/\x<ps.length
 Jk:(hz ps s M).Nodup
 pos:∀x∈(hz ps s M).take (lK ps s M),0<bV M s (ps.getD x.toNat 0)
theorem QB{ps:List Nat}{s M:Nat}(aw:1<=ps.length)(af:0<s)(ao:ps.sum=s):SZ ps s M:=by
 have ud:=P6 (s:=s) (M:=M) ps;rw[ao] at ud;have Ot:∀p,bV M s p<s:=fun p=>oN _ af;have Yt:(hl ps s M).sum<=M:=by
  refine Nat.le_of_mul_le_mul_right (c:=s) ?_ af;rw[j4 M s];omega
 have Ax:lK ps s M*s=(ps.map (bV M s)).sum:=by
  unfold lK;rw[Nat.sub_mul,j4 M s];omega
 have DJ:(ps.map (bV M s)).sum<ps.length*s:=by
  have:=JZ (s:=s) (l:=ps.map (bV M s)) (fun x U=>by obtain⟨p,_,rfl⟩:=qU.1 U;exact Ot p) (by intro q;rw[List.map_eq_nil_iff] at q;rw[q] at aw;simp at aw);rwa [gx] at this
 have N7:lK ps s M<ps.length:=Ll (a:=s) (by omega);have DC:(hz ps s M).Perm (lJ ps.length):=OR (by rw[v7];omega);have h4:(hz ps s M).length=ps.length:=DC.length_eq.trans v7;have Yq:∀x∈hz ps s M,0<=x/\x<ps.length:=fun x U=>OV x (DC.mem_iff.1 U);have Yr:(hz ps s M).Nodup:=DC.nodup_iff.2 Zv;have Ij:FC (fun i=>bV M s (ps.getD i.toNat 0)) (hz ps s M) (ps.length -1):=Zr (f:=vk ps s M) (r:=fun i=>bV M s (ps.getD i.toNat 0)) (fun a b=>Un) (k:=ps.length -1) (by rw[v7];omega);refine⟨Yt,by omega,h4,Yq,Yr,fun x U=>Lq fun aX=>?_⟩;obtain⟨k,hk⟩:=K7 U;have X4:k<lK ps s M:=by
  have:=(hq.1 hk).1;rw[gp] at this;omega
 rw[Fj X4] at hk;have X3:(hz ps s M).getD k 0=x:=by rw[js,hk];rfl
 --all ahX from place k on LU 0
 have kf:((hz ps s M).map fun i=>bV M s (ps.getD i.toNat 0)).sum=(ps.map (bV M s)).sum:=by
  rw[<-aad (r:=bV M s) ps];exact(DC.map _).sum_nat
 have kB:(((hz ps s M).take k).map fun i=>bV M s (ps.getD i.toNat 0)).sum+(((hz ps s M).drop k).map fun i=>bV M s (ps.getD i.toNat 0)).sum=(ps.map (bV M s)).sum:=by
  rw[<-kf,<-List.sum_append_nat,<-K',SG]
 have a0:(((hz ps s M).drop k).map fun i=>bV M s (ps.getD i.toNat 0)).sum=0:=by
  refine Rf fun v ay=>?_;obtain⟨i,ar,rfl⟩:=qU.1 ay;obtain⟨d,au⟩:=K7 ar;rw[uY] at au;have sH:=(hq.1 au).1;have o5:(hz ps s M).getD (k+d) 0=i:=by rw[js,au];rfl
  by_cases gm:d=0
  ·subst gm;rw[nT] at au o5;rw[au] at hk;injection hk with hk;subst hk;exact aX
  ·have:=Ij k (k+d) (by omega) (by omega);simp only at this;rw[X3,o5,aX] at this;omega
 rw[a0,nT] at kB;by_cases tY:k=0
 ·subst tY;rw[nS] at kB;have kB:0=(ps.map (bV M s)).sum:=kB;rw[<-kB] at Ax;rcases Nat.mul_eq_zero.1 Ax with h|h<;>omega
 ·have:=JZ (s:=s) (l:=((hz ps s M).take k).map fun i=>bV M s (ps.getD i.toNat 0)) (fun x U=>by obtain⟨p,_,rfl⟩:=qU.1 U;exact Ot _) (by
   intro q;have:=aj List.length q;rw[gx,gp,g9 (by omega),zf] at this;exact tY this)
  rw[gx,gp,g9 (by omega),kB,<-Ax] at this;have:=Ll this;omega
theorem Ix{o:List Nat}{i:Int}:(jD o i).length=o.length:=nP
theorem adP{l:List Nat}{i x y:Nat}(h:l[i]?=some x):(l.set i y).sum+x=l.sum+y:=by
 induction l generalizing i with
 |nil=>cases h
 |cons a l aP=>
  cases i with
  |zero=>injection h with h;subst h;rw[List.set_cons_zero,mr,mr];omega
  |succ i=>have:=aP (i:=i) h;rw[List.set_cons_succ,mr,mr];omega
theorem DX:∀(is:List Int) (o:List Nat),(∀x∈is,0<=x/\x<o.length)->is.Nodup->(is.foldl jD o).length=o.length/\(is.foldl jD o).sum=o.sum+is.length/\∀i:Nat,i<o.length->(is.foldl jD o).getD i 0=if(i:Int)∈is then o.getD i 0+1 else o.getD i 0
 |[],o,_,_=>⟨rfl,rfl,fun i _=>by rw[a3 (by intro q;cases q)];rfl⟩
 |k::is,o,hm,aw=>by
  have hk:=hm k (.head _);have U:=eO (l:=o) (i:=k.toNat) (by omega);obtain⟨aa,ab,aY⟩:=DX is (jD o k) (fun x q=>by rw[Ix];exact hm x (.tail _ q)) aw.of_cons;have Ym:k∉is:=(pI.1 aw).1;have af:=adP (y:=o.getD k.toNat 0+1) U;have aq:o.getD k.toNat 0=o[k.toNat]:=by rw[js,U];rfl
  refine⟨aa.trans Ix,?_,fun i ar=>?_⟩
  ·rw[K2,ab,lx];show(o.set k.toNat (o.getD k.toNat 0+1)).sum+is.length=_;omega
  ·rw[K2,aY i (by rw[Ix];exact ar)];have XW:(jD o k).getD i 0=if(i:Int)=k then o.getD i 0+1 else o.getD i 0:=by
    unfold jD;rw[js,Cl];by_cases tX:(i:Int)=k
    ·rw[bg (show k.toNat=i by omega),bg tX,bg (by omega),show k.toNat=i by omega];rfl
    ·rw[a3 (show ¬k.toNat=i by omega),a3 tX,js]
   rw[XW];by_cases tX:(i:Int)=k
   ·rw[bg tX,a3 (by rw[tX];exact Ym),bg (by rw[tX];exact .head _)]
   ·rw[a3 tX];by_cases oi:(i:Int)∈is
    ·rw[bg oi,bg (.tail _ oi)]
    ·rw[a3 oi,a3 (by intro q;rcases gj.1 q with q|q;exact tX q;exact oi q)]
theorem abN{ps:List Nat}{s M i:Nat}(ar:i<ps.length):(hl ps s M).getD i 0=ps.getD i 0*M / s:=by
 unfold hl;rw[js,jt,js,eO ar];rfl
structure FA (ps:List Nat) (s M:Nat) (vs:List Nat):Prop where
 len:vs.length=ps.length
 sum:vs.sum=M
 at_:∀i,i<ps.length->vs.getD i 0=ps.getD i 0*M / s\/(vs.getD i 0=ps.getD i 0*M / s+1/\0<bV M s (ps.getD i 0))
theorem JG{ps:List Nat}{s M:Nat}(aw:1<=ps.length)(af:0<s)(ao:ps.sum=s):FA ps s M (yK ps s M):=by
 have F:=QB (M:=M) aw af ao;have h4:(hl ps s M).length=ps.length:=gx _;obtain⟨aa,ab,aY⟩:=DX ((hz ps s M).take (lK ps s M)) (hl ps s M) (fun x U=>by rw[h4];exact F.En x (Fm U)) (F.Jk.sublist (Ld _ _));refine⟨aa.trans h4,?_,fun i ar=>?_⟩
 ·show(((hz ps s M).take (lK ps s M)).foldl jD (hl ps s M)).sum=M;have:=F.out;have:=F.IS;rw[ab,gp,F.PW,g9 F.IS];unfold lK;omega
 ·have bu:=aY i (by omega);show(((hz ps s M).take (lK ps s M)).foldl jD (hl ps s M)).getD i 0=_\/_;rw[abN ar] at bu;by_cases hm:(i:Int)∈(hz ps s M).take (lK ps s M)
  ·rw[bg hm] at bu;exact .inr ⟨bu,by have:=F.pos _ hm;rwa [jq] at this⟩
  ·rw[a3 hm] at bu;exact .inl bu
theorem acO{cI:List Nat}{M:Nat}(aw:1<=cI.length)(iG:0<M)(cc:cI.sum=M):yK cI M M=cI:=by
 have a0:∀q,bV M M q=0:=fun q=>Nat.mul_mod_left _ _;have h:=JG (M:=M) aw iG cc;refine List.ext_getElem h.len fun i aa ab=>?_;have aY:=h.at_ i ab;rw[a0,qX _ iG] at aY;rcases aY with aY|⟨_,aY⟩
 ·rw[js,js,eO aa,eO ab] at aY;exact aY
 ·omega
theorem QC{ps:List Nat}{s M:Nat}{vs:List Nat}(af:0<s)(h:FA ps s M vs){i p v:Nat}(aa:ps[i]?=some p)(ab:vs[i]?=some v):((p*M:Nat):Int) -(v*s:Nat)<s/\-(s:Int)<((p*M:Nat):Int) -(v*s:Nat)/\(s ∣ p*M->p*M=v*s)/\v<=M:=by
 have ar:=(hq.1 aa).1;have aK:=h.at_ i ar;rw[js,js,aa,ab] at aK
 replace aK:v=p*M / s\/(v=p*M / s+1/\0<bV M s p):=aK
 have au:=Fs (p*M) s;have aA:=oN (p*M) af;have vZ:v<=M:=by
  have:v∈vs:=k8 ab;have gI:∀{l:List Nat} {x:Nat},x∈l->x<=l.sum:=fun{l x}=>by
   intro U;induction l with
   |nil=>cases U
   |cons a l aP=>
    rw[mr];rcases gj.1 U with rfl|U
    ·omega
    ·have:=aP U;omega
  have:=gI this;rw[h.sum] at this;exact this
 clear ab
 rcases aK with rfl|⟨rfl,aK⟩
 ·rw[j4 (p*M / s) s];refine⟨by omega,by omega,fun Hw=>?_,vZ⟩;have:=SQ Hw;omega
 ·have aK:0<p*M % s:=aK;rw[iC,j4 (p*M / s) s,w8];refine⟨by omega,by omega,fun Hw=>?_,vZ⟩;have:=SQ Hw;omega
end
end Go.Opn
set_option maxRecDepth 100000
set_option maxHeartbeats 8000000
set_option linter.unusedSimpArgs false
namespace Go.Opn
noncomputable section
open Go.Cre Go.RowKit Go.Proofs
theorem e5.aff{J ae:an}{r s:cH}{v1 v2 bh cb:Value}{x y:Bool}(h:e5 J r v1 v2)(gB:e5 ae s bh cb)(hle:J.le ae)(e:[Value.agg #[.bool x,v1,v2]]=[Value.agg #[.bool y,bh,cb]]):r.z.natAbs=s.z.natAbs:=by
 injection e with e
 injection e with e
 have e:[Value.bool x,v1,v2]=[.bool y,bh,cb]:=aj Array.toList e;injection e with _ e
 injection e with e _
 exact h.n.mh gB.n hle e
def lp(z:Int):Int:=if z=0 then 0 else 1
theorem kr.kn{x n:Nat}(h:kr x n)(U:x=0):n=0:=by rcases h with⟨_,h⟩|⟨h,_⟩;exact h;exact absurd U h
section
variable {Q:ek Tryz.prog}{g0:Nat}{J:an}
theorem Q1{r:cH}{v1 v2:Value}(h:e5 J r v1 v2)(a0:0<=r.z):Fn (aO Q g0) 88 [cO r v1 v2] [] J (fun u m' ae=>u=.int .i64 (lp r.z)/\m'=[]/\J.le ae):=by
 obtain⟨br,bI,bn,rfl,aR,eb,gK⟩:=h.n.bD;obtain⟨bN,cY,bQ,rfl,aN,e',gT⟩:=h.d.bD;refine Fn.ck (ch Tryz.func88) rfl rfl fun H=>?_;refine rg ?_;refine fc fun bx=>?_;refine I V.aI ?_;refine bb ?_;refine I V.cF ?_;refine I V.cP ?_;refine I V.gL ?_;refine I V.a' ?_;refine aD ?_;refine If (fun dU=>?_) fun dU=>?_
 ·have fe:r.z=0:=mo.1 (eb.z (by omega));refine rg ?_;refine I V.aI ?_;refine aD ?_;refine ad.ret ?_;refine'⟨.inr rfl,rfl,_,[],.tmp rfl .nil,bZ _,?_⟩;first
   |(have c:=fe;exact⟨by unfold lp;rw[bg fe];rfl,rfl,an.le.refl _⟩)
   |exact⟨by unfold lp;rw[a3 OO];rfl,rfl,an.le.refl _⟩
 ·have OO:r.z≠0:=fun q=>by have:=eb.kn (mo.2 q);omega
  refine l8 ?_;refine I V.cF ?_;refine I V.cP ?_;refine aD ?_;refine If (fun gR=>?_) fun gR=>?_
  ·exfalso;omega
  ·refine aG ?_;refine ad.skip ?_;refine rg ?_;refine I V.aI ?_;refine aD ?_;refine ad.ret ?_;refine'⟨.inr rfl,rfl,_,[],.tmp rfl .nil,bZ _,?_⟩;first
    |(have c:=fe;exact⟨by unfold lp;rw[bg fe];rfl,rfl,an.le.refl _⟩)
    |exact⟨by unfold lp;rw[a3 OO];rfl,rfl,an.le.refl _⟩
theorem Mn{r s:cH}{v1 v2 bh cb:Value}(al:e5 J r v1 v2)(af:e5 J s bh cb)(qD:0<=r.z)(sz:0<=s.z)(rd:0<r.d)(gM:0<s.d)(aX:r.z=0\/s.z=0):Fn (aO Q g0) 54 [cO r v1 v2,cO s bh cb] [] J (fun u m' ae=>u=.int .i64 (g' (r.z.natAbs*s.d) (s.z.natAbs*r.d))/\m'=[]/\J.le ae):=by
 have dL:=al;have gf:=af;obtain⟨br,bI,bn,rfl,aR,eb,gK⟩:=al.n.bD;obtain⟨bN,cY,bQ,rfl,aN,e',gT⟩:=al.d.bD;obtain⟨cW,ee,cZ,rfl,bG,ua,sR⟩:=af.n.bD;obtain⟨dj,fa,dH,rfl,dd,Az,sS⟩:=af.d.bD;have qb:c4 8 (cO r (.slice br bI bn) (.slice bN cY bQ)) (cO r (.slice br bI bn) (.slice bN cY bQ))=true:=by simp[c4,gP,aR,aN,j6]
 have ug:c4 8 (cO s (.slice cW ee cZ) (.slice dj fa dH)) (cO s (.slice cW ee cZ) (.slice dj fa dH))=true:=by simp[c4,gP,bG,dd,j6]
 have mN:min (max (lp r.z -lp s.z) (-1)) 1=g' (r.z.natAbs*s.d) (s.z.natAbs*r.d):=by
  unfold lp g';by_cases aa:r.z=0
  ·rw[bg aa,aa,KO,nV]
   by_cases ab:s.z=0
   ·rw[bg ab,ab,KO,nV];rfl
   ·have:=hV (Int.natAbs_pos.2 ab) rd
    rw[a3 ab,bg this];rfl
  ·have ab:s.z=0:=by rcases aX with h|h;exact absurd h aa;exact h
   have:=hV (Int.natAbs_pos.2 aa) gM;rw[a3 aa,bg ab,ab,KO,nV,a3 (by omega),bg this];rfl
 have hw:IntKind.i64.wrap (lp r.z -lp s.z)=lp r.z -lp s.z:=by
  unfold lp;split<;>split<;>rfl
 have gD:lp r.z=lp s.z->¬lp r.z=0->False:=fun aa ab=>by
  rcases aX with h|h
  ·exact ab (by unfold lp;rw[bg h])
  ·exact ab (aa.trans (by unfold lp;rw[bg h]))
 refine Fn.ck (ch Tryz.func54) rfl rfl fun H=>?_;refine rg ?_;refine fc fun bX=>?_;refine fc fun cy=>?_;refine I V.aI ?_;refine aD ?_;refine ad.draw rfl (by kernel_rfl) (a2:=[.val 0,.val 2,.bA 1,.b2 [2],.bA 3,.val 4,.val 5]) (by kernel_rfl) ?_;refine a6 rfl V.gU ?_;refine a6 rfl V.gU ?_;refine bi.iU ?_;refine' aS.dO rfl rfl rfl rfl rfl rfl rfl rfl rfl c8 (Q1 dL qD) ?_;rintro v' m' Ss o6 ⟨rfl,rfl,_⟩;refine aS.b2 ez ?_;refine' aS.dO rfl rfl rfl rfl rfl rfl rfl rfl rfl (cj (fun _ aK=>⟨rfl,o6,fun v m' bq dR ⟨a,b,c⟩ aa ab=>⟨by rw[a,show r.z=s.z by have:=dL.aff gf (an.le.refl _) aK;omega],b,ab⟩⟩) c8) (Q1 (gf.mono o6) sz) ?_;rintro v' m' St rB ⟨rfl,rfl,_⟩;refine aS.jj (fun x U=>ju (f:=fun x=>(x.f,x.cl)) U) ?_;refine e3 ?_;refine bi.nil ?_;refine rg ?_;refine aH ?_;refine I V.a' ?_;refine I V.aJ ?_;refine gz 15 (fun xB=>?_) fun xB=>?_
 ·skip
  refine c7 ?_;refine c7 ?_;refine I V.bo ?_;refine aD ?_;refine ad.Us rfl ?_;refine rg ?_;refine aH ?_;refine I V.bW ?_;refine' W.step rfl (Exec.val rfl rfl (yU rfl rfl rfl rfl rfl) ?_);refine' W.step rfl (Exec.val rfl rfl (Ka rfl rfl rfl rfl rfl) ?_);refine I V.aI ?_;refine aD ?_;refine ad.ret ?_;refine'⟨.inr rfl,rfl,_,[],.tmp rfl .nil,bZ _,⟨by first|(rw[hw,mN];rfl)|(rw[mN];rfl),rfl,o6.trans rB⟩⟩
 ·refine bM V.aJ ?_;refine bM V.a' ?_;refine I V.bo ?_;refine aD ?_;refine If (fun hY=>?_) fun hY=>?_
  ·refine rg ?_;refine aH ?_;refine I V.bW ?_;refine' W.step rfl (Exec.val rfl rfl (yU rfl rfl rfl rfl rfl) ?_);refine' W.step rfl (Exec.val rfl rfl (Ka rfl rfl rfl rfl rfl) ?_);refine I V.aI ?_;refine aD ?_;refine ad.ret ?_;refine'⟨.inr rfl,rfl,_,[],.tmp rfl .nil,bZ _,⟨by first|(rw[hw,mN];rfl)|(rw[mN];rfl),rfl,o6.trans rB⟩⟩
  ·exfalso;first|exact hY rfl|exact gD (Classical.not_not.1 xB) hY|exact gD xB hY
theorem Uo{r s:cH}{v1 v2 bh cb:Value}(al:e5 J r v1 v2)(af:e5 J s bh cb)(eV:r.fP)(cs:s.fP)(qD:0<=r.z)(sz:0<=s.z)(cX:r.z.natAbs<=1000000000)(cM:r.d<=1000000000)(s1:s.z.natAbs<=1000000000)(s2:s.d<=1000000000):Fn (aO Q g0) 54 [cO r v1 v2,cO s bh cb] [] J (fun u m' ae=>u=.int .i64 (g' (r.z.natAbs*s.d) (s.z.natAbs*r.d))/\m'=[]/\J.le ae):=by
 by_cases aa:r.z=0
 ·exact Mn al af qD sz eV.1 cs.1 (.inl aa)
 ·by_cases ab:s.z=0
  ·exact Mn al af qD sz eV.1 cs.1 (.inr ab)
  ·exact Mo al af eV cs (by omega) (by omega) cX cM s1 s2
theorem aaa{v w:Value}{neg:Bool}(aa:cA J v 0){d:Nat}(ab:cA J w d):Fn (aO Q g0) 84 [.bool neg,v,w] [] J (nX J ⟨0,1⟩):=by
 have g3:=aa;have hb:=ab;obtain⟨br,bI,bn,rfl,aR,eb,gK⟩:=aa.bD;obtain⟨bN,cY,bQ,rfl,aN,e',gT⟩:=ab.bD;have agW:=eb.kn rfl;refine Fn.ck (ch Tryz.func84) rfl rfl fun H=>?_;refine rg ?_;refine' W.step rfl (.of (eS rfl rfl rfl (k5 Q g0) rfl rfl rfl fun dY=>?_));refine bb ?_;refine aH ?_;refine I V.a' ?_;refine aD ?_;refine If (fun e7=>?_) fun e7=>?_
 ·refine rg ?_;refine I V.jx ?_;refine eG ?_;refine aD ?_;refine ad.ret ?_;refine'⟨.inr rfl,rfl,_,[],.cell rfl (by repeat first|exact .head _|refine .tail _ ?_|refine d' _ ?_) (fb (dw rfl) rfl) (.nil),bZ _,⟨an.le.refl _,rfl,.slice none 0 0,.slice none 0 0,rfl,cA.nil,cA.nil⟩⟩
 ·exfalso;omega
end
def py(r:cH):cH:=aV ((r.z.natAbs % r.d:Nat):Int) r.d
theorem acY{r:cH}(eV:r.fP)(h:r.z.natAbs % r.d=0):py r=⟨0,1⟩:=by unfold py;rw[h];exact mV eV.1
theorem acX{r:cH}(eV:r.fP):py r=⟨((r.z.natAbs % r.d:Nat):Int),r.d⟩\/r.z.natAbs % r.d=0:=by
 refine .inl (Bp (r:=⟨((r.z.natAbs % r.d:Nat):Int),r.d⟩) ⟨eV.1,?_⟩);show Nat.gcd (((r.z.natAbs % r.d:Nat):Int)).natAbs r.d=1;rw[g8,<-w7,oL];exact eV.2
section
variable {Q:ek Tryz.prog}{g0:Nat}{J:an}
theorem aab{r:cH}{v w:Value}(eV:r.fP)(aa:cA J v (r.z.natAbs % r.d))(ab:cA J w r.d):Fn (aO Q g0) 84 [.bool false,v,w] [] J (nX J (py r)):=by
 by_cases aX:r.z.natAbs % r.d=0
 ·rw[acY eV aX]
  rw[aX] at aa;exact aaa aa ab
 ·rcases acX eV with e|e
  ·rw[e]
   exact Bb (r:=⟨((r.z.natAbs % r.d:Nat):Int),r.d⟩) (by show cA J v (((r.z.natAbs % r.d:Nat):Int)).natAbs;rw[g8];exact aa) ab (fun _=>(e8 (by show ¬((r.z.natAbs % r.d:Nat):Int)<0;omega)).symm) (fun h=>absurd h (by show ¬((r.z.natAbs % r.d:Nat):Int)=0;omega)) (hD eV.1)
  ·exact absurd e aX
theorem ae2{r:cH}{v1 v2:Value}(al:e5 J r v1 v2)(eV:r.fP)(ah:r.z.natAbs<9223372036854775808):Fn (aO Q g0) 51 [cO r v1 v2] [] J (fun u m' ae=>J.le ae/\m'=[]/\∃bh cb,u=.tuple #[.int .i64 ((r.z.natAbs / r.d:Nat):Int),cO (py r) bh cb]/\e5 ae (py r) bh cb):=by
 have dL:=al;obtain⟨br,bI,bn,rfl,aR,eb,gK⟩:=al.n.bD;obtain⟨bN,cY,bQ,rfl,aN,e',gT⟩:=al.d.bD;have pj:=hD eV.1;have DF:r.z.natAbs / r.d<=r.z.natAbs:=sc _ _;have qb:c4 8 (cO r (.slice br bI bn) (.slice bN cY bQ)) (cO r (.slice br bI bn) (.slice bN cY bQ))=true:=by simp[c4,gP,aR,aN,j6]
 refine Fn.ck (ch Tryz.func51) rfl rfl fun H=>?_;refine rg ?_;refine fc fun bx=>?_;refine I V.aI ?_;refine' W.step rfl (.of (eS rfl rfl rfl (k5 Q g0) rfl rfl rfl fun cy=>?_));refine aD ?_;refine ad.draw rfl (by kernel_rfl) (a2:=[.val 0,.val 1,.val 2,.bA 3,.b2 [1,0],.bA 4,.val 5,.val 6,.val 7,.val 8,.val 9]) (by kernel_rfl) ?_;refine a6 rfl V.cF ?_;refine a6 rfl V.cP ?_;refine a6 rfl V.gU ?_;refine bi.iU ?_;refine' aS.dO rfl rfl rfl rfl rfl rfl rfl rfl rfl c8 (my dL pj) ?_;rintro v' m' bq a8 ⟨_,rfl,lH⟩;have oo:=lH;obtain⟨eU,gV,e2,rfl,fm,_,_⟩:=lH.bD;refine aS.b2 ez ?_;refine' aS.dO rfl rfl rfl rfl rfl rfl rfl rfl rfl (cj (cT rfl) c8) (Mx (dL.mono a8).n oo pj (by omega)) ?_;rintro v' m' dR bO ⟨_,rfl,mi,k3,rfl,qd,pf⟩;have nz:=qd;have lG:=pf;obtain⟨eP,ef,dU,rfl,ho,AA,H8⟩:=qd.bD;obtain⟨jM,lL,gA,rfl,mf,_,_⟩:=pf.bD;have H5:=(dL.mono a8).mono bO;refine aS.jj (fun x U=>ju (f:=fun x=>(x.f,x.cl)) U) ?_;refine e3 ?_;refine bi.nil ?_;refine rg ?_;refine I V.aJ ?_;refine I V.gU ?_;refine b4 (G:=my H5 pj) (h:=?_);rintro v' m' fV cL ⟨_,rfl,pg⟩;have oq:=pg;obtain⟨j5,nF,gR,rfl,m2,_,_⟩:=pg.bD;refine b4 (G:=aab eV (lG.mono cL) oq) (h:=?_);rintro v' m' lV eM ⟨_,rfl,ls,lu,rfl,bY⟩;have cK:=bY;obtain⟨hI,po,e7,rfl,lo,_,_⟩:=bY.n.bD;obtain⟨i',ma,dq,rfl,ln,_,_⟩:=bY.d.bD;refine' W.step rfl (.of (eS rfl rfl rfl (k5 Q g0) rfl rfl rfl fun dY=>?_));refine eG ?_;refine bb ?_;refine aH ?_;refine I V.a' ?_;refine aD ?_;refine If (fun nn=>?_) fun nn=>?_
 ·have fe:r.z.natAbs / r.d=0:=by rcases AA with⟨h,_⟩|⟨_,h⟩;exact h;omega
  have ug:c4 8 (cO (py r) (.slice hI po e7) (.slice i' ma dq)) (cO (py r) (.slice hI po e7) (.slice i' ma dq))=true:=by simp[c4,gP,lo,ln,j6]
  refine aG ?_;refine ad.draw rfl (by kernel_rfl) (a2:=[.val 0,.val 1,.bA 2]) (by kernel_rfl) ?_;refine a6 rfl V.gU ?_;refine a6 rfl V.aI ?_;refine k7 rfl ?_;refine bi.nil ?_;refine aG ?_;refine ad.ret ?_;refine'⟨.inr rfl,rfl,_,[],.tmp rfl (.cell rfl (by repeat first|exact .head _|refine .tail _ ?_|refine d' _ ?_) (fb (dw rfl) rfl) (.nil)),bZ _,?_⟩;first
   |(have c:=nn;exact⟨((a8.trans bO).trans cL).trans eM,rfl,_,_,by rw[fe];rfl,cK⟩)
   |exact⟨((a8.trans bO).trans cL).trans eM,rfl,_,_,by rw[wrap_i64 (Int.le_trans (by decide) (Cf _)) (by omega)];rfl,cK⟩
 ·have Yj:ef=1:=by rcases AA with⟨_,h⟩|⟨_,h⟩<;>omega
  obtain⟨dY,ahL,af3,h0,rfl,G8,YX⟩:=H8 Yj;have G8:=eM _ _ (cL _ _ G8);have ug:c4 8 (cO (py r) (.slice hI po e7) (.slice i' ma dq)) (cO (py r) (.slice hI po e7) (.slice i' ma dq))=true:=by simp[c4,gP,lo,ln,j6]
  refine e4 ?_;refine aG ?_;refine ad.draw rfl (by kernel_rfl) (a2:=[.val 0,.val 1,.val 2,.val 3,.val 4,.val 5,.bA 6]) (by kernel_rfl) ?_;refine a6 rfl V.aJ ?_;refine a6 rfl V.bj ?_;refine a6 rfl V.cP ?_;refine a6 rfl V.gk ?_;refine a6 rfl V.gU ?_;refine a6 rfl V.aI ?_;refine k7 rfl ?_;refine bi.nil ?_;refine aG ?_;refine ad.ret ?_;refine'⟨.inr rfl,rfl,_,[],.tmp rfl (.cell rfl (by repeat first|exact .head _|refine .tail _ ?_|refine d' _ ?_) (fb (dw rfl) rfl) (.nil)),bZ _,?_⟩;first
   |(have c:=nn;exact⟨((a8.trans bO).trans cL).trans eM,rfl,_,_,by rw[fe];rfl,cK⟩)
   |exact⟨((a8.trans bO).trans cL).trans eM,rfl,_,_,by rw[wrap_i64 (Int.le_trans (by decide) (Cf _)) (by omega)];rfl,cK⟩
end
section
variable {K:dG}{B:dt}{ops:List Oper}{a2:List hT}{F:List qL}{E:b3}{m m':aU}{J:an}{o:Oper}{bm:b3->aU->an->Prop}
variable {n:Nat}{ds:dQ}{l:List (Nat×Value)}{d i:Nat}
theorem aS.ew{v:Value}{vE:Nat}{want:Bool}(ar:nth ops i=some o)(aq:ka ops o=some (vE,want))(ah:look l vE=some (.bool want))(au:o.dst=some d)(aw:Nat.blt d n=true)(ay:cC K B o n ds l m J v)(h:aS K B ops a2 F ⟨n,ds,(d,v)::l⟩ m J bm):aS K B ops (.val i::a2) F ⟨n,ds,l⟩ m J bm:=by
 intro T S H b6 ak av;obtain⟨a1,s1,s2⟩:=ak.put (dst:=some d) aw v;obtain⟨bo,dm,aB,H',E',m',ae,aa,ab,aY,bu⟩:=h T a1 H b6 s2 av;refine⟨bo,dm,aB,H',E',m',ae,fun fE q=>?_,ab,aY,bu⟩;show iv ops i (kH K.P _ _ ops S H (dy K.P _ _ ops a2))=_;unfold iv;rw[ar];show kH K.P _ _ ops S H (dy K.P _ _ ops a2) o=_;unfold kH;rw[xC aq (ak.get vE _ ah),show(want==want)=true by cases want<;>rfl];show yX S H o.dst (dy K.P _ _ ops a2) (ct K.P _ _ S H o)=_;rw[ay _ _ S H ak av,au];show(bif Nat.beq H.ax H.ax then m7 (dy K.P _ _ ops a2) H (S.put (some d) v) else none)=_;rw[gH,b1,s1];exact aa fE q
theorem aS.n0{c:Call}{x:Operand}{f:FuncId}{first cap:Array Value}{vE:Nat}{want:Bool}{args aH:List Value}{du:Value->aU->an->Prop}
 (ar:nth ops i=some o)(aq:ka ops o=some (vE,want))(ah:look l vE=some (.bool want))(ag:o.op=.call c)(au:o.dst=some d)(aw:Nat.blt d n=true)(aL:c.callee=.value x)(U:bH l x=some (.func (.func f) first cap))(aK:hJ l c.args.toList=some args)(has:(first.toList++args)++cap.toList=aH)
 (af:∀x∈F,uU J f aH du x)(bY:Fn K f aH [] J du)(h:∀v m' ae,J.le ae->du v m' ae->aS K B ops a2 (⟨f,aH,[],J,du,false⟩::F) ⟨n,ds,(d,v)::l⟩ (m'++m) ae bm):aS K B ops (.bA i::a2) F ⟨n,ds,l⟩ m J bm:=by
 intro T S H b6 ak av;have ao:([]++m).Perm m:=.refl _;have hL:=av.enter (bU:=[]) ao trivial;obtain⟨v,H',ae,m',a9,a4,bJ,lk⟩:∃v H' ae m',jn K.Q f aH H (.returned v) H'/\Inv K.g0 (h7 [] H J) ae m' H'/\du v m' ae/\∀r,T f aH H=some r->r=(Ending.returned v,H'):=by
  cases vI:T f aH H with
  |none=>
   obtain⟨v,H',ae,m',a9,a4,bJ⟩:=bY H hL;exact⟨v,H',ae,m',a9,a4,bJ,fun r q=>by cases q⟩
  |some r=>
   obtain⟨x,U,⟨aC,aZ,WV,v,H',bq,m',mD,a9,a4,bJ⟩,lj⟩:=b6 _ _ _ _ vI;obtain⟨aR,aN,bG⟩:=af x U aC aZ;rw[aR] at a4;obtain⟨ID,IE⟩:=hL.OZ aN a4;exact⟨v,H',_,m',a9,ID,bG v m' bq _ bJ IE an.join_le,fun cg q=>by injection q with q;rw[<-q];exact mD⟩
 have jg:H.ax<=H'.ax:=a4.ax;obtain⟨cx,fL⟩:=av.leave ao a4;obtain⟨a1,s1,s2⟩:=ak.put (dst:=some d) aw v
 classical
 obtain⟨bo,dm,aB,qQ,E',mR,mq,aa,ab,aY,bu⟩:=h v m' ae fL bJ (fun cz u' H1=>if cz=f/\u'=aH/\H1=H then some (.returned v,H') else T cz u' H1) a1 H' (fun cz u' H1 r q=>by
  split at q
  ·rename_i e;obtain⟨rfl,rfl,rfl⟩:=e;injection q with q
   exact⟨_,.head _,⟨rfl,rfl,hL,v,H',ae,m',q.symm,a9,a4,bJ⟩,fun e=>by cases e⟩
  ·obtain⟨x,U,cg,t'⟩:=b6 _ _ _ _ q;exact⟨x,.tail _ U,cg,fun e=>jL (t' e) jg⟩) s2 cx
 refine⟨fun cz b5 H1=>if cz=f/\b5=aH/\H1=H then some (.returned v,H') else bo cz b5 H1,fun cz b5 H1 r cg aR aN=>?_,aB,qQ,E',mR,mq,fun fE q=>?_,ab,aY,bu⟩
 ·dsimp only at aN
  split at aN
  ·rename_i e;obtain⟨rfl,rfl,rfl⟩:=e;injection aN with aN
   rw[lk r aR,aN]
  ·rename_i e;exact dm cz b5 H1 r cg (by rw[a3 e];exact aR) aN
 ·have hf:fE f aH H=some (.returned v,H'):=q f aH H _ (by simp only[and_self,bg]);have AL:∀cz b5 H1 r,bo cz b5 H1=some r->fE cz b5 H1=some r:=fun cz b5 H1 r al=>by
   by_cases e:cz=f/\b5=aH/\H1=H
   ·have:=dm cz b5 H1 (.returned v,H') r (by rw[bg e]) al;rw[this,e.1,e.2.1,e.2.2];exact hf
   ·exact q cz b5 H1 r (by dsimp only;rw[a3 e];exact al)
  show iv ops i (fun o=>j7 (dy K.P _ _ ops a2) (one K.P _ _ ops S H o))=_;unfold iv;rw[ar];show j7 (dy K.P _ _ ops a2) (one K.P _ _ ops S H o)=_;unfold one;rw[xC aq (ak.get vE _ ah),show(want==want)=true by cases want<;>rfl];show j7 (dy K.P _ _ ops a2) (oy S H o.dst (ct K.P _ _ S H o))=_;have he:ct K.P (hZ K.Q fE) (fU K.Q hQ fE).aE S H o=some (.val v H'):=by
   unfold ct eA;simp only[ag];show jW K.P _ c=_;unfold jW;rw[aL];show mE K.P _ _ S.T H c=_;unfold mE;rw[nq ak H aK];simp only[aL];rw[c1 ak H U];simp only
   show(match j9 K.P H (.func f) (first.toList++args) cap.toList with|some (f,aH)=>oY (hZ K.Q _ f aH H)|none=>none)=_
   unfold j9;simp only
   rw[has,zD a9 hf];rfl
  rw[he,au];show j7 (dy K.P _ _ ops a2) (m3 H' (S.put (some d) v))=_;rw[s1];exact aa fE AL
theorem aS.adj{b:Bool}(ah:look l d=some (.bool b))(aa:b=true->aS K B ops a2 F ⟨n,ds,(d,.bool true)::l⟩ m J bm)(aX:b=false->aS K B ops a2 F ⟨n,ds,(d,.bool false)::l⟩ m J bm):aS K B ops a2 F ⟨n,ds,l⟩ m J bm:=by
 intro T S H b6 ak av;have key:∀c:Bool,b=c->Sat ⟨n,ds,(d,.bool c)::l⟩ S:=fun c e=>by
  subst e;refine⟨ak.n,ak.ds,ak.bB,ak.bf,ak.b8,ak.has,fun t v q=>?_⟩;have aN:(bif Nat.beq t d then some (Value.bool b) else look l t)=some v:=q;cases cc:Nat.beq t d with
  |true=>rw[cc,b1] at aN;obtain rfl:=dX cc;rw[<-aN];exact ak.get _ _ ah
  |false=>rw[cc,da] at aN;exact ak.get t v aN
 cases b with
 |true=>exact aa rfl T S H b6 (key true rfl) av
 |false=>exact aX rfl T S H b6 (key false rfl) av
theorem aS.Ke(ar:nth ops i=some o)(ep:∀S,Sat ⟨n,ds,l⟩ S->eZ ops S.T o=some false)(au:o.dst=some d)(aw:Nat.blt d n=true)(h:aS K B ops a2 F ⟨n,ds,(d,undef)::l⟩ m J bm):aS K B ops (.val i::a2) F ⟨n,ds,l⟩ m J bm:=by
 intro T S H b6 ak av;obtain⟨a1,s1,s2⟩:=ak.put (dst:=some d) aw undef;obtain⟨bo,dm,aB,H',E',m',ae,aa,ab,aY,bu⟩:=h T a1 H b6 s2 av;refine⟨bo,dm,aB,H',E',m',ae,fun fE q=>?_,ab,aY,bu⟩;show iv ops i (kH K.P _ _ ops S H (dy K.P _ _ ops a2))=_;unfold iv;rw[ar];show kH K.P _ _ ops S H (dy K.P _ _ ops a2) o=_;unfold kH;rw[ep S ak];show m7 (dy K.P _ _ ops a2) H (S.put o.dst undef)=_;rw[au,s1];exact aa fE q
theorem aS.T8(ar:nth ops i=some o)(ep:∀S,Sat ⟨n,ds,l⟩ S->eZ ops S.T o=some false)(au:o.dst=some d)(aw:Nat.blt d n=true)(h:aS K B ops a2 F ⟨n,ds,(d,undef)::l⟩ m J bm):aS K B ops (.bA i::a2) F ⟨n,ds,l⟩ m J bm:=by
 intro T S H b6 ak av;obtain⟨a1,s1,s2⟩:=ak.put (dst:=some d) aw undef;obtain⟨bo,dm,aB,H',E',m',ae,aa,ab,aY,bu⟩:=h T a1 H b6 s2 av;refine⟨bo,dm,aB,H',E',m',ae,fun fE q=>?_,ab,aY,bu⟩;show iv ops i (fun o=>j7 (dy K.P _ _ ops a2) (one K.P _ _ ops S H o))=_;unfold iv;rw[ar];show j7 (dy K.P _ _ ops a2) (one K.P _ _ ops S H o)=_;unfold one;rw[ep S ak];show j7 (dy K.P _ _ ops a2) (m3 H (S.put o.dst undef))=_;rw[au,s1];exact aa fE q
theorem aS.na{g:Nat}{want b:Bool}(ar:nth ops i=some o)(aq:ka ops o=some (g,want))(ah:look l g=some (.bool b))(hw:(b==want)=false)(au:o.dst=some d)(aw:Nat.blt d n=true)(h:aS K B ops a2 F ⟨n,ds,(d,undef)::l⟩ m J bm):aS K B ops (.val i::a2) F ⟨n,ds,l⟩ m J bm:=aS.Ke ar (C3 aq ah hw) au aw h
theorem aS.Mk{g:Nat}{want b:Bool}(ar:nth ops i=some o)(aq:ka ops o=some (g,want))(ah:look l g=some (.bool b))(hw:(b==want)=false)(au:o.dst=some d)(aw:Nat.blt d n=true)(h:aS K B ops a2 F ⟨n,ds,(d,undef)::l⟩ m J bm):aS K B ops (.bA i::a2) F ⟨n,ds,l⟩ m J bm:=aS.T8 ar (C3 aq ah hw) au aw h
theorem aS.nil(h:bm E m J):aS K B ops [] F E m J bm:=aS.jj (F':=F.map fun x=>(x.f,x.cl)) (fun x U=>ju (f:=fun x=>(x.f,x.cl)) U) (bi.nil h)
theorem wY(d:Nat){b:Bool}{dm kY:Prop}(aa:dm->aS K B ops a2 F ⟨n,ds,(d,.bool true)::l⟩ m J bm)(aX:kY->aS K B ops a2 F ⟨n,ds,(d,.bool false)::l⟩ m J bm)(ah:look l d=some (.bool b):=by exact rfl) (af:lZ b dm kY:=by first|exact lZ.p _|exact lZ.b _):aS K B ops a2 F ⟨n,ds,l⟩ m J bm:=aS.adj ah (fun q=>aa (af.y q)) (fun q=>aX (af.n q))
end
end
end Go.Opn
