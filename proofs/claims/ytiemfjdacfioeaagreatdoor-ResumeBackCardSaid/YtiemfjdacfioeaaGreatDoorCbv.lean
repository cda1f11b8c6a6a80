/- A part of the proof of ResumeBack. -/
import Derived.Test.YtiemfjdacfioeaaGreatDoorCbu
import Derived.Test.YtiemfjdacfioeaaGreatDoorCbh
import Derived.Test.YtiemfjdacfioeaaGreatDoorCbg
import Derived.Test.YtiemfjdacfioeaaGreatDoorCan
import Derived.Test.YtiemfjdacfioeaaGreatDoorProg
import Derived.KernelRfl
import Derived.Test.YtiemfjdacfioeaaGreatDoorCat
import Derived.Conc.Holds
import Derived.SevenTiedAt
set_option maxRecDepth 100000
set_option maxHeartbeats 8000000
set_option linter.unusedVariables false
set_option linter.unusedSimpArgs false
namespace Go.Opn
noncomputable section
open Go.Cre Go.RowKit Go.Proofs
theorem acz:∀(s:List UInt8) (a b:Int),-65521<a/\a<65521->-65521<b/\b<65521->(-65521<(ml a b s).1/\(ml a b s).1<65521)/\-65521<(ml a b s).2/\(ml a b s).2<65521:=by
 intro s;induction s with
 |nil=>intro a b a' au;exact⟨a',au⟩
 |cons x s aK=>
  intro a b a' au;refine aK _ _ ?_ ?_
  ·exact⟨Mo _ (by decide),Mq _ (by decide)⟩
  ·exact⟨Mo _ (by decide),Mq _ (by decide)⟩
theorem acB(s:List UInt8):(tt s).natAbs<1000000000000000:=by
 obtain⟨⟨aa,ae⟩,aG,br⟩:=acz s 1 0 (by omega) (by omega);unfold tt;rw[wrap_i64 (n:=65536*(ml 1 0 s).2) (by omega) (by omega),wrap_i64 (by omega) (by omega)];omega
theorem adr(g:bz):(p5 g).natAbs<1000000000000000:=by
 have:=T0 (Ip g) 1 (by decide);unfold p5;omega
def IZ:List UInt8:=[112,97,114,108,111,117,114,32,114,117,110,32,49,10,103,97,109,101,32]
def I2:List UInt8:=[10,114,111,117,110,100,32]
def I3:List UInt8:=[32,115,101,101,100,32]
def I4:List UInt8:=[101,110,100,32]
def ty(g:bz)(t:gI):List UInt8:=I4++(Lib.itoa (tt (iG g t))++[10])
theorem XF{n:Int}:fS [n]=32::Lib.itoa n:=by unfold fS;simp
theorem VB{g:bz}{t:gI}{R:List UInt8}:sw g t++R=IZ++(Lib.itoa (p5 g)++(I2++(Lib.itoa t.r++(I3++(Lib.itoa t.s++(10::R)))))):=by
 unfold sw;simp[XF,Fc,I7,Fb,Fe,IZ,I2,I3]
theorem Zq{g:bz}{t:gI}:z7 g t=sw g t++(kU t t.sum.length++ty g t):=by
 unfold z7 iG ty;simp[XF,I6,I4,gH,iG]
def x1(t:gI)(k:Nat):List UInt8:=((t.sum.zip t.pl).drop k).flatMap Cg
theorem anb{t:gI}{k:Nat}(av:t.pl.length=t.sum.length):kU t t.sum.length=kU t k++x1 t k:=by
 unfold kU x1;rw[et (by rw[List.length_zip];omega),<-Jm,Mu]
theorem YG{t:gI}{k:Nat}{a b:List Int}(aa:t.sum[k]?=some a)(ae:t.pl[k]?=some b):x1 t k=Cx++(fS a++10::(Af++(fS b++10::x1 t (k+1)))):=by
 have h:(t.sum.zip t.pl)[k]?=some (a,b):=by rw[Si];exact⟨aa,ae⟩
 unfold x1;have ao:=(dX.1 h).1;have e:(t.sum.zip t.pl).drop k=(a,b)::(t.sum.zip t.pl).drop (k+1):=by
  rw[mO ao];rw[de ao] at h;injection h with h;rw[h]
 rw[e,Fu];unfold Cg;simp[gH]
theorem am'{t:gI}(av:t.pl.length=t.sum.length):x1 t t.sum.length=[]:=by
 unfold x1;rw[wm (by rw[List.length_zip];omega)];rfl
theorem X2{α:Type}{pre bs R:List α}{i:Nat}{c x:α}(h:bs[i]?=some x):([c,x]++(pre++(bs.eraseIdx i++R))).Perm (c::(pre++(bs++R))):=(QM h).symm.cons c
theorem X3{α:Type}{pre bs R:List α}{i:Nat}{c x y:α}(h:bs[i]?=some x):(c::(pre++(bs.set i y++R))).Perm ([c,y]++(pre++(bs.eraseIdx i++R))):=(QN h).cons c
theorem eK.WU{J:aI}{e:TypeId}{b:Option Addr}{n c i:Nat}{bP:List (List Int)}{bs:aO}(h:eK h0 J e (.slice b n c) bP bs)(ao:i<bP.length):∃a off cells bG ad l,b=some ⟨a,off,none⟩/\J a=some (cells,bG)/\bP[i]?=some l/\nth cells (off+i*1)=some (.slice (some ⟨ad,0,none⟩) l.length l.length)/\bs[i]?=some (ad,cK.row (l.map (Value.int .i64)) 3)/\
 ∀l':List Int,l'.length=l.length->eK h0 J e (.slice b n c) (bP.set i l') (bs.set i (ad,.row (l'.map (Value.int .i64)) 3)):=by
 obtain⟨b',ch,az,ae⟩:=h.at;injection az with zl Ee HK
 subst zl;subst Ee;subst HK;obtain⟨a,off,cells,bG,rfl,bp,bC⟩:=ae (by omega);obtain⟨l,w,x,bd,a6,b9,fN,kd⟩:=bC i ao;obtain⟨ad,rfl,rfl,qE⟩:=fN.row;exact⟨a,off,cells,bG,ad,l,rfl,bp,bd,a6,b9,fun l' c6=>kd _ _ (qE l' c6)⟩
section
variable {Q:dI Tryz.prog}{g0:Nat}{J:aI}
theorem y1{ac a b:Nat}{s w r:List UInt8}(h:s.drop a=w++r)(au:a+w.length=b)(a':a<=s.length)(af:s.length<=100000):Fn (bb Q g0) 44 [fi ac,.string ⟨⟨w⟩⟩] [eI ac s a] J (fun u m' ag=>m'=[eI ac s b]/\J=ag):=by subst au;exact NF h a' af
theorem Lo{ac a b:Nat}{s r:List UInt8}{n lw dE e:Int}(h:s.drop a=Lib.itoa n++r)(au:a+(Lib.itoa n).length=b)(a':a<=s.length)(af:s.length<=100000)(ay:CO r)(j9:lw<=n)(lB:n<=dE)(aP:n.natAbs<1000000000000000):Fn (bb Q g0) 45 [fi ac,.int .i64 lw,.int .i64 dE,.int .i64 e] [eI ac s a] J (fun u m' ag=>u=.int .i64 n/\m'=[eI ac s b]/\J=ag):=by subst au;exact XH h a' af ay j9 lB aP
theorem XI{ac cg a b:Nat}{s r:List UInt8}{vs Z:List Int}{lw dE:Int}(h:s.drop a=fS vs++10::r)(au:a+(fS vs).length+1=b)(a':a<=s.length)(af:s.length<=100000)(Ot:Z.length=vs.length)(az:∀v∈vs,lw<=v/\v<=dE)(av:-70368744177664<=lw)(VE:dE<=70368744177664)(hlen:vs.length<=1000):Fn (bb Q g0) 46 [fi ac,.slice (some ⟨cg,0,none⟩) vs.length vs.length,.int .i64 lw,.int .i64 dE] [eI ac s a,(cg,.row (Z.map (Value.int .i64)) 3)] J (fun u m' ag=>m'=[eI ac s b,(cg,.row (vs.map (Value.int .i64)) 3)]/\J=ag):=by subst au;exact ak3 h a' af Ot az av VE hlen
open Classical in
theorem an2{g:bz}{t:gI}{ac n:Nat}{s:List UInt8}{bm bl:Option Addr}{fA bt z2 bw:Nat}{s1 s2:aO}(hw:iP g)(cY:fh g t.sum t.pl n)(aP:n<=60000)(ll:0<=t.r)(cI:t.r<=1000000)(Q8:0<=t.s)(mb:t.s<=2147483646)(di:s=z7 g t)(af:s.length<=100000)(zq:fA=g.is.length)(lc:z2=g.is.length)(gU:eK h0 J 22 (.slice bm fA bt) (jb g) s1)(jh:eK h0 J 22 (.slice bl z2 bw) (jb g) s2):
 Fn (bb Q g0) 25 [fi ac,.agg #[.int .i64 0,.int .i64 0,.slice bm fA bt,.slice bl z2 bw],.int .i64 (p5 g)] (eI ac s 0::(s1++s2)) J (fun u m' ag=>J=ag/\u=.agg #[.int .i64 t.r,.int .i64 t.s,.slice bm fA bt,.slice bl z2 bw]/\∃hH jn,m'=eI ac s s.length::(hH++jn)/\eK h0 J 22 (.slice bm fA bt) t.sum hH/\eK h0 J 22 (.slice bl z2 bw) t.pl jn):=by
 have atL:addrEq bm bm=true:=by obtain⟨Cv,ps,_⟩:=gU;exact ps.addr
 have atM:addrEq bl bl=true:=by obtain⟨Cv,ps,_⟩:=jh;exact ps.addr
 have i2:=hw.i2;obtain⟨E6,E7,z8,z'⟩:=cY.len hw;have zr:=wc (g:=g);have PO:t.pl.length=t.sum.length:=by omega
 have bD:s.drop 0=IZ++(Lib.itoa (p5 g)++(I2++(Lib.itoa t.r++(I3++(Lib.itoa t.s++(10::(kU t t.sum.length++ty g t))))))):=by rw[mP,di,Zq,VB]
 obtain⟨dS,aN⟩:∃p,0+IZ.length=p:=⟨_,rfl⟩;have aa:=oH bD;rw[aN] at aa;obtain⟨iz,bn⟩:∃p,dS+(Lib.itoa (p5 g)).length=p:=⟨_,rfl⟩;have ae:=oH aa;rw[bn] at ae;obtain⟨iX,cP⟩:∃p,iz+I2.length=p:=⟨_,rfl⟩;have aG:=oH ae;rw[cP] at aG;obtain⟨lJ,eW⟩:∃p,iX+(Lib.itoa t.r).length=p:=⟨_,rfl⟩;have br:=oH aG;rw[eW] at br;obtain⟨nj,cv⟩:∃p,lJ+I3.length=p:=⟨_,rfl⟩;have eu:=oH br;rw[cv] at eu;obtain⟨mB,im⟩:∃p,nj+(Lib.itoa t.s).length=p:=⟨_,rfl⟩;have gK:=oH eu;rw[im] at gK;obtain⟨o4,w3⟩:∃p,mB+[(10:UInt8)].length=p:=⟨_,rfl⟩;have ks:s.drop o4=kU t t.sum.length++ty g t:=by rw[<-w3];exact oH (w:=[10]) (r:=kU t t.sum.length++ty g t) gK
 have KD:o4<=s.length:=by
  have:=cC List.length bD;simp only[dv,lO,iQ] at this;simp only[iQ,yt] at w3;omega
 have asM:o4=(sw g t).length:=by
  have:=cC List.length (VB (g:=g) (t:=t) (R:=[]));simp only[dv,iQ,yt] at this w3;omega
 have j8:dS<=o4/\iz<=o4/\iX<=o4/\lJ<=o4/\nj<=o4/\mB<=o4:=by omega
 refine Fn.cH (cQ Tryz.func25) rfl rfl fun H=>?_;refine rg ?_;refine dJ fun a4=>?_;refine' W.step rfl (.of (e4 rfl rfl rfl (ln Q g0) rfl rfl rfl fun dc=>?_));refine a8 ?_;refine ab.gB (m':=eI ac s 0::(s1++(s2++[(dc,.row [.int .i64 0,.int .i64 0,.slice none 0 0,.slice none 0 0] 30),(a4,.row [.int .i64 0,.int .i64 0,.slice bm fA bt,.slice bl z2 bw] 30)]))) (jm (r:=(dc,.row [.int .i64 0,.int .i64 0,.slice none 0 0,.slice none 0 0] 30)::(a4,.row [.int .i64 0,.int .i64 0,.slice bm fA bt,.slice bl z2 bw] 30)::eI ac s 0::(s1++s2))) ?_;refine rg ?_;refine I V.ah ?_;refine' W.step rfl (Exec.call rfl rfl rfl rfl rfl rfl rfl (bh:=[eI ac s 0]) (bW:=_) (.refl _) trivial (y1 (w:=IZ) bD aN (by omega) af) ?_);rintro v' m' ag hle ⟨rfl,rfl⟩;refine bj ?_;refine aM ?_;refine' W.step rfl (Exec.call rfl rfl rfl rfl rfl rfl rfl (bh:=[eI ac s dS]) (bW:=_) (.refl _) trivial (Lo aa bn (by omega) af (EC (by decide)) (yn _) (yn _) (adr g)) ?_);rintro v' m' ag hle ⟨rfl,rfl,rfl⟩;refine bj ?_;refine I V.ah ?_;refine' W.step rfl (Exec.call rfl rfl rfl rfl rfl rfl rfl (bh:=[eI ac s iz]) (bW:=_) (.refl _) trivial (y1 (w:=I2) ae cP (by omega) af) ?_);rintro v' m' ag hle ⟨rfl,rfl⟩;refine bj ?_;refine I V.ah ?_;refine' W.step rfl (Exec.call rfl rfl rfl rfl rfl rfl rfl (bh:=[eI ac s iX]) (bW:=_) (.refl _) trivial (Lo aG eW (by omega) af (EC (by decide)) ll cI (by omega)) ?_);rintro v' m' ag hle ⟨rfl,rfl,rfl⟩;refine I V.bc ?_;refine dN ?_;refine bj ?_;refine I V.ah ?_;refine' W.step rfl (Exec.call rfl rfl rfl rfl rfl rfl rfl (bh:=[eI ac s lJ]) (bW:=_) (.refl _) trivial (y1 (w:=I3) br cv (by omega) af) ?_);rintro v' m' ag hle ⟨rfl,rfl⟩;refine bj ?_
 refine I V.ah ?_;refine' W.step rfl (Exec.call rfl rfl rfl rfl rfl rfl rfl (bh:=[eI ac s nj]) (bW:=_) (.refl _) trivial (Lo eu im (by omega) af (EC (by decide)) Q8 mb (by omega)) ?_);rintro v' m' ag hle ⟨rfl,rfl,rfl⟩;refine I V.bc ?_;refine dN ?_;refine bj ?_;refine I V.ah ?_;refine' W.step rfl (Exec.call rfl rfl rfl rfl rfl rfl rfl (bh:=[eI ac s mB]) (bW:=_) (.refl _) trivial (y1 (w:=[10]) gK w3 (by omega) af) ?_);rintro v' m' ag hle ⟨rfl,rfl⟩;refine a8 ?_;refine ab.gB (m':=eI ac s o4::(s1++(s2++[(dc,.row [.int .i64 0,.int .i64 0,.slice none 0 0,.slice none 0 0] 30),(a4,.row [.int .i64 (t.r),.int .i64 (t.s),.slice bm fA bt,.slice bl z2 bw] 30)]))) (.refl _) ?_;refine rg ?_;refine I V.bc ?_;refine I V.bO ?_;refine aM ?_;refine ns ?_;refine ab.block ?_;refine' ab.c2 (l':=[(30,.int .i64 ((0):Int)),(0,_),(4,_),(6,_),(29,_)]) ⟨?ao6,rfl,rfl,rfl,rfl,trivial⟩ (bA _) ?_;case ao6=>exact bS
 refine aj ?_;refine' ab.dF (fun(bH:Nat×aO×aO)=>match bH with|(i,hH,jn)=>⟨[(30,.int .i64 (i:Int))],eI ac s (o4+(kU t i).length)::(hH++(jn++[(dc,.row [.int .i64 0,.int .i64 0,.slice none 0 0,.slice none 0 0] 30),(a4,.row [.int .i64 (t.r),.int .i64 (t.s),.slice bm fA bt,.slice bl z2 bw] 30)])),J,i<=t.sum.length/\eK h0 J 22 (.slice bm fA bt) (t.sum.take i++(jb g).drop i) hH/\eK h0 J 22 (.slice bl z2 bw) (t.pl.take i++(jb g).drop i) jn,t.sum.length -i⟩) ⟨0,s1,s2⟩ ?af ?bE
 case af=>exact⟨cB _,by simpa using gU,by simpa using jh⟩
 case bE=>
  rintro⟨i,hH,jn⟩ hinv;try simp only at hinv
  obtain⟨ao,fc,hU⟩:=hinv;have lb:=anb (k:=i) PO;have xD:=oH (w:=kU t i) (r:=x1 t i++ty g t) (by rw[ks,lb,gH]);have HG:=cC List.length lb;rw[dv] at HG;have KO:=cC List.length ks;simp only[dv,lO] at KO;refine rg ?_;refine I V.a1 ?_;refine ns ?_;refine If (fun JR=>?_) fun JR=>?_
  ·obtain⟨uD,qm⟩:∃a,t.sum[i]?=some a:=⟨_,de (by omega)⟩;obtain⟨uE,qn⟩:∃a,t.pl[i]?=some a:=⟨_,de (by omega)⟩;obtain⟨y,ai⟩:∃y,g.is[i]?=some y:=⟨_,de (by omega)⟩;have Mc:=cY.1.2 i uD y qm ai;have jH:=cY.2.2 i uE y qn ai;have aaf:=hw.yC y (cd ai);have KH:∀(V:List (List Int)),V.length=g.is.length->(V.take i++(jb g).drop i).length=g.is.length/\(V.take i++(jb g).drop i)[i]?=some (List.replicate y.2.toNat 0):=fun V k5=>by
    refine⟨by rw[dv,h1,lO,zr];omega,?_⟩;rw[qT (by rw[h1];omega),h1,pY,show i+(i -min i V.length)=i by omega];exact RM ai
   obtain⟨ast,ah0⟩:=KH t.sum E6;obtain⟨asu,ah1⟩:=KH t.pl E7;obtain⟨wE,ni,Dd,Dq,ox,l0,rfl,y7,j8,Br,vK,xr⟩:=fc.WU (i:=i) (by omega);obtain⟨yB,zG,Gc,Gm,r5,cU,rfl,GS,nI,Bq,vJ,xq⟩:=hU.WU (i:=i) (by omega);rw[ah0] at j8;injection j8 with j8
   rw[ah1] at nI;injection nI with nI
   have f0:l0.length=uD.length:=by rw[<-j8,qU];omega
   have f1:cU.length=uE.length:=by rw[<-nI,qU];omega
   rw[f0] at Br;rw[f1] at Bq;have BK:=xr uD f0.symm;have Er:=xq uE f1.symm;rw[YG qm qn] at xD;simp only[gH,Sd] at xD;obtain⟨jT,v1⟩:∃p,o4+(kU t i).length+Cx.length=p:=⟨_,rfl⟩;have ue:=oH xD;rw[v1] at ue;obtain⟨mH,v2⟩:∃p,jT+(fS uD).length+1=p:=⟨_,rfl⟩;have D8:=oH (w:=fS uD++[10]) (r:=Af++(fS uE++10::(x1 t (i+1)++ty g t))) (by rw[ue];simp);rw[dv,s',<-Nat.add_assoc,v2] at D8;obtain⟨ke,v3⟩:∃p,mH+Af.length=p:=⟨_,rfl⟩;have Hw:=oH D8;rw[v3] at Hw;have qo:=cC List.length (Q0 qm qn);unfold Cg at qo;simp only[dv,s'] at qo;have Pz:=cC List.length (YG qm qn);simp only[dv,iQ] at Pz;have v4:ke+(fS uE).length+1=o4+(kU t (i+1)).length:=by omega
   refine c5 ?_;refine aj ?_;refine ab.block ?_;refine rg ?_;refine aM ?_;refine bj ?_;refine I V.ah ?_;refine' W.step rfl (Exec.call rfl rfl rfl rfl rfl rfl rfl (bh:=[eI ac s (o4+(kU t i).length)]) (bW:=_) (.refl _) trivial (y1 (w:=Cx) xD v1 (by omega) af) ?_);rintro v' m' ag hle ⟨rfl,rfl⟩;refine bj ?_;refine aM ?_;refine I V.bO ?_;refine I V.ah ?_;refine I V.aX ?_;refine I V.bO ?_;refine' W.step rfl (Exec.call rfl rfl rfl rfl rfl rfl rfl (bh:=[eI ac s jT,(ox,.row (l0.map (Value.int .i64)) 3)]) (bW:=_) (X2 (pre:=[]) vK) trivial (XI ue v2 (by omega) af f0 (fun v az=>by have:=Mc.2 v az;omega) (by omega) (by omega) (by omega)) ?_);rintro v' m' ag hle ⟨rfl,rfl⟩;refine a8 ?_;refine ab.gB (m':=eI ac s mH::((hH.set i (ox,.row (uD.map (Value.int .i64)) 3))++(jn++[(dc,.row [.int .i64 0,.int .i64 0,.slice none 0 0,.slice none 0 0] 30),(a4,.row [.int .i64 (t.r),.int .i64 (t.s),.slice (some ⟨wE,ni,none⟩) fA bt,.slice (some ⟨yB,zG,none⟩) z2 bw] 30)]))) (X3 (pre:=[]) vK) ?_;refine rg ?_;refine I V.ah ?_;refine' W.step rfl (Exec.call rfl rfl rfl rfl rfl rfl rfl (bh:=[eI ac s mH]) (bW:=_) (.refl _) trivial (y1 (w:=Af) D8 v3 (by omega) af) ?_);rintro v' m' ag hle ⟨rfl,rfl⟩;refine bj ?_;refine aM ?_;refine I V.bO ?_;refine I V.ah ?_;refine I V.aX ?_;refine I V.bO ?_;refine' W.step rfl (Exec.call rfl rfl rfl rfl rfl rfl rfl (bh:=[eI ac s ke,(r5,.row (cU.map (Value.int .i64)) 3)]) (bW:=_) (X2 (pre:=(hH.set i (ox,.row (uD.map (Value.int .i64)) 3))) vJ) trivial (XI Hw v4 (by omega) af f1 (fun v az=>by have:=jH.2 v az;omega) (by omega) (by omega) (by omega)) ?_);rintro v' m' ag hle ⟨rfl,rfl⟩;refine a8 ?_;refine ab.gB (m':=eI ac s (o4+(kU t (i+1)).length)::((hH.set i (ox,.row (uD.map (Value.int .i64)) 3))++((jn.set i (r5,.row (uE.map (Value.int .i64)) 3))++[(dc,.row [.int .i64 0,.int .i64 0,.slice none 0 0,.slice none 0 0] 30),(a4,.row [.int .i64 (t.r),.int .i64 (t.s),.slice (some ⟨wE,ni,none⟩) fA bt,.slice (some ⟨yB,zG,none⟩) z2 bw] 30)]))) (X3 (pre:=(hH.set i (ox,.row (uD.map (Value.int .i64)) 3))) vJ) ?_
   refine rg ?_;refine I V.bx ?_;refine I V.ah ?_;refine a8 ?_;refine cA ⟨i+1,hH.set i (ox,.row (uD.map (Value.int .i64)) 3),jn.set i (r5,.row (uE.map (Value.int .i64)) 3)⟩ ?_;exact⟨by omega,by rw[<-take_set (by omega) qm];exact BK,by rw[<-take_set (by omega) qn];exact Er⟩
  ·refine aj ?_;refine ab.exit ?_;obtain rfl:i=t.sum.length:=by omega
   rw[am' PO,me] at xD;have ug:(jb g).drop t.sum.length=[]:=wm (by omega);have as3:(jb g).drop t.sum.length=[]:=ug;rw[ug,gg,qV] at fc;rw[ug,gg,<-PO,qV] at hU;obtain⟨hq,Uc⟩:∃p,o4+(kU t t.sum.length).length=p:=⟨_,rfl⟩;rw[Uc] at xD;have su:(iG g t).length=hq:=by unfold iG;rw[dv];omega
   have HD:s=iG g t++ty g t:=by rw[di,Zq];unfold iG;rw[gH]
   have ag2:∀k:Nat,k=hq->(s.drop (0:Int).toNat).take k=iG g t:=fun k aU=>by
    rw[aU,<-su];show(s.drop 0).take _=_;rw[mP,HD,List.take_left]
   have jO:=cC List.length HD;rw[dv] at jO;unfold ty at xD;obtain⟨hj,bp⟩:∃p,hq+I4.length=p:=⟨_,rfl⟩;have eo:=oH xD;rw[bp] at eo;obtain⟨ig,bC⟩:∃p,hj+(Lib.itoa (tt (iG g t))).length=p:=⟨_,rfl⟩;have ga:=oH eo;rw[bC] at ga;have y':(ty g t).length=I4.length+((Lib.itoa (tt (iG g t))).length+1):=by unfold ty;simp[dv]
   have b5:ig+[(10:UInt8)].length=s.length:=by show ig+1=_;omega
   refine ab.gB (m':=eI ac s hq::(hH++(jn++[(dc,.row [.int .i64 0,.int .i64 0,.slice none 0 0,.slice none 0 0] 30),(a4,.row [.int .i64 (t.r),.int .i64 (t.s),.slice bm fA bt,.slice bl z2 bw] 30)]))) (by rw[<-Uc]) ?_;refine aj ?_;refine ab.draw rfl (by kernel_rfl) (bf:=[.val 0,.val 1,.val 2,.val 3,.val 4,.val 5,.val 6,.val 7,.val 8,.bV 9,.val 10]) (by kernel_rfl) ?_;refine cq ?_;refine an rfl V.bO ?_;refine cq ?_;refine an rfl V.bO ?_;refine' a7.val rfl rfl rfl rfl (ZN rfl rfl (L2 rfl) rfl rfl ?bD ?aa ?ae) ?_;case bD=>exact cf
   case aa=>exact cf
   case ae=>exact cf
   refine dl rfl (G:=TL (by rw[h1,lO];omega)) (h:=?_);rintro v' m' ag hle ⟨rfl,rfl,rfl⟩;rw[ag2 _ (by simp)];refine an rfl V.aA ?_;refine a7.nil ?_;refine rg ?_;refine I V.ah ?_;refine' W.step rfl (Exec.call rfl rfl rfl rfl rfl rfl rfl (bh:=[eI ac s hq]) (bW:=_) (.refl _) trivial (y1 (w:=I4) xD bp (by omega) af) ?_);rintro v' m' ag hle ⟨rfl,rfl⟩;refine bj ?_;refine aM ?_;refine' W.step rfl (Exec.call rfl rfl rfl rfl rfl rfl rfl (bh:=[eI ac s hj]) (bW:=_) (.refl _) trivial (Lo eo bC (by omega) af (EC (by decide)) (yn _) (yn _) (acB _)) ?_);rintro v' m' ag hle ⟨rfl,rfl,rfl⟩;refine bj ?_;refine I V.ah ?_;refine' W.step rfl (Exec.call rfl rfl rfl rfl rfl rfl rfl (bh:=[eI ac s ig]) (bW:=_) (.refl _) trivial (y1 (w:=[10]) (r:=[]) (by rw[ga];rfl) b5 (by omega) af) ?_);rintro v' m' ag hle ⟨rfl,rfl⟩;refine ns ?_;refine ab.draw rfl (by kernel_rfl) (bf:=[.val 0,.val 1,.val 2,.val 3,.val 4,.val 5,.val 6,.val 7,.val 8,.val 9]) (by kernel_rfl) ?_;refine cq ?_;refine an rfl V.bO ?_;refine cq ?_;refine an rfl V.bO ?_;refine an rfl V.zy ?_;refine an rfl V.a1 ?_;refine a7.nil ?_;refine aj ?_;refine If (fun sd=>?_) fun sd=>?_
   ·exfalso;omega
   ·refine aj ?_;refine ab.skip ?_;refine ab.gB (m':=eI ac s s.length::(hH++(jn++[(dc,.row [.int .i64 0,.int .i64 0,.slice none 0 0,.slice none 0 0] 30),(a4,.row [.int .i64 (t.r),.int .i64 (t.s),.slice bm fA bt,.slice bl z2 bw] 30)]))) (.refl _) ?_;refine rg ?_;refine I V.gW ?_;refine dN ?_;refine ns ?_;refine ab.ret ?_;refine'⟨.inr rfl,rfl,_,_,.cell rfl (by repeat first|exact .head _|refine .tail _ ?_|refine h2 _ ?_) (l8 (eV rfl) rfl) (.nil),(show(eI ac s s.length::(hH++jn)).Sublist _ from .cons_cons _ (pX (bA hH) (pZ jn _))),⟨rfl,rfl,hH,jn,rfl,fc,hU⟩⟩
end
section
variable {K:eL}{B:ea}{o:Oper}{n:Nat}{ds:e7}{l:List (Nat×Value)}{m:aO}{J:aI}
theorem aou{x:Operand}{xt asserted:TypeId}{v:Value}(ar:o.op=.typeAssert x xt asserted true)(U:b7 l x=some .nilIface)(az:Gy K.P .nilIface asserted true=some v):cV K B o n ds l m J v:=by
 intro call aR S H ax aJ;unfold cO fq;simp only[ar];show B7 K.P _ asserted true (bk S.T H x)=_;rw[du ax H U];show gp (Gy K.P .nilIface asserted true) _=_;rw[az];rfl
end
theorem yl.mono{K:eL}{f:FuncId}{args:List Value}{bJ:FrameMode}{bh:aO}{J:aI}{P qW:FrameMode->aO->aI->Prop}(h:yl K f args bJ bh J P)(aw:∀u m ag,P u m ag->qW u m ag):yl K f args bJ bh J qW:=fun H aJ=>by
 obtain⟨v,gd,H',ag,m',aa,ae,aG⟩:=h H aJ;exact⟨v,gd,H',ag,m',aa,ae,aw _ _ _ aG⟩
section
variable {Q:dI Tryz.prog}{g0:Nat}{J:aI}
theorem akl{a4 a5:Nat}{xs ys:List Value}:yl (bb Q g0) 24 [.pointer (some ⟨a4,0,none⟩),.pointer (some ⟨a5,0,none⟩)] .returning [(a4,.row xs 30),(a5,.row ys 37)] J (fun u m' ag=>u=.returning/\m'=[(a4,.row xs 30),(a5,.row ys 37)]/\J=ag):=by
 refine yl.cH (cQ Tryz.func24) rfl rfl fun H=>?_;refine rg ?_;refine' W.recover rfl rfl rfl rfl rfl rfl rfl ?_;refine' W.step rfl (Exec.val rfl rfl (aou (v:=.tuple #[(.agg #[(.int .i64 (0)),(.int .i64 (0))]),.bool false]) rfl rfl (by kernel_rfl)) ?_);refine aM ?_;refine' W.step rfl (.of (e4 rfl rfl rfl (apO Q g0) rfl rfl rfl fun a2=>?_));refine dN ?_;refine I V.aA ?_;refine bj ?_;refine I V.ah ?_;refine ns ?_;refine If (fun dR=>?_) fun dR=>?_
 ·exfalso;exact absurd dR (by simp)
 ·refine aj ?_;refine ab.skip ?_;exact⟨by first|exact .inl rfl|exact .inr rfl,rfl,[],_,.nil,.cons _ (.refl _),rfl,rfl,rfl⟩
open Classical in
theorem akm{g:bz}{t:gI}{n:Nat}{s:List UInt8}{aT aL:Option Addr}{aQ ci:Nat}(hw:iP g)(aq:fG J g aT aQ aL ci)(aw:kc g=0)(aC:h6 g=0)(cY:fh g t.sum t.pl n)(aP:n<=60000)(ll:0<=t.r)(cI:t.r<=1000000)(Q8:0<=t.s)(mb:t.s<=2147483646)(di:s=z7 g t)(af:s.length<=100000):
 Fn (bb Q g0) 7 [hc g aT aQ aL ci,.string ⟨⟨s⟩⟩] [] J (fun u m' ag=>J.le ag/\m'=[]/\∃bm bt bl bw,u=.tuple #[mG t bm bt bl bw,.agg #[.int .i64 0,.int .i64 0]]/\iS ag t bm bt bl bw):=by
 have fW:addrEq aL aL=true:=aq.i.addr;have gn:addrEq aT aT=true:=aq.n.addr;refine CI.am2 (CI.cH (cQ Tryz.func7) rfl rfl fun H=>?_);refine rg ?_;refine dJ fun a2=>?_;refine' W.step rfl (.of (e4 rfl rfl rfl (ln Q g0) rfl rfl rfl fun a4=>?_));refine' W.step rfl (.of (e4 rfl rfl rfl (aah Q g0) rfl rfl rfl fun a5=>?_));refine bj ?_;refine I V.c8 ?_;refine cl (G:=aog hw aq aw) (h:=?_);rintro v m' dQ ck ⟨_,bm,fA,bt,bl,z2,bw,s1,s2,zq,lc,rfl,rfl,gU,jh⟩;have qi:=aq.mono ck;refine aM ?_;refine' W.step rfl (.of (e4 rfl rfl rfl (ln Q g0) rfl rfl rfl fun dc=>?_));refine dN ?_;refine I V.aA ?_;refine bj ?_;refine I V.ah ?_;refine I V.a1 ?_;refine ns ?_;refine If (fun kL=>?_) fun kL=>?_
 ·exfalso;exact kL rfl
 ·refine aj ?_;refine ab.skip ?_;refine rg ?_;refine aM ?_;refine I V.a1 ?_;refine ns ?_;refine If (fun F7=>?_) fun F7=>?_
  ·exfalso;omega
  ·refine aj ?_;refine ab.skip ?_;refine rg ?_;refine I V.c8 ?_;refine cl (G:=T1 (fun ag hle=>NN (qi.mono hle)) qi) (h:=?_);rintro v' m' eZ cE ⟨rfl,rfl,_⟩;simp only[Dk,aC,Ek];refine aM ?_;refine bj ?_;refine I V.ah ?_;refine I V.a1 ?_;refine ns ?_;refine If (fun JR=>?_) fun JR=>?_
   ·exfalso;exact JR rfl
   ·refine aj ?_;refine ab.skip ?_;refine rg ?_;refine I V.fn ?_;refine' W.defer rfl rfl rfl rfl rfl rfl rfl ?_;refine bj ?_;refine aM ?_;refine dJ fun lQ=>?_;refine I V.aA ?_;refine bj ?_;refine I V.ah ?_;refine I V.c8 ?_;refine I V.ah ?_;refine' W.step rfl (Exec.call rfl rfl rfl rfl rfl rfl rfl (bh:=eI lQ s 0::(s1++s2)) (bW:=[(dc,.row [.int .i64 0,.int .i64 0,.slice bm fA bt,.slice bl z2 bw] 30),(a5,.row [.int .i64 0,.int .i64 0] 37),(a4,.row [.int .i64 0,.int .i64 0,.slice none 0 0,.slice none 0 0] 30),dm a2 g aT aQ aL ci]) (jm (l:=(eI lQ s 0::(s1++s2))++[(dc,.row [.int .i64 0,.int .i64 0,.slice bm fA bt,.slice bl z2 bw] 30),(a5,.row [.int .i64 0,.int .i64 0] 37),(a4,.row [.int .i64 0,.int .i64 0,.slice none 0 0,.slice none 0 0] 30),dm a2 g aT aQ aL ci]) (r:=eI lQ s 0::((dc,.row [.int .i64 0,.int .i64 0,.slice bm fA bt,.slice bl z2 bw] 30)::((s1++s2)++[(a5,.row [.int .i64 0,.int .i64 0] 37),(a4,.row [.int .i64 0,.int .i64 0,.slice none 0 0,.slice none 0 0] 30),dm a2 g aT aQ aL ci])))) trivial (an2 hw cY aP ll cI Q8 mb di af zq lc (gU.mono cE) (jh.mono cE)) ?_);rintro v' m' kh dV ⟨rfl,rfl,hH,jn,rfl,tH,tI⟩;refine W.gB (m':=(a5,.row [.int .i64 0,.int .i64 0] 37)::(a4,.row [.int .i64 0,.int .i64 0,.slice none 0 0,.slice none 0 0] 30)::(dc,.row [.int .i64 0,.int .i64 0,.slice bm fA bt,.slice bl z2 bw] 30)::dm a2 g aT aQ aL ci::eI lQ s s.length::(hH++jn)) (jm (r:=(eI lQ s s.length::(hH++jn))++[(dc,.row [.int .i64 0,.int .i64 0,.slice bm fA bt,.slice bl z2 bw] 30),(a5,.row [.int .i64 0,.int .i64 0] 37),(a4,.row [.int .i64 0,.int .i64 0,.slice none 0 0,.slice none 0 0] 30),dm a2 g aT aQ aL ci])) ?_;refine I V.jL ?_;refine dN ?_;refine dN ?_;refine a8 ?_;refine ab.gB (m':=hH++(jn++[(a5,.row [.int .i64 0,.int .i64 0] 37),(a4,.row [.int .i64 t.r,.int .i64 t.s,.slice bm fA bt,.slice bl z2 bw] 30),(dc,.row [.int .i64 0,.int .i64 0,.slice bm fA bt,.slice bl z2 bw] 30),dm a2 g aT aQ aL ci,eI lQ s s.length])) (jm (r:=(a5,.row [.int .i64 0,.int .i64 0] 37)::(a4,.row [.int .i64 t.r,.int .i64 t.s,.slice bm fA bt,.slice bl z2 bw] 30)::(dc,.row [.int .i64 0,.int .i64 0,.slice bm fA bt,.slice bl z2 bw] 30)::dm a2 g aT aQ aL ci::eI lQ s s.length::(hH++jn))) ?_
    refine tH.hx (fun _ _ _ h=>h.ok) (.refl _) fun yp kv lV=>?_;refine(tI.mono kv).hx (fun _ _ _ h=>h.ok) (.refl _) fun ki jA tM=>?_;have Cp:=cY.len hw;obtain rfl:fA=t.sum.length:=by omega
    obtain rfl:z2=t.pl.length:=by omega
    have dy:iS ki t bm bt bl bw:=⟨lV.mono jA fun _ _ q=>q.mono jA,tM⟩;have na:=ck.trans (cE.trans (kv.trans jA));refine aj ?_;refine ab.ret ?_;refine⟨.returning,rfl,.inr ⟨24,#[.pointer (some ⟨a4,0,none⟩),.pointer (some ⟨a5,0,none⟩)],#[],[(a4,.row [.int .i64 t.r,.int .i64 t.s,.slice bm t.sum.length bt,.slice bl t.pl.length bw] 30),(a5,.row [.int .i64 0,.int .i64 0] 37)],[(dc,.row [.int .i64 0,.int .i64 0,.slice bm t.sum.length bt,.slice bl t.pl.length bw] 30),dm a2 g aT aQ aL ci,eI lQ s s.length],rfl,jm (l:=[(a4,.row [.int .i64 t.r,.int .i64 t.s,.slice bm t.sum.length bt,.slice bl t.pl.length bw] 30),(a5,.row [.int .i64 0,.int .i64 0] 37)]++[(dc,.row [.int .i64 0,.int .i64 0,.slice bm t.sum.length bt,.slice bl t.pl.length bw] 30),dm a2 g aT aQ aL ci,eI lQ s s.length]) (r:=[(a5,.row [.int .i64 0,.int .i64 0] 37),(a4,.row [.int .i64 t.r,.int .i64 t.s,.slice bm t.sum.length bt,.slice bl t.pl.length bw] 30),(dc,.row [.int .i64 0,.int .i64 0,.slice bm t.sum.length bt,.slice bl t.pl.length bw] 30),dm a2 g aT aQ aL ci,eI lQ s s.length]),akl.mono ?_⟩⟩;rintro u m' ag ⟨rfl,rfl,rfl⟩ _;exact .inl ⟨rfl,_,[],.cell rfl (.head _) (l8 (eV rfl) rfl) (.cell rfl (.tail _ (.head _)) (l8 (eV rfl) rfl) .nil),iR _,na,rfl,bm,bt,bl,bw,rfl,dy⟩
end
theorem ans{i:Int}:∀{ns:List cS} {j:Nat} {x:Int},x∈eJ i j ns->eJ i j ns≠[]:=fun h q=>by rw[q] at h;cases h
theorem ag9{l:List Int}(h:l≠[]):fc l∈l:=by
 cases l with
 |nil=>exact absurd rfl h
 |cons x l=>exact .head _
theorem afw{aY:Int}{pl:Nat}{l:List Int}(hm:1<=aY)(KJ:aY<=25)(zh:1<=pl)(Ps:pl<=3):iP (vr aY pl l)/\h6 (vr aY pl l)=0/\kc (vr aY pl l)=0:=by
 obtain⟨bp,bC⟩:=Xa (pl:=pl) (k:=(1+eh l 5).toNat) (l:=fX l 5);have aiP:=pB (l:=l) (n:=5) (by omega);have j5:BN pl (H6 pl l):=fun p aw=>by
  obtain⟨aa,ae,aG,br,_⟩:=bp p aw;exact⟨aa,ae,aG,br⟩
 have av:(H6 pl l).length<=40:=by show(uq pl _ _).1.length<=40;rw[bC];omega
 have hw:iP (vr aY pl l):=afz j5 hm KJ zh Ps;have aC:h6 (vr aY pl l)=0:=afx j5 hm (by omega) zh (by omega) av;refine⟨hw,aC,?_⟩;unfold kc;rw[ap (by simp[aC]),ap ?_];rintro⟨p,_,_,aP⟩;refine aP fun i s y af ai ajz=>fun x U=>?_;have Eb:s=eJ (i:Int) 0 (vr aY pl l).ns:=by
  unfold gC at af;rw[pb,Fv (eT ai)] at af;injection af with af;exact af.symm
 have aD:=IA (GG aC);rw[Eb] at U ⊢;rw[<-ajz];exact afy j5 hm aD ai U (ag9 (ans U))
section
variable {Q:dI Tryz.prog}{g0:Nat}{J:aI}
theorem an1{l:List Int}{c1:Option Addr}{kl:Nat}{EL EW rounds:Int}(av:dG J (.slice c1 l.length kl) l)(hE:l.length<=1000000):
 Fn (bb Q g0) 5 [.slice c1 l.length kl,.int .i64 EL,.int .i64 EW,.int .i64 rounds] [] J (fun u m' ag=>J.le ag/\m'=[]/\∃g t aT aQ aL ci bs cs cu cD,u=.tuple #[hc g aT aQ aL ci,mG t bs cs cu cD]/\fG ag g aT aQ aL ci/\iS ag t bs cs cu cD/\iP g/\h6 g=0/\kc g=0/\fh g t.sum t.pl 13500/\0<=t.r/\t.r<=30/\0<=t.s/\t.s<=2147483646):=by
 have Yr:addrEq c1 c1=true:=av.addr;obtain⟨pl,dO⟩:∃pl:Nat,1+EL % 3=(pl:Int):=⟨(1+EL % 3).toNat,by omega⟩;obtain⟨N,nF⟩:∃N:Nat,rounds % 30=(N:Int):=⟨(rounds % 30).toNat,by omega⟩;obtain⟨hw,aC,aw⟩:=afw (aY:=25) (pl:=pl) (l:=l) (by decide) (by decide) (by omega) (by omega);refine Fn.cH (cQ Tryz.func5) rfl rfl fun H=>?_;refine rg ?_;refine' W.step rfl (.of (e4 rfl rfl rfl (Mg Q g0) rfl rfl rfl fun hs=>?_));refine' W.step rfl (.of (e4 rfl rfl rfl (ln Q g0) rfl rfl rfl fun a9=>?_));refine bj ?_;refine aM ?_;refine cl (G:=Lh (n:=3) (by decide) (by decide)) (h:=?_);rintro v m' ag hle ⟨rfl,rfl,rfl⟩;refine I V.bx ?_;rw[dO];refine cl (G:=afA (pl:=pl) av hE (by omega) (by omega) (by decide) (by decide)) (h:=?_);rintro v m' dQ ck ⟨_,rfl,aT,aQ,aL,ci,rfl,aq⟩;have fW:addrEq aL aL=true:=aq.i.addr;have gn:addrEq aT aT=true:=aq.n.addr;refine' W.step rfl (.of (e4 rfl rfl rfl (Mg Q g0) rfl rfl rfl fun q2=>?_));refine dN ?_;refine bj ?_;refine I V.c8 ?_;refine cl (G:=Xq hw aq aw) (h:=?_);rintro v m' eZ cE ⟨_,rfl,bs,cs,cu,cD,rfl,dy⟩;have oS:=aq.mono cE;have sV:addrEq bs bs=true:=dy.s.addr;have zP:addrEq cu cu=true:=dy.p.addr;refine aM ?_;refine' W.step rfl (.of (e4 rfl rfl rfl (ln Q g0) rfl rfl rfl fun kJ=>?_));refine dN ?_;refine I V.aA ?_;refine bj ?_;refine I V.ah ?_;refine cl (G:=Lh (n:=30) (by decide) (by decide)) (h:=?_);rintro v m' ag hle ⟨rfl,rfl,rfl⟩;refine I V.aA ?_;refine a8 ?_;rw[nF];refine rg ?_;refine I V.ah ?_;refine cl (G:=Lh (n:=2147483647) (by decide) (by decide)) (h:=?_);rintro v m' ag hle ⟨rfl,rfl,rfl⟩
 refine I V.aA ?_;refine bj ?_;refine I V.ah ?_;refine I V.a1 ?_;refine ns ?_;refine If (fun yP=>?_) fun yP=>?_
 ·refine rg ?_;refine I V.c8 ?_;refine I V.c8 ?_;refine I V.ah ?_;refine cl (G:=ane hw oS dy (fh.zero hw) aw (by omega) rfl (by show(0:Int)<=0;decide) (by show(0:Int)<=_;decide)) (h:=?_);rintro v m' kh dV ⟨_,rfl,fo,bm,bt,bl,bw,rfl,xe,cY,ay,af⟩;have bd:addrEq bm bm=true:=xe.s.addr;have a6:addrEq bl bl=true:=xe.p.addr;refine aM ?_;refine dN ?_;refine ns ?_;refine ab.draw rfl (by kernel_rfl) (bf:=[.val 0,.val 1,.bV 2,.cF [1],.bV 3]) (by kernel_rfl) ?_;refine an rfl V.c8 ?_;refine an rfl V.c8 ?_;refine kW rfl ?_;refine a7.cF fC ?_;refine kW rfl ?_;refine a7.nil ?_;refine aj ?_;refine ab.ret ?_;refine'⟨.inr rfl,rfl,_,[],.cell rfl (by repeat first|exact .head _|refine .tail _ ?_|refine h2 _ ?_) (l8 (eV rfl) rfl) (.cell rfl (by repeat first|exact .head _|refine .tail _ ?_|refine h2 _ ?_) (l8 (eV rfl) rfl) (.nil)),iR _,?_⟩;first
   |(have c:=yP
     exact⟨ck.trans (cE.trans dV),rfl,_,fo,aT,aQ,aL,ci,bm,bt,bl,bw,rfl,oS.mono dV,xe,hw,aC,aw,cY.wide (by omega),by omega,by omega,by rw[af];exact yn _,by rw[af];show(0:Int)<=_;decide⟩)
   |exact⟨ck.trans (cE.trans (dV.trans hD)),rfl,_,fo,aT,aQ,aL,ci,bm,bt,bl,bw,rfl,Hb.mono hD,xe,hw,aC,aw,cY.wide (by omega),by omega,by omega,by omega,Eb⟩
 ·refine aj ?_;refine ab.skip ?_;refine rg ?_;refine I V.c8 ?_;refine I V.ah ?_;refine cl (G:=akN hw oS aw (by omega) (by omega)) (h:=?_);rintro v m' kh dV ⟨_,rfl,b8,dh,gx,sb,rfl,On⟩;have Hb:=oS.mono dV;have b9:addrEq b8 b8=true:=On.s.addr;have fN:addrEq gx gx=true:=On.p.addr;refine aM ?_;refine dN ?_;refine bj ?_;refine I V.c8 ?_;refine I V.c8 ?_;refine I V.ah ?_;refine cl (G:=anf hw Hb On (fh.zero hw) aw (by omega) rfl (by show 1<=EW % 2147483647;omega) (by show EW % 2147483647<=2147483646;omega)) (h:=?_);rintro v m' pV hD ⟨_,rfl,fo,bm,bt,bl,bw,rfl,xe,cY,ay,af,Eb⟩;have bd:addrEq bm bm=true:=xe.s.addr;have a6:addrEq bl bl=true:=xe.p.addr;refine aM ?_;refine dN ?_;refine ns ?_;refine ab.draw rfl (by kernel_rfl) (bf:=[.val 0,.val 1,.bV 2,.cF [1],.bV 3]) (by kernel_rfl) ?_;refine an rfl V.c8 ?_;refine an rfl V.c8 ?_;refine kW rfl ?_;refine a7.cF fC ?_;refine kW rfl ?_;refine a7.nil ?_;refine aj ?_;refine ab.ret ?_;refine'⟨.inr rfl,rfl,_,[],.cell rfl (by repeat first|exact .head _|refine .tail _ ?_|refine h2 _ ?_) (l8 (eV rfl) rfl) (.cell rfl (by repeat first|exact .head _|refine .tail _ ?_|refine h2 _ ?_) (l8 (eV rfl) rfl) (.nil)),iR _,?_⟩;first
   |(have c:=yP
     exact⟨ck.trans (cE.trans dV),rfl,_,fo,aT,aQ,aL,ci,bm,bt,bl,bw,rfl,oS.mono dV,xe,hw,aC,aw,cY.wide (by omega),by omega,by omega,by rw[af];exact yn _,by rw[af];show(0:Int)<=_;decide⟩)
   |exact⟨ck.trans (cE.trans (dV.trans hD)),rfl,_,fo,aT,aQ,aL,ci,bm,bt,bl,bw,rfl,Hb.mono hD,xe,hw,aC,aw,cY.wide (by omega),by omega,by omega,by omega,Eb⟩
theorem akc(t':Jj Q g0)(bT:∀J,Fn (bb Q g0) 4 [] [] J (Mz (.bool true) J)){l:List Int}{c1:Option Addr}{kl:Nat}{EL EW rounds:Int}(av:dG J (.slice c1 l.length kl) l)(hE:l.length<=9223372036854775807):
 Fn (bb Q g0) 3 [.slice c1 l.length kl,.int .i64 EL,.int .i64 EW,.int .i64 rounds] [] J (fun v m' ag=>v=.bool true):=by
 have Yr:addrEq c1 c1=true:=av.addr;refine Fn.cH (cQ Tryz.func3) rfl rfl fun H=>?_;refine rg ?_;refine I V.aA ?_;refine bj ?_;refine ko (G:=bT _) (h:=?_);refine I V.oe ?_;refine ns ?_;refine If (fun p3=>?_) fun p3=>?_
 ·exfalso;simp at p3
 ·refine aj ?_;refine ab.skip ?_;refine rg ?_;refine aM ?_;refine I V.a1 ?_;refine ns ?_;refine If (fun wN=>?_) fun wN=>?_
  ·refine rg ?_;refine I V.aA ?_;refine ns ?_;refine ab.ret ?_;refine c' ?_;first
    |(have c:=wN;simp[pE];done)
    |rfl
  ·refine aj ?_;refine ab.skip ?_;refine rg ?_;refine aM ?_;refine cl (G:=an1 av (by omega)) (h:=?_);rintro v m' dQ ck ⟨_,rfl,g,t,aT,aQ,aL,ci,bs,cs,cu,cD,rfl,aq,aD,hw,aC,aw,cY,pw,rA,BA,hW⟩;refine aM ?_;refine' W.step rfl (.of (e4 rfl rfl rfl (Mg Q g0) rfl rfl rfl fun a9=>?_));refine' W.step rfl (.of (e4 rfl rfl rfl (ln Q g0) rfl rfl rfl fun q2=>?_));refine dN ?_;refine dN ?_;refine a8 ?_;have fW:addrEq aL aL=true:=aq.i.addr;have gn:addrEq aT aT=true:=aq.n.addr;have sV:addrEq bs bs=true:=aD.s.addr;have zP:addrEq cu cu=true:=aD.p.addr;have k7:nA g t=0:=cY.check aw (by omega) pw (by omega) BA hW;have Wi:Ci g t=.tuple #[.string ⟨⟨z7 g t⟩⟩,.int .i64 0]:=by unfold Ci;rw[aE k7,k7]
   have hlen:=cY.len hw;have i2:=hw.i2;have cU:CK t.sum:=⟨by omega,fun r ay=>by have:=hlen.2.2.1 r ay;omega⟩;have ee:CK t.pl:=⟨by omega,fun r ay=>by have:=hlen.2.2.2 r ay;omega⟩;have dt:=TJ k7;have jQ:(z7 g t).length<=100000:=by
    have aa:=VA dt;have ae:=YI cU ee dt.l dt.bs dt.cu t.sum.length (cZ _);have aG:=sQ (sR (RE (IntKind.i64.wrap (65536*(ml 1 0 (iG g t)).2)+(ml 1 0 (iG g t)).1))) (cZ 1);rw[show IntKind.i64.wrap (IntKind.i64.wrap (65536*(ml 1 0 (iG g t)).2)+(ml 1 0 (iG g t)).1)=tt (iG g t) from rfl] at aG;have cv:I6.length=3:=rfl;unfold z7;simp only[dv,s'];have br:(iG g t).length=(sw g t).length+(kU t t.sum.length).length:=by unfold iG;rw[dv]
    omega
   refine rg ?_;refine I V.c8 ?_;refine I V.c8 ?_;refine cl (G:=YO t' aq aD cU ee) (h:=?_);rintro v m' eZ cE ⟨rfl,rfl,_⟩;rw[Wi];have oS:=aq.mono cE;have ajf:=aD.mono cE;refine aM ?_;refine bj ?_;refine I V.c8 ?_;refine I V.ah ?_;refine cl (G:=akm hw oS aw aC cY (by omega) pw (by omega) BA hW rfl jQ) (h:=?_);rintro v m' kh dV ⟨_,rfl,bm,bt,bl,bw,rfl,hu⟩;have bd:addrEq bm bm=true:=hu.s.addr;have a6:addrEq bl bl=true:=hu.p.addr;have Hb:=oS.mono dV;refine aM ?_;refine' W.step rfl (.of (e4 rfl rfl rfl (ln Q g0) rfl rfl rfl fun yA=>?_));refine' W.step rfl (.of (e4 rfl rfl rfl (aah Q g0) rfl rfl rfl fun wC=>?_));refine dN ?_;refine dN ?_;refine bj ?_;refine I V.c8 ?_;refine I V.c8 ?_;refine cl (G:=YO t' Hb hu cU ee) (h:=?_);rintro v m' pV hD ⟨rfl,rfl,_⟩;rw[Wi];have aji:=hu.mono hD;have ajg:=ajf.mono (dV.trans hD);refine aM ?_;refine bj ?_;refine I V.ah ?_;refine I V.a1 ?_;refine I V.ah ?_;refine dq 50 (fun UR=>?_) fun UR=>?_
   ·refine aW V.c8 ?_;refine aW V.jL ?_;refine' W.rb rfl rfl rfl (Exec.val rfl rfl (ZJ rfl (.inl ⟨rfl,rfl⟩) rfl rfl (ajK Q g0) (la:=[_,_]) (bs:=[_,_]) rfl rfl rfl rfl) ?_);refine I V.aV ?_;refine I V.ah ?_;refine dq 55 (fun US=>?_) fun US=>?_
    ·refine aW V.ah ?_;refine aW V.a1 ?_;refine I V.aV ?_;refine I V.ah ?_;refine dq 59 (fun UP=>?_) fun UP=>?_
     ·refine aW V.c8 ?_;refine aW V.c8 ?_;refine Db (G:=aka ajg aji (by omega) (fun r ay=>by have:=hlen.2.2.1 r ay;omega) (by omega) (fun r ay=>by have:=hlen.2.2.2 r ay;omega) rfl) (h:=?_);rintro v m' yo ku ⟨rfl,rfl,rfl⟩;refine I V.aV ?_;refine I V.ah ?_;refine dq 64 (fun UQ=>?_) fun UQ=>?_
      ·
        refine aW V.ah ?_;refine aW V.ah ?_;refine aW V.YQ ?_;refine I V.aV ?_;refine I V.aA ?_;refine ns ?_;refine ab.ret ?_;refine c' ?_;first
         |(have c:=wN;simp[pE];done)
         |rfl
      ·
        exfalso;simp at UQ
     ·exfalso;exact UP rfl
    ·exfalso;simp at US
   ·exfalso;exact UR rfl
end
end
end Go.Opn
namespace Go.Opn
noncomputable section
open Go Go.Cre Go.RowKit Go.Proofs
def Qy:List Int:=[0,1,28,2,29,14,24,3,30,22,20,15,25,17,4,8,31,27,13,23,21,19,16,7,26,12,18,6,11,5,10,9]
def TG:List Value:=Qy.map fun z=>Value.int .u8 z
def Qz:List Int:=[0,1,56,2,57,49,28,3,61,58,42,50,38,29,17,4,62,47,59,36,45,43,51,22,53,39,33,30,24,18,12,5,63,55,48,27,60,41,37,16,46,35,44,21,52,32,23,11,54,26,40,15,34,20,31,10,25,14,19,9,13,8,7,6]
def TH:List Value:=Qz.map fun z=>Value.int .u8 z
def QA:List Int:=[1,10,100,1000,10000,100000,1000000,10000000,100000000,1000000000,10000000000,100000000000,1000000000000,10000000000000,100000000000000,1000000000000000,10000000000000000,100000000000000000,1000000000000000000,10000000000000000000]
def Da:List Value:=QA.map fun z=>Value.int .u64 z
def Zm:List (Nat×TypeId×List Value):=[(1,187,TG),(2,188,TH),(0,181,Da)]
def H0:aB:=Uw 3 3 Zm
theorem akj:isTrue ((vp Tryz.prog (DF Tryz.prog) 10000).body 4 [] false .run H0)=true:=by kernel_rfl
end
end Go.Opn
namespace Go.Opn
noncomputable section
open Go Go.Cre Go.RowKit
section
variable {H:Type}{P:Program}{enc:TypeId×Value->H}{W:World}{fuel:Nat}{t e:TypeId}{cs:List Value}{x:DataW H×List MemPlace}
end
end
end Go.Opn
namespace Go.Cre
noncomputable section
end
end Go.Cre
