/- A part of the proof of TableLosses. -/
import Derived.Test.YtjbbbehaciogcaaGreatDoorCaz
import Derived.Test.YtjbbbehaciogcaaGreatDoorCav
set_option maxRecDepth 100000
set_option maxHeartbeats 8000000
set_option linter.unusedVariables false
set_option linter.unusedSimpArgs false
namespace Go.Opn
noncomputable section
open Go.Cre Go.RowKit Go.Proofs
section
variable {Q:c7 Tryz.prog}{g0:Nat}{J:aj}
theorem aaL{v w:Value}{x y:Nat}(aa:cS J v x)(ap:cS J w y)(g4:(ag x).length<=100000)(jL:(ag y).length<=100000)(kQ:y≠0):Fn (aU Q g0) 144 [v,w] [] J (fun u m' af=>J.le af/\m'=[]/\∃q r,u=.tuple #[q,r]/\cS af q (x / y)/\cS af r (x % y)):=by
 have dC:=aa;have e8:=ap;obtain⟨a',bb,rfl,aL⟩:=aa.bA;obtain⟨bf,br,rfl,aG⟩:=ap.bA;refine Fn.b5 (b2 Tryz.func144) rfl rfl fun H=>?_;refine U 0x439c0859 ?_;refine bC (G:=aaG dC e8 g4 jL) (h:=?_);rintro v' m' af hle ⟨rfl,rfl,rfl⟩;refine U 0x5f04 ?_;refine If (fun kV=>?_) fun kV=>?_
 ·have cD:=sI.1 kV;refine U 0x39 ?_;refine bC (G:=aaI dC g4) (h:=?_);rintro v' m' bu aY ⟨_,rfl,ao8⟩;refine U 0x1abe042 ?_;refine bp ?_
  exact⟨aY,rfl,_,_,rfl,by rw[A6 cD];exact cS.nil,by rw[sw cD];exact ao8⟩
 ·have jl:y<=x:=sv fun h=>kV (sI.2 h);have l9:(ag y).length<=(ag x).length:=yy jl;have yo:0<(ag y).length:=by have:=wC kQ;omega
  obtain⟨DY,hX,tS,qU,rfl,ED,oL⟩:=e8.at kQ;refine U 0xbe0850e757 ?_;refine If (fun o5=>?_) fun o5=>?_
  ·obtain⟨ax,aS,cl⟩:=Tv (x:=y) I;obtain⟨d,au,gF,_⟩:=oL 0 I;rw[ax] at au;obtain rfl:y=d:=DQ au;have azx:x % y<y:=gA _ I;refine U 0x930439 ?_;refine bC (G:=adH dC g4 I I) (h:=?_);rintro v' m' bu aY ⟨_,rfl,Ga,rfl,s7⟩;refine U 0x1c10e70211ce1 ?_;refine bC (G:=Ty (n:=x % y) I) (h:=?_);rintro v' m' cZ bG ⟨_,rfl,q8⟩;refine U 0x1abe042 ?_;refine bp ?_
   exact⟨aY.trans bG,rfl,_,_,rfl,s7.mono bG,q8⟩
  ·obtain⟨n,aE⟩:∃n,(ag y).length=n+2:=⟨(ag y).length -2,I⟩;obtain⟨ru,Tb,Ju,abn⟩:=oL ((ag y).length -1) I;have Ju:nth tS (hX+(((ag y).length:Int) -1).toNat*1)=some (.int .u32 (ru:Int)):=by rw[show(((ag y).length:Int) -1).toNat=(ag y).length -1 by omega];exact Ju
   obtain⟨md,Im⟩:∃md,md=(ag x).length -(ag y).length+1:=⟨_,rfl⟩;obtain⟨f,aA⟩:∃f,f=1000000000 / (ru+1):=⟨_,rfl⟩;obtain⟨f1,f2,kt,IJ,II⟩:=arx Tb kQ aA;obtain⟨ky,pj⟩:∃ky,ky=y*f:=⟨_,rfl⟩;rw[<-pj] at kt IJ II;have S2:0<ky:=by rw[pj];exact jr I f1
   have S9:=oN (x:=x) (bU _);refine U 0xdc930c21ce0450e757 ?_;rw[show(ru:Int)+1=((ru+1:Nat):Int) by omega];refine U 0x604f ?_;rw[show IntKind.u64.wrap ((1000000000:Int).tdiv ((ru+1:Nat):Int))=(f:Int) from by rw[aA];exact tp (x:=1000000000) (d:=ru+1) bI];refine U 0x6508439 ?_;rw[show((ag x).length:Int)+1=(((ag x).length+1:Nat):Int) by omega];refine bC (G:=abg (size:=(ag x).length+1) dC I I I (by rw[fP];exact O5 S9 I)) (h:=?_);rintro v' m' af hle ⟨vD,sl,rfl,rfl,I9,Ua,Kf,rfl⟩;refine U 0x210e702 ?_;refine bC (G:=abg (size:=(ag y).length) e8 (bU _) I I (by rw[<-pj];exact kt)) (h:=?_);rintro v' m' af hle ⟨qL,mP,rfl,rfl,abp,FH,w1,rfl⟩;refine U 0x302 ?_;refine az.ie rfl fun Sj=>?_;rw[<-pj] at w1;have MF:=c9.row (J:=J.add qL (cj .u32 mP,78)) (k:=.u32) (l:=mP) (n:=(ag y).length) (cap:=(ag y).length) I (bU _) (mu I) (aj.iE _ _ _);rw[cU (show mP.length<=(ag y).length by omega)] at MF;refine U 0x6309439 ?_;refine' W.step rfl (.of (nf rfl rfl rfl rfl rfl (eW rfl) ?aR ?ad ?ae fun xl=>?_));case aR=>exact ck
   case ad=>exact ck
   case ae=>exact ck
   rw[show(((ag x).length:Int) -((ag y).length:Int)+1).toNat=md by omega,zero_num];refine U 0xbeaf810c250e702 ?_;refine az.ri (.swap _ _ _) ?_;refine c3 [(12,.int .i64 (((md):Int) -1)),(4,_),(8,_),(9,_),(10,_),(11,_)] ?_;refine a2 ?_;refine' az.bH (fun(bK:Nat×(List Nat)×(List Nat))=>match bK with|(k,ul,q)=>⟨[(12,.int .i64 ((k:Int) -1))],[eO .u32 78 vD ul,eO .u32 78 xl q],(J.add qL (cj .u32 mP,78)),k<=md/\ul.length=(ag x).length+1/\dU ul/\q.length=md/\dU q/\aK (ul.drop k)<ky/\x*f=aK ul+1000000000 ^ k*(ky*aK (q.drop k)),k⟩) ⟨md,sl,List.replicate md 0⟩ ?hs ?a7
   case hs=>exact⟨bU _,I9,Ua,kE,FG,by rw[Im];exact avO I9 Kf f1 S9 yo l9 II,by rw[oi (by rw[kE];exact bU _),Kf];rfl⟩
   case a7=>
    rintro⟨k,ul,q⟩ hinv;try simp only at hinv
    obtain⟨hk,E1,bn,bQ,Iu,pe,cB⟩:=hinv;refine U 0x17c1039 ?_;refine If (fun P1=>?_) fun P1=>?_
    ·obtain⟨j,rfl⟩:∃j,k=j+1:=⟨k -1,I⟩;obtain⟨hY,wS,eG,rfl,vZ,x2⟩:=adO (l:=ul) (j:=j) (n:=(ag y).length+1) I;subst vZ;have Sv:dU hY:=fun z aM=>bn z (om _ (om _ aM));have Sw:dU eG:=fun z aM=>bn z (ki _ aM);obtain⟨S5,sQ,Sx⟩:=aw7 bn x2 kt pe;refine U 0x31842108439d5f57 ?_;refine' W.step rfl (Exec.val rfl rfl (aeG rfl rfl (eW rfl) rfl rfl ?aR ?ad ?ae ?aD ?a6) ?_);case aR=>exact ck
     case ad=>exact ck
     case ae=>exact ck
     case aD=>exact ck
     case a6=>exact ck
     rw[show 0+(((hY.length+1:Nat):Int) -1).toNat*1=hY.length by omega,show(((hY.length+1:Nat):Int) -1+((ag y).length:Int)+1 -(((hY.length+1:Nat):Int) -1)).toNat=n+3 by omega,show(((hY.length+1:Nat):Int) -1).toNat=hY.length by omega];refine eZ V.kK ?_;refine' W.step rfl (Exec.call rfl rfl rfl rfl rfl rfl rfl (bm:=[eO .u32 78 vD (hY++wS++eG)]) (cN:=[eO .u32 78 xl q]) (.refl _) trivial (aqa (n:=n) MF I FH I Sx I I I I (fun v1 ad=>IJ _ FH abp w1 v1 (by rw[show(ag y).length -1=n+1 by omega];exact ad)) (by rw[w1];exact S5)) ?_);rintro v' m' af hle ⟨C3,rfl,rfl,S4,S6,IP,SE,rfl⟩;refine eZ V.dz ?_;refine' iN ?hs ?_;case hs=>exact mf hY.length I
     refine nS ?_;have L8:x*f=aK (hY++C3++eG)+1000000000 ^ hY.length*(ky*aK ((q.set hY.length (aK wS / aK mP)).drop hY.length)):=by
        rw[awE I,cL ky,rE ky];refine aw9 (n:=n+3) I S4 sQ (by rw[IP,w1]) (by rw[w1]) cB
     have RR:aK ((hY++C3++eG).drop hY.length)<ky:=by
        rw[lB,KJ,oi (bU _),kj,zq,gO,si,sQ,js,iD,IP,w1];exact gA _ S2
     refine U 0x1810c39 ?_;refine dN ⟨hY.length,hY++C3++eG,q.set hY.length (aK wS / aK mP)⟩ ?_;exact⟨I,by rw[eX,eX] at E1 ⊢;omega,CR (CR Sv S6) Sw,by rw[im];exact bQ,Ap Iu SE,RR,L8⟩
    ·obtain rfl:k=0:=I
     rw[zo,jb,gO] at cB;rw[gO] at pe;obtain⟨f3,f4⟩:=yU (da:=x*f) (V:=ky) (g:=aK q) (by rw[dP (aK q) ky];omega) (by rw[c6,jb,dP (aK q) ky];omega);obtain⟨s1,s2⟩:=Qs (N:=x) (d:=y) f1;rw[<-pj,f3] at s1;rw[<-pj,f4,show x*f -aK q*ky=aK ul by rw[dP (aK q)];omega] at s2;obtain⟨SZ,_⟩:=awD (n:=(ag y).length) bn I (A8 pe kt);refine U 0x10e757 ?_;refine' W.step rfl (Exec.val rfl rfl (Df rfl rfl (eW rfl) rfl ?aR ?ad ?ae) ?_);case aR=>exact ck
     case ad=>exact ck
     case ae=>exact mu ck
     refine' W.step rfl (Exec.call rfl rfl rfl rfl rfl rfl rfl (bm:=[eO .u32 78 vD ul]) (cN:=[eO .u32 78 xl q]) (.refl _) trivial (M5 (l:=ul) (n:=(ag y).length) bn I I I) ?_);rintro v' m' af hle ⟨Tp,rfl,anS,Ct,rfl,rfl⟩;refine W.ei rfl fun Si Rt=>?_;rw[SZ] at Ct;have S7:cS _ (.slice (some ⟨vD,0,none⟩) Tp ((ag x).length+1)) (aK ul):=cS.row Ct I I (mu I) Rt;refine U 0x1c1 ?_;refine bC (G:=adH S7 (by rw[<-Ct,eA];omega) f1 I) (h:=?_);rintro v' m' gi cR ⟨_,rfl,wr,rfl,q8⟩;refine U 0x73811ce1 ?_;refine' W.step rfl (Exec.call rfl rfl rfl rfl rfl rfl rfl (bm:=[eO .u32 78 xl q]) (cN:=[]) (.refl _) trivial (M5 (l:=q) Iu I (bU _) I) ?_);rintro v' m' af hle ⟨ap0,rfl,Sc,Tg,rfl,rfl⟩;refine U 0xc0841 ?_;refine az.ie rfl fun Ij=>?_;refine U 0x357 ?_;refine bp ?_
     exact⟨((Sj.trans Si).trans cR).trans Ij,rfl,_,_,rfl,cS.row (by rw[Tg,<-bQ,cU (bU _),s1]) I Sc (mu I) (aj.iE _ _ _),by rw[<-s2];exact q8.mono Ij⟩
end
end
end Go.Opn
namespace Go.Opn
noncomputable section
theorem alu{A B:Nat}{w x y z:Int}(au:w*z -x*y=1\/w*z -x*y=-1):Nat.gcd (w*A+x*B).natAbs (y*A+z*B).natAbs=Nat.gcd A B:=by
 have apS:z*(w*A+x*B) -x*(y*A+z*B)=(w*z -x*y)*A:=by
  rw[nO,nO,oZ]
  have ax:z*(w*(A:Int))=w*z*A:=by ac_rfl
  have aS:z*(x*(B:Int))=x*(z*B):=by ac_rfl
  have cl:x*(y*(A:Int))=x*y*A:=by ac_rfl
  omega
 have apT:w*(y*A+z*B) -y*(w*A+x*B)=(w*z -x*y)*B:=by
  rw[nO,nO,oZ]
  have ax:w*(z*(B:Int))=w*z*B:=by ac_rfl
  have aS:w*(y*(A:Int))=y*(w*A):=by ac_rfl
  have cl:y*(x*(B:Int))=x*y*B:=by ac_rfl
  omega
 generalize cI:w*(A:Int)+x*B=P at*
 generalize gK:y*(A:Int)+z*B=R at*
 refine OW (Gr ?_ ?_) (Gr ?_ ?_)
 ·have ad:((Nat.gcd P.natAbs R.natAbs:Nat):Int) ∣ P:=sq.2 (lE _ _)
  have ae:((Nat.gcd P.natAbs R.natAbs:Nat):Int) ∣ R:=sq.2 (nQ _ _)
  have aD:=OD (pF (b:=z) ad) (pF (b:=x) ae)
  rw[apS] at aD
  refine vi.1 ?_
  rcases au with d|d
  ·rw[d,sr] at aD;exact aD
  ·rw[d,oY,sr] at aD;exact(Int.dvd_neg).1 aD
 ·have ad:((Nat.gcd P.natAbs R.natAbs:Nat):Int) ∣ P:=sq.2 (lE _ _)
  have ae:((Nat.gcd P.natAbs R.natAbs:Nat):Int) ∣ R:=sq.2 (nQ _ _)
  have aD:=OD (pF (b:=w) ae) (pF (b:=y) ad)
  rw[apT] at aD
  refine vi.1 ?_
  rcases au with d|d
  ·rw[d,sr] at aD;exact aD
  ·rw[d,oY,sr] at aD;exact(Int.dvd_neg).1 aD
 ·have ad:((Nat.gcd A B:Nat):Int) ∣ (A:Int):=vi.2 (lE _ _)
  have ae:((Nat.gcd A B:Nat):Int) ∣ (B:Int):=vi.2 (nQ _ _)
  refine sq.1 ?_
  rw[<-cI]
  exact OC (pF ad) (pF ae)
 ·have ad:((Nat.gcd A B:Nat):Int) ∣ (A:Int):=vi.2 (lE _ _)
  have ae:((Nat.gcd A B:Nat):Int) ∣ (B:Int):=vi.2 (nQ _ _)
  refine sq.1 ?_
  rw[<-gK]
  exact OC (pF ad) (pF ae)
theorem Nm{t K α:Int}(h:t<=0)(ad:α<=K):t*K<=t*α:=by
 have:=k9 (show 0<=-t by omega) (show 0<=K -α by omega)
 rw[oY,Dy] at this
 omega
theorem Ng{t α:Int}(h:0<=t)(ad:0<=α):0<=t*α:=k9 h ad
structure pL (dn gI A B:Int) (a b w x y z:Int) (e:Bool):Prop where
 aF:a=w*dn+x*gI
 ai:b=y*dn+z*gI
 UO:if e then w<=0/\0<=x/\0<=y/\z<=0 else 0<=w/\x<=0/\y<=0/\0<=z
 Eg:w*z -x*y=if e then -1 else 1
 b1:0<=a+w
 df:0<=a+x
 ef:0<=b+y
 e9:0<=b+z
 top:a+w<=dn+1
 U6:a+x<=dn+1
 jm:(w=1/\x=0/\y=0/\z=1/\e=false)\/(b+y<a+w/\b+z<a+x/\w*A+x*B<=B)
structure w9 (dn gI A B:Int):Prop where
 ab:gI<=dn
 nE:0<=gI
 ex:∃K α β:Int,0<K/\A=dn*K+α/\B=gI*K+β/\0<=α/\α<K/\0<=β/\β<K
theorem pL.start{dn gI A B:Int}(h:w9 dn gI A B):pL dn gI A B dn gI 1 0 0 1 false:=
 ⟨I,I,by simp,by simp,by have:=h.ab;have:=h.nE;omega,by have:=h.ab;have:=h.nE;omega,by have:=h.nE;omega,by have:=h.nE;omega,I,I,.inl ⟨rfl,rfl,rfl,rfl,rfl⟩⟩
theorem pL.desc{dn gI A B a b w x y z:Int}{e:Bool}(h:pL dn gI A B a b w x y z e)(a9:w9 dn gI A B)(ad:b+y<a+w)(ae:b+z<a+x):0<=y*A+z*B/\y*A+z*B<w*A+x*B:=by
 obtain⟨K,α,β,e1,rfl,rfl,Mb,zV,pc,j5⟩:=a9.ex
 have hs:=h.UO
 have ax:∀u v:Int,u*(dn*K+α)+v*(gI*K+β)=(u*dn+v*gI)*K+(u*α+v*β):=fun u v=>by
  rw[nO,nO,ry,<-kC,<-kC];omega
 rw[ax,ax,<-h.aF,<-h.ai]
 have ef:=h.ef
 have e9:=h.e9
 have eS:a*K -b*K=(a -b)*K:=(oZ _ _ _).symm
 cases e with
 |false=>
  obtain⟨s1,s2,gN,mM⟩:0<=w/\x<=0/\y<=0/\0<=z:=hs
  have f1:=Nm gN (vg zV)
  have f2:=Ng mM pc
  have f3:=k9 ef (vg e1)
  have f4:=Ng (show 0<=w -y by omega) Mb
  have f5:=Nm (show x -z<=0 by omega) (vg j5)
  have f6:=OG (show 0<(a+x) -(b+z) by omega) e1
  rw[ry] at f3
  rw[oZ] at f4 f5
  rw[oZ] at f5
  rw[oZ,ry,ry] at f6
  omega
 |true=>
  obtain⟨s1,s2,gN,mM⟩:w<=0/\0<=x/\0<=y/\z<=0:=hs
  have f1:=Nm mM (vg j5)
  have f2:=Ng gN Mb
  have f3:=k9 e9 (vg e1)
  have f4:=Ng (show 0<=x -z by omega) pc
  have f5:=Nm (show w -y<=0 by omega) (vg zV)
  have f6:=OG (show 0<(a+w) -(b+y) by omega) e1
  rw[ry] at f3
  rw[oZ] at f4 f5
  rw[oZ] at f5
  rw[oZ,ry,ry] at f6
  omega
theorem pL.next{dn gI A B a b w x y z q:Int}{e:Bool}(h:pL dn gI A B a b w x y z e)(a9:w9 dn gI A B)(ad:q*(b+y)<=a+w)(ae:a+w<(q+1)*(b+y))(aD:q*(b+z)<=a+x)(a6:a+x<(q+1)*(b+z))(bQ:0<=q):
 pL dn gI A B b (a -q*b) y z (w -q*y) (x -q*z) (!e):=by
 have aF:=h.aF
 have ai:=h.ai
 have ef:=h.ef
 have e9:=h.e9
 have aI:=h.top
 have EZ:=h.U6
 have jk:=a9.ab
 have gL:=a9.nE
 rw[nO] at ad aD
 rw[ry,sr,nO] at ae a6
 have dB:(b+y<=dn+1/\b+z<=dn+1)/\y*A+z*B<=B:=by
  rcases h.jm with⟨dq,c2,fp,ij,_⟩|⟨dq,c2,fp⟩
  ·subst dq;subst c2;subst fp;subst ij
   rw[AY,sr,OH] at ai
   refine⟨I,by rw[AY,sr,OH];exact VR _⟩
  ·have:=(h.desc a9 dq c2).2
   exact⟨I,I⟩
 refine⟨ai,?_,?_,?_,ef,e9,I,I,dB.1.1,dB.1.2,.inr ⟨I,I,dB.2⟩⟩
 ·rw[aF,ai,oZ,oZ,nO,kC,kC];omega
 ·have hs:=h.UO
  cases e with
  |false=>
   obtain⟨s1,s2,gN,mM⟩:0<=w/\x<=0/\y<=0/\0<=z:=hs
   show y<=0/\0<=z/\0<=w -q*y/\x -q*z<=0
   have f1:=k9 bQ (show 0<=-y by omega)
   have f2:=k9 bQ mM
   rw[KD] at f1
   omega
  |true=>
   obtain⟨s1,s2,gN,mM⟩:w<=0/\0<=x/\0<=y/\z<=0:=hs
   show 0<=y/\z<=0/\w -q*y<=0/\0<=x -q*z
   have f1:=k9 bQ (show 0<=-z by omega)
   have f2:=k9 bQ gN
   rw[KD] at f1
   omega
 ·have au:=h.Eg
  have ax:y*(x -q*z) -z*(w -q*y)=-(w*z -x*y):=by
   rw[Dy,Dy]
   have b4:y*(q*z)=z*(q*y):=by ac_rfl
   have bZ:y*x=x*y:=k8 _ _
   have cH:z*w=w*z:=k8 _ _
   omega
  rw[ax,au]
  cases e<;>simp
theorem pL.kU{dn gI A B a b w x y z q:Int}{e:Bool}(h:pL dn gI A B a b w x y z e)(a9:w9 dn gI A B)(ad:q*(b+y)<=a+w)(aD:q*(b+z)<=a+x)(bQ:0<=q)(eM:0<b+y)(fH:0<b+z):-dn<=q*y/\q*y<=dn/\-dn<=q*z/\q*z<=dn/\0<=q*b/\q*b<=dn+1+dn/\0<=b/\0<=a:=by
 have hs:=h.UO
 have au:=h.Eg
 have b1:=h.b1
 have df:=h.df
 have ef:=h.ef
 have e9:=h.e9
 have aI:=h.top
 have jk:=a9.ab
 have aL:q<=a+w:=by
  have:=w7 (show 1<=b+y by omega) bQ
  omega
 have aG:q<=a+x:=by
  have:=w7 (show 1<=b+z by omega) bQ
  omega
 rw[nO] at ad
 --dn and gI by tq aAK numbers
 have aW:z*a -x*b=(w*z -x*y)*dn:=by
  rw[h.aF,h.ai,nO,nO,oZ]
  have b4:z*(w*dn)=w*z*dn:=by ac_rfl
  have bZ:z*(x*gI)=x*(z*gI):=by ac_rfl
  have cH:x*(y*dn)=x*y*dn:=by ac_rfl
  omega
 have aT:w*b -y*a=(w*z -x*y)*gI:=by
  rw[h.aF,h.ai,nO,nO,oZ]
  have b4:w*(z*gI)=w*z*gI:=by ac_rfl
  have bZ:w*(y*dn)=y*(w*dn):=by ac_rfl
  have cH:y*(x*gI)=x*y*gI:=by ac_rfl
  omega
 rw[au] at aW aT
 cases e with
 |false=>
  obtain⟨s1,s2,gN,mM⟩:0<=w/\x<=0/\y<=0/\0<=z:=hs
  have aW:z*a -x*b=1*dn:=aW
  have aT:w*b -y*a=1*gI:=aT
  rw[sr] at aW aT
  have gL:0<=b:=I
  have amT:0<=a:=I
  have Iz:q<=a:=I
  have f1:=k9 (show 0<=-x by omega) gL
  have f2:=k9 s1 gL
  have f3:=w7 Iz mM
  have f4:=w7 Iz (show 0<=-y by omega)
  have f5:=k9 bQ mM
  have f6:=k9 bQ (show 0<=-y by omega)
  have f7:=k9 bQ gL
  rw[oY] at f1
  rw[oY,oY] at f4
  rw[KD] at f6
  rw[k8 z q] at f3
  rw[k8 y q] at f4
  omega
 |true=>
  obtain⟨s1,s2,gN,mM⟩:w<=0/\0<=x/\0<=y/\z<=0:=hs
  have aW:z*a -x*b=-1*dn:=aW
  have aT:w*b -y*a=-1*gI:=aT
  rw[oY,sr] at aW aT
  have gL:0<=b:=I
  have amT:0<=a:=I
  have Iz:q<=a:=I
  have f1:=k9 s2 gL
  have f2:=k9 (show 0<=-w by omega) gL
  have f3:=w7 Iz (show 0<=-z by omega)
  have f4:=w7 Iz gN
  have f5:=k9 bQ (show 0<=-z by omega)
  have f6:=k9 bQ gN
  have f7:=k9 bQ gL
  rw[oY] at f2
  rw[oY,oY] at f3
  rw[KD] at f5
  rw[k8 z q] at f3
  rw[k8 y q] at f4
  omega
theorem pL.out{dn gI a b w x y z:Int}{A B:Nat}{e:Bool}(h:pL dn gI A B a b w x y z e)(a9:w9 dn gI A B)(aa:x≠0):
 ∃P R:Nat,w*A+x*B=(P:Int)/\y*A+z*B=(R:Int)/\R<P/\P<=B/\Nat.gcd P R=Nat.gcd A B:=by
 rcases h.jm with⟨_,c2,_⟩|⟨dq,c2,fp⟩
 ·exact absurd c2 aa
 ·obtain⟨d1,d2⟩:=h.desc a9 dq c2
  have ay:=alu (A:=A) (B:=B) (w:=w) (x:=x) (y:=y) (z:=z) (by rw[h.Eg];cases e<;>simp)
  exact⟨(w*A+x*B).natAbs,(y*A+z*B).natAbs,I,I,I,I,ay⟩
theorem aed{n d:Int}(aE:0<=n)(au:0<d):n.tdiv d*d<=n/\n<(n.tdiv d+1)*d/\0<=n.tdiv d:=by
 rw[Int.tdiv_eq_ediv_of_nonneg aE]
 have ad:=Int.ediv_mul_le n (show d≠0 by omega)
 have ae:=Int.lt_ediv_add_one_mul_self n au
 exact⟨ad,ae,Int.ediv_nonneg aE (vg au)⟩
theorem aaN{z m:Nat}(h:(ag z).length<=m+3):((ag z).getD (m+2) 0*1000000000+(ag z).getD (m+1) 0)*1000000000+(ag z).getD m 0=z / 1000000000 ^ m:=by
 have ax:=wZ (ag z) (m+2)
 rw[cU (show(ag z).length<=m+2+1 by omega),wZ (ag z) (m+1),wZ (ag z) m,g'] at ax
 have ad:=ly (wL (i:=m) (hR z))
 have ae:1000000000 ^ ((ag z).take m).length<=1000000000 ^ m:=mV bI (by rw[eA];omega)
 rw[fP 1000000000 (m+1),fP 1000000000 m] at ax
 obtain⟨p,aw⟩:∃p,p=1000000000 ^ m:=⟨_,rfl⟩
 rw[<-aw] at ax ae ⊢
 have ma:0<p:=by rw[aw];exact vr bI
 have ba:p*1000000000*1000000000*(ag z).getD (m+2) 0=p*((ag z).getD (m+2) 0*1000000000*1000000000):=by ac_rfl
 have bd:p*1000000000*(ag z).getD (m+1) 0=p*((ag z).getD (m+1) 0*1000000000):=by ac_rfl
 rw[ba,bd] at ax
 have aS:z=p*(((ag z).getD (m+2) 0*1000000000+(ag z).getD (m+1) 0)*1000000000+(ag z).getD m 0)+aK ((ag z).take m):=by
  rw[cL,c6,cL]
  omega
 conv=>rhs;rw[aS]
 rw[Wn ma,A6 (show aK ((ag z).take m)<p by omega)]
 exact(iD _).symm
theorem aqf{T t0 mO D L:Nat}(cp:D*mO=L)(a9:0<L):T*mO+t0*mO / L=(T*L+t0) / D:=by
 have aI:0<mO:=tE fun h=>by rw[h,js] at cp;omega
 rw[<-KU _ D aI,cp,c6,show T*L*mO=L*(T*mO) by ac_rfl,Wn a9]
theorem aqe{t2 t1 t0 mO D:Nat}(cp:D*mO=1000000000):(t2*1000000000+t1)*mO+t0*mO / 1000000000=((t2*1000000000+t1)*1000000000+t0) / D:=aqf cp bI
theorem aqd{A B m D t2:Nat}(HK:B<=A)(cp:0<D):w9 ((A / 1000000000 ^ m / D:Nat):Int) ((B / 1000000000 ^ m / D:Nat):Int) A B:=by
 have ma:0<1000000000 ^ m:=vr bI
 rw[afZ,afZ]
 generalize e1:1000000000 ^ m*D=K
 have zS:0<K:=by rw[<-e1];exact jr ma cp
 refine⟨by exact_mod_cast Wk HK,pI _,(K:Int),((A % K:Nat):Int),((B % K:Nat):Int),I,?_,?_,pI _,?_,pI _,?_⟩
 ·have:=mT A K
  rw[dP] at this
  exact_mod_cast this.symm
 ·have:=mT B K
  rw[dP] at this
  exact_mod_cast this.symm
 ·exact_mod_cast gA A zS
 ·exact_mod_cast gA B zS
end
end Go.Opn
namespace Go.Opn
noncomputable section
open Go.Cre Go.RowKit Go.Proofs
section
variable {K:dR}{B:dv}{o:Oper}{n:Nat}{ds:ee}{l:List (Nat×Value)}{m:aN}{J:aj}
theorem asM{x y z w:Operand}{a b c d v:Value}{S:aZ}{H:ar}(al:Sat ⟨n,ds,l⟩ S)(Iv:o.op.operands.toList=[x,y,z,w])(aa:bJ l x=some a)(ap:bJ l y=some b)(aM:bJ l z=some c)(hw:bJ l w=some d)(aF:plain a=true)(ai:plain b=true)(aC:plain c=true)(au:plain d=true)(he:eR K.P (execOp (qs S.T H) o)=some (.value v))(av:plain v=true):fl K.P S.T H o=some (.val v H):=by
 unfold fl;rw[Iv];have:fL S.T H [x,y,z,w]=some [a,b,c,d]:=by simp only[fL];rw[de al H aa,de al H ap,de al H aM,de al H hw]
 rw[this];simp only[DD,V0,aF,ai,aC,au,w4,cd,he,av]
theorem aws{c:Call}{x y z w:Operand}{k:IntKind}{a b d e:Int}(ah:o.op=.call c)(aC:c.callee=.builtin .max)(g3:c.args.toList=[x,y,z,w])(aa:bJ l x=some (.int k a))(ap:bJ l y=some (.int k b))(aM:bJ l z=some (.int k d))(hw:bJ l w=some (.int k e)):cY K B o n ds l m J (.int k (max (max (max a b) d) e)):=by
 intro call aJ S H al aB;rw[Bu ah aC];have n1:c.args=#[x,y,z,w]:=by rw[<-VI];exact g3
 have:fl K.P S.T H o=some (.val (.int k (max (max (max a b) d) e)) H):=by
  refine asM al ?_ aa ap aM hw rfl rfl rfl rfl ?_ rfl
  ·rw[ah]
   show(Call.operands c).toList=_;simp[Call.operands,aC,n1]
  ·unfold execOp;simp only[ah]
   have ao:eR K.P (resolve (qs S.T H) c o.type)=some {target:=.builtin .max c.argTypes o.type (c.args.map fun|.const _=>true|_=>false),args:=#[.int k a,.int k b,.int k d,.int k e]}:=by
        unfold resolve;simp only[aC,n1];show some _=some _;simp[hK al H aa,hK al H ap,hK al H aM,hK al H hw];exact⟨by cases x<;>rfl,by cases y<;>rfl,by cases z<;>rfl,by cases w<;>rfl⟩
   rw[eL ao];show eR K.P ((Builtin.max_ c.argTypes o.type #[.int k a,.int k b,.int k d,.int k e]) >>= fun v=>pure (Next.value v))=_;have:eR K.P (Builtin.max_ c.argTypes o.type #[.int k a,.int k b,.int k d,.int k e])=some (.int k (max (max (max a b) d) e)):=by
        have ax:∀p q:Int,(if q>p then q else p)=max p q:=fun p q=>by split<;>omega
        rw[<-ax,<-ax,<-ax];have dh:∀p q:Int,(if q>p then Value.int k q else Value.int k p)=Value.int k (if q>p then q else p):=fun p q=>by split<;>rfl
        simp[Builtin.max_];try (rfl)
   rw[eL this];rfl
 unfold qS;rw[oB al H (vs:=[.int k a,.int k b,.int k d,.int k e]) (by rw[g3];simp only[h4,aa,ap,aM,hw])];exact this
end
section
variable {Q:c7 Tryz.prog}{g0:Nat}{J:aj}
theorem Tt{b:Option Addr}{c cm k z:Nat}{yx:Int}(hk:yx=(k:Int))(aM:cS J (.slice b (ag z).length c) z)(aD:J cm=some ([.slice b (ag z).length c],35))(abo:(ag z).length<=200000):Fn (aU Q g0) 154 [.int .i64 yx,.pointer (some ⟨cm,0,none⟩)] [] J (fun u m' af=>u=.int .u64 (((ag z).getD k 0:Nat):Int)/\m'=[]/\J=af):=by
 subst hk;have ht:=aM;have Ml:=ud (hR z) k;refine Fn.b5 (b2 Tryz.func154) rfl rfl fun H=>?_;refine U 0x2f821521ce059 ?_;refine If (fun fC=>?_) fun fC=>?_
 ·obtain⟨sD,eF,oz,ex,rfl,lj,lp⟩:=ht.at (rc I);obtain⟨p,aw,An,bH⟩:=lp k I;have e:=kp aw;refine U 0x357c09c930539 ?_;refine bp ?_;exact⟨by rw[e];rfl,rfl,rfl⟩
 ·have e:=p0 (l:=ag z) (i:=k) I;refine U 0x6af816757 ?_;refine bp ?_;exact⟨by rw[e];rfl,rfl,rfl⟩
theorem aaM{v:Value}{e0 eP z m mO D X:Nat}(aM:cS J v z)(fH:J e0=some ([.int .i64 ((m+3:Nat):Int)],3))(oC:J eP=some ([.int .u64 (mO:Int)],129))(abo:(ag z).length<=m+3)(hm:m<=100000)(cp:D*mO=1000000000)(ft:X=z / 1000000000 ^ m / D)(x3:X<1000000000000000000):
 Fn (aU Q g0) 153 [v,.pointer (some ⟨e0,0,none⟩),.pointer (some ⟨eP,0,none⟩)] [] J (fun u m' af=>J.le af/\m'=[]/\u=.int .i64 (X:Int)):=by
 have ht:=aM;obtain⟨a',bb,rfl,aL⟩:=aM.bA;obtain⟨t2,EZ⟩:∃t,t=(ag z).getD (m+2) 0:=⟨_,rfl⟩;obtain⟨t1,r4⟩:∃t,t=(ag z).getD (m+1) 0:=⟨_,rfl⟩;obtain⟨t0,s6⟩:∃t,t=(ag z).getD m 0:=⟨_,rfl⟩;have dA:=ud (hR z) (m+2);have ec:=ud (hR z) (m+1);have l0:=ud (hR z) m;rw[<-EZ] at dA;rw[<-r4] at ec;rw[<-s6] at l0;have Ih:=aaN abo;rw[<-EZ,<-r4,<-s6] at Ih;have cD:=aqe (t2:=t2) (t1:=t1) (t0:=t0) cp;rw[Ih,<-ft] at cD;obtain⟨sy,x0⟩:∃P,P=(t2*1000000000+t1)*mO:=⟨_,rfl⟩;obtain⟨vu,sS⟩:∃P,P=t0*mO:=⟨_,rfl⟩;rw[<-x0,<-sS] at cD;have mA:mO<=1000000000:=by
  have:1*mO<=D*mO:=fq _ (tE fun h=>by rw[h,jE] at cp;omega);omega
 have ay1:vu<=1000000000*1000000000:=by rw[sS];exact sx I mA
 have amC:((t2:Int)*1000000000+(t1:Int))*(mO:Int)=(sy:Int):=by rw[<-wG x0];rw[so,gY];rfl
 have amD:(t0:Int)*(mO:Int)=(vu:Int):=wG sS;refine Fn.b5 (b2 Tryz.func153) rfl rfl fun H=>?_;refine rg ?_;refine eQ fun cm=>?_;refine W.ei rfl fun cR Rs=>?_;have fH:=cR _ _ fH;have oC:=cR _ _ oC;have Td:=ht.mono cR;refine U 0x30296702 ?_;have Z8:eg 8 (Value.func (.func 154) #[] #[.pointer (some ⟨cm,0,none⟩)]) (Value.func (.func 154) #[] #[.pointer (some ⟨cm,0,none⟩)])=true:=by simp[eg,addrEq,QW,je]
 refine a2 ?_;refine az.draw rfl (by kernel_rfl) (a1:=[.val 0,.val 1,.val 2,.val 5,.val 6,.val 7,.val 10,.val 12,.val 13,.val 14,.val 16,.bE 3,.val 4,.b9 [16,14,13,12,10,7,6,5],.bE 8,.val 9,.val 11,.b9 [16,14,13,12,10,4],.bE 15,.val 17,.val 18,.val 19,.val 20,.val 21,.b9 [16,11,10,9,4]]) (by kernel_rfl) ?_;refine U 0xf24690a46908d21 ?_;refine' bz.dE rfl rfl rfl rfl rfl rfl rfl rfl rfl dF (Tt (k:=m+2) I Td Rs I) ?_;rintro v' m' af hle ⟨rfl,rfl,rfl⟩;rw[<-EZ];refine U 0x3a3 ?_;refine' bz.dE rfl rfl rfl rfl rfl rfl rfl rfl rfl (dj (fun _ e=>by have e:=(KI e).1;injection e with _ e;omega) dF) (Tt (k:=m+1) I Td Rs I) ?_;rintro v' m' af hle ⟨rfl,rfl,rfl⟩;rw[<-r4];refine U 0x7463 ?_;refine' bz.dE rfl rfl rfl rfl rfl rfl rfl rfl rfl (dj (fun _ e=>by have e:=(KI e).1;injection e with _ e;omega) (dj (fun _ e=>by have e:=(KI e).1;injection e with _ e;omega) dF)) (Tt (k:=m) I Td Rs I) ?_;rintro v' m' af hle ⟨rfl,rfl,rfl⟩;rw[<-s6];refine U 0x7e ?_;rw[amD];refine zi rfl V.Hk ?_;rw[show IntKind.u64.wrap ((vu:Int).tdiv 1000000000)=((vu / 1000000000:Nat):Int) from tp (d:=1000000000) I];refine zi rfl V.iz ?_;rw[show((t2:Int)*1000000000+(t1:Int))*(mO:Int)+((vu / 1000000000:Nat):Int)=(X:Int) by rw[amC];omega];refine U 0x357c744e ?_;refine bp ?_;exact⟨cR,rfl,rfl⟩
end
theorem asT{j:Nat}(h:j<=9):10 ^ (9 -j)*10 ^ j=1000000000:=by rw[<-o1,zp h]
theorem pL.aqq{dn gI A B a b w x y z:Int}{e:Bool}(h:pL dn gI A B a b w x y z e)(a9:w9 dn gI A B):b+y<=dn+1/\b+z<=dn+1:=by
 have ad:=h.top;have ae:=h.U6;have aD:=a9.ab;rcases h.jm with⟨dq,c2,fp,ij,_⟩|⟨dq,c2,_⟩
 ·have ai:=h.ai
  subst fp;subst ij;rw[AY,sr,OH] at ai;omega
 ·omega
theorem aqZ{z Kw dv:List Nat}{i d xn bi:Nat}{x y c c':Int}(ak:i<z.length)(aF:Kw.getD i 0=xn)(ai:dv.getD i 0=bi)(h:(aK (z.take i):Int)+((1000000000 ^ i:Nat):Int)*c=x*(aK (Kw.take i):Int)+y*(aK (dv.take i):Int))(e:(d:Int)+1000000000*c'=x*(xn:Int)+c+y*(bi:Int)):
 (aK ((z.set i d).take (i+1)):Int)+((1000000000 ^ (i+1):Nat):Int)*c'=x*(aK (Kw.take (i+1)):Int)+y*(aK (dv.take (i+1)):Int):=by
 rw[aeJ ak,wZ Kw,wZ dv,aF,ai,fP];simp only[so,gY];generalize ((1000000000 ^ i:Nat):Int)=p at*;have ax:=cC (p*·) e;simp only[nO] at ax;rw[nO,nO];have b4:p*((1000000000:Nat):Int)*c'=p*(1000000000*c'):=kC _ _ _;have bZ:x*(p*(xn:Int))=p*(x*xn):=by ac_rfl
 have cH:y*(p*(bi:Int))=p*(y*bi):=by ac_rfl
 rw[b4,bZ,cH];omega
section
variable {Q:c7 Tryz.prog}{g0:Nat}{J:aj}
theorem aqc{v w:Value}{x y m:Nat}(aa:cS J v x)(ap:cS J w y)(ZD:(ag x).length=m+3)(hm:m<=99997)(Fa:y<=x):
 Fn (aU Q g0) 143 [v,w] [] J (fun u m' af=>J.le af/\m'=[]/\∃X Y:Nat,u=.tuple #[.int .i64 (X:Int),.int .i64 (Y:Int)]/\X<1000000000000000000/\w9 (X:Int) (Y:Int) (x:Int) (y:Int)):=by
 have dC:=aa;have e8:=ap;obtain⟨a',bb,rfl,aL⟩:=aa.bA;obtain⟨bf,br,rfl,aG⟩:=ap.bA;have anY:=yy Fa;obtain⟨sD,eF,oz,ex,rfl,lj,lp⟩:=dC.at (rc I);obtain⟨t,aI,Jq,lt⟩:=lp (m+2) I;have Jq:nth oz (eF+(((m+3:Nat):Int) -1).toNat*1)=some (.int .u32 (t:Int)):=by rw[show(((m+3:Nat):Int) -1).toNat=m+2 by omega];exact Jq
 have s6:t≠0:=Fl x t (by rw[rC,ZD];exact aI);rw[ZD] at dC ⊢;refine Fn.b5 (b2 Tryz.func143) rfl rfl fun H=>?_;refine U 0x1439c0859 ?_;refine fa fun e0=>?_;refine U 0x671c ?_;refine fa fun eP=>?_;refine U 0xd5f1c ?_;refine c4 [0,1,6,7] ?_;refine a2 ?_;refine' az.bH (fun(bK:Nat×Nat)=>match bK with|(j,T)=>⟨[],[(eP,.row [.int .u64 (T:Int)] 129),(e0,.row [.int .i64 ((m+3:Nat):Int)] 3)],J,T=10 ^ j/\j<=8/\T<=100000000/\t*T<1000000000,9 -j⟩) ⟨0,1⟩ ?hs ?a7
 case hs=>exact⟨rfl,by decide,by decide,I⟩
 case a7=>
  rintro⟨j,T⟩ hinv;try simp only at hinv
  obtain⟨cB,aX,amM,Z1⟩:=hinv;obtain⟨P,cI⟩:∃P,P=t*T:=⟨_,rfl⟩;have YR:(t:Int)*(T:Int)=(P:Int):=wG cI;rw[<-cI] at Z1;have ay3:t*(T*10)=P*10:=by rw[cI,fy]
  refine a2 ?_;refine az.draw rfl (by kernel_rfl) (a1:=[.val 0,.val 1,.val 2,.val 3,.val 4,.val 5,.val 6,.val 7,.val 8,.val 9]) (by kernel_rfl) ?_;refine U 0xbe0831a5c930d21 ?_;refine If (fun hC=>?_) fun hC=>?_
  ·have ay7:T*10<1000000000:=by
    have:1*(T*10)<=t*(T*10):=fq _ I;omega
   have Zp:j+1<=8:=by
    apply sv
    intro q;have ad:10 ^ 9<=10 ^ (j+1):=mV bI I;rw[fP 10 j,<-cB] at ad;omega
   have amN:T*10<=100000000:=by
    have ad:10 ^ (j+1)<=10 ^ 8:=mV bI Zp;rw[fP 10 j,<-cB] at ad;omega
   refine U 0xd39d5f57 ?_;rw[show(T:Int)*10=((T*10:Nat):Int) by omega];refine U 0x31c ?_;refine dN ⟨j+1,T*10⟩ ?_;exact⟨by rw[cB,fP],Zp,amN,I⟩
  ·refine U 0x357 ?_;obtain⟨D,cp⟩:∃D,D=10 ^ (9 -j):=⟨_,rfl⟩;have Rn:D*T=1000000000:=by rw[cp,cB];exact asT I
   have uf:0<D:=by rw[cp];exact vr bI
   have Ih:=aaN (z:=x) (m:=m) I;rw[kp aI] at Ih;have aoL:t<D:=O2 (a:=T) (by rw[Rn,<-cI];exact Z1);have ec:=ud (hR x) (m+1);have l0:=ud (hR x) m;have x3:x / 1000000000 ^ m / D<1000000000000000000:=(ni uf).2 (by
    rw[<-Ih,dP];have:=fq 1000000000000000000 (show t+1<=D from aoL);omega)
   have YY:y / 1000000000 ^ m / D<=x / 1000000000 ^ m / D:=Wk (Wk Fa);refine az.ie rfl fun Se=>?_;refine az.ie rfl fun Mp=>?_;have oC:=Mp _ _ (aj.iE J eP ([.int .u64 (T:Int)],129));have fH:=aj.iE (J.add eP ([.int .u64 (T:Int)],129)) e0 ([.int .i64 ((m+3:Nat):Int)],3);refine U 0x439c0a59 ?_;refine bC (G:=aaM ((dC.mono Se).mono Mp) fH oC I I Rn rfl x3) (h:=?_);rintro v' m' bu hle ⟨aY,rfl,rfl⟩;refine U 0x21 ?_;refine bC (G:=aaM (((e8.mono Se).mono Mp).mono aY) (aY _ _ fH) (aY _ _ oC) I I Rn rfl I) (h:=?_);rintro v' m' cZ hle ⟨bG,rfl,rfl⟩;refine U 0x1abe042 ?_;refine bp ?_;exact⟨((Se.trans Mp).trans aY).trans bG,rfl,_,_,rfl,x3,aqd (t2:=0) Fa uf⟩
theorem avh{X Y A B:Nat}(ft:X<1000000000000000000)(a9:w9 (X:Int) (Y:Int) (A:Int) (B:Int)):Fn (aU Q g0) 142 [.int .i64 (X:Int),.int .i64 (Y:Int)] [] J (fun u m' af=>(∃w x y z:Int,u=.tuple #[.int .i64 w,.int .i64 x,.int .i64 y,.int .i64 z]/\(-1000000000<w/\w<1000000000/\-1000000000<x/\x<1000000000/\-1000000000<y/\y<1000000000/\-1000000000<z/\z<1000000000)/\(x≠0->∃P R:Nat,w*A+x*B=(P:Int)/\y*A+z*B=(R:Int)/\R<P/\P<=B/\Nat.gcd P R=Nat.gcd A B))/\m'=[]/\J=af):=by
 have jk:=a9.ab;have qc:=a9.nE;refine Fn.b5 (b2 Tryz.func142) rfl rfl fun H=>?_;refine U 0xc08421670210859 ?_;refine c4 [0,1,4,5,6,7] ?_;refine a2 ?_;refine' az.lb 6 (fun(bK:(Int)×(Int)×(Int)×(Int))=>match bK with|(w,x,y,z)=>⟨[(4,.int .i64 w),(5,.int .i64 x),(6,.int .i64 y),(7,.int .i64 z)],[],J,(-1000000000<w/\w<1000000000/\-1000000000<x/\x<1000000000/\-1000000000<y/\y<1000000000/\-1000000000<z/\z<1000000000)/\(x≠0->∃P R:Nat,w*A+x*B=(P:Int)/\y*A+z*B=(R:Int)/\R<P/\P<=B/\Nat.gcd P R=Nat.gcd A B)⟩) ?xE ?xL
 case xE=>
  refine az.block ?_;refine c3 [(0,.int .i64 (X)),(1,.int .i64 (Y)),(4,.int .i64 (1)),(5,.int .i64 (0)),(6,.int .i64 (0)),(7,.int .i64 (1))] ?_;refine a2 ?_;refine' az.bH (fun(bK:Int×Int×Int×Int×Int×Int×Bool)=>match bK with|(a,b,w,x,y,z,e)=>⟨[(0,.int .i64 a),(1,.int .i64 b),(4,.int .i64 w),(5,.int .i64 x),(6,.int .i64 y),(7,.int .i64 z)],[],J,pL X Y A B a b w x y z e/\(-1000000000<w/\w<1000000000/\-1000000000<x/\x<1000000000/\-1000000000<y/\y<1000000000/\-1000000000<z/\z<1000000000),(b+y).toNat⟩) ⟨X,Y,1,0,0,1,false⟩ ?hs ?a7
  case hs=>exact⟨pL.start a9,by decide⟩
  case a7=>
   rintro⟨a,b,w,x,y,z,e⟩ hinv;try simp only at hinv
   obtain⟨e1,p4⟩:=hinv;have b1:=e1.b1;have df:=e1.df;have ef:=e1.ef;have e9:=e1.e9;have r4:=e1.top;have EZ:=e1.U6;obtain⟨wc,qa⟩:=e1.aqq a9;refine c4 [0,1,4,5,6,7] ?_;refine a2 ?_;refine' az.en 0 [(20,.bool (decide ((b+y≠0/\b+z≠0))))] ?nj ?nl;case nj=>
    refine U 0x241843a ?_;refine c0 15 (fun Rd=>?_) fun Rd=>?_
    ·refine U 0x30820c21 ?_;refine di (dk ?_);omega
    ·refine U 0x308def7b ?_;refine di (dk ?_);omega
   case nl=>
    refine a2 ?_;refine If (fun hC=>?_) fun hC=>?_
    ·obtain⟨s1,s2,gN⟩:=aed b1 (show 0<b+y by omega);obtain⟨mM,rk,adr⟩:=aed df (show 0<b+z by omega);obtain⟨aL,n4⟩:∃q,q=(a+w).tdiv (b+y):=⟨_,rfl⟩;obtain⟨aG,n5⟩:∃q,q=(a+x).tdiv (b+z):=⟨_,rfl⟩;rw[<-n4] at s1 s2 gN;rw[<-n5] at mM rk adr;have aAL:aL<=a+w:=by
       have:=w7 (show 1<=b+y by omega) gN;omega
     have aAN:aG<=a+x:=by
       have:=w7 (show 1<=b+z by omega) adr;omega
     refine U 0x78c2118439d5f57 ?_;rw[show IntKind.i64.wrap ((a+w).tdiv (b+y))=aL from by rw[<-n4];exact wrap_i64 I I];refine U 0x3c6108c210e702 ?_;rw[show IntKind.i64.wrap ((a+x).tdiv (b+z))=aG from by rw[<-n5];exact wrap_i64 I I];refine U 0x5f04 ?_;refine If (fun iP=>?_) fun iP=>?_
     ·refine U 0x357 ?_;refine fG ⟨w,x,y,z⟩ ?_;exact⟨I,fun aa=>e1.out a9 aa⟩
     ·obtain rfl:aL=aG:=I
      obtain⟨cW,eE,mF,tc,wE,I',TH,TI⟩:=e1.kU a9 s1 mM gN I I;have azk:a -aL*b+(w -aL*y)<b+y:=by
        rw[nO] at s1;rw[ry,sr,nO] at s2;omega
      refine U 0x439c08431842118c210e757 ?_;refine' W.step rfl (Exec.val rfl rfl (F4 rfl rfl ?hw) ?_);case hw=>exact wrap_i64 I I
      refine U 0x21 ?_;refine' W.step rfl (Exec.val rfl rfl (F4 rfl rfl ?hw) ?_);case hw=>exact wrap_i64 I I
      refine' W.step rfl (Exec.val rfl rfl (aws rfl rfl rfl rfl rfl rfl rfl) ?_);refine U 0x5f04 ?_;refine If (fun o7=>?_) fun o7=>?_
      ·refine U 0x357 ?_;refine fG ⟨w,x,y,z⟩ ?_;exact⟨I,fun aa=>e1.out a9 aa⟩
      ·refine U 0x30210c6108439c0842104210e757 ?_;refine dN ⟨b,a -aL*b,y,z,w -aL*y,x -aL*z,!e⟩ ?_ (hk:=by exact(show(a -aL*b+(w -aL*y)).toNat<(b+y).toNat by omega));exact⟨e1.next a9 s1 s2 mM rk gN,I⟩
    ·refine U 0x357 ?_;refine fG ⟨w,x,y,z⟩ ?_;exact⟨I,fun aa=>e1.out a9 aa⟩
 case xL=>
  rintro⟨w,x,y,z⟩ hinv;try simp only at hinv
  obtain⟨p4,oJ⟩:=hinv;refine U 0xd5f021084108439 ?_;refine'⟨.inr rfl,rfl,_,[],.tmp rfl (.tmp rfl (.tmp rfl (.tmp rfl .nil))),i' _,⟨⟨_,_,_,_,rfl,p4,oJ⟩,rfl,rfl⟩⟩
end
theorem tdiv_cases(T:Int):T.tdiv 1000000000*1000000000+T.tmod 1000000000=T/\(0<=T->0<=T.tmod 1000000000/\T.tmod 1000000000<1000000000)/\(T<=0->T.tmod 1000000000<=0/\-1000000000<T.tmod 1000000000):=by
 refine⟨by have:=Int.tdiv_mul_add_tmod T 1000000000;omega,fun h=>?_,fun h=>?_⟩
 ·rw[afy h];omega
 ·have ad:T.tmod 1000000000=-((-T) % 1000000000):=by
   have:=Int.neg_tmod (-T) 1000000000;rw[Int.neg_neg] at this;rw[this,afy (show 0<=-T by omega)]
  rw[ad];omega
section
variable {Q:c7 Tryz.prog}{g0:Nat}{J:aj}
theorem aby{v w:Value}{A B P:Nat}{x y:Int}(aa:cS J v A)(ap:cS J w B)(g4:(ag A).length<=100000)(HK:(ag B).length<=(ag A).length)(dW:-1000000000<x)(fi:x<1000000000)(hz:-1000000000<y)(iX:y<1000000000)(cI:x*A+y*B=(P:Int))(ay2:P<=A):Fn (aU Q g0) 145 [v,w,.int .i64 x,.int .i64 y] [] J (Gx J P):=by
 have dC:=aa;have e8:=ap;obtain⟨a',bb,rfl,aL⟩:=aa.bA;obtain⟨bf,br,rfl,aG⟩:=ap.bA;refine Fn.b5 (b2 Tryz.func145) rfl rfl fun H=>?_;refine U 0xa1ce059 ?_;refine' W.step rfl (.of (nf rfl rfl rfl rfl rfl (eW rfl) ?aR ?ad ?ae fun vz=>?_));case aR=>exact ck
 case ad=>exact ck
 case ae=>exact ck
 refine U 0x302 ?_;rw[show((ag A).length:Int).toNat=(ag A).length by omega,zero_num];refine U 0x357c04a1ce059 ?_;refine c3 [(18,.int .i64 ((0):Int)),(10,.int .i64 (0)),(0,_),(1,_),(2,_),(3,_),(9,_),(17,_)] ?_;refine a2 ?_;refine' az.bH (fun(bK:Nat×Int×(List Nat))=>match bK with|(i,c,z)=>⟨[(18,.int .i64 (i:Int)),(10,.int .i64 c)],[eO .u32 78 vz z],J,i<=(ag A).length/\-3000000000<=c/\c<=3000000000/\z.length=(ag A).length/\dU z/\(aK (z.take i):Int)+((1000000000 ^ i:Nat):Int)*c=x*(aK ((ag A).take i):Int)+y*(aK ((ag B).take i):Int),(ag A).length -i⟩) ⟨0,0,List.replicate (ag A).length 0⟩ ?hs ?a7
 case hs=>exact⟨c5 _,by decide,by decide,kE,FG,by rw[fO,fO,fO];show((0:Nat):Int)+_*0=x*((0:Nat):Int)+y*((0:Nat):Int);omega⟩
 case a7=>
  rintro⟨i,c,z⟩ hinv;try simp only at hinv
  obtain⟨ak,p5,gm,aM,bn,av⟩:=hinv;refine U 0xbe099 ?_;refine If (fun sF=>?_) fun sF=>?_
  ·obtain⟨sD,eF,oz,ex,rfl,lj,lp⟩:=dC.at (rc I);obtain⟨a,aF,TR,la⟩:=lp i I;obtain⟨Gy,RB⟩:∃Gy,Gy=x*(a:Int):=⟨_,rfl⟩;have aza:Gy<=1000000000*1000000000:=by
    have ad:=OE (show x<=1000000000 by omega) (pI a);omega
   have YV:-(1000000000*1000000000)<=Gy:=by
    have ad:=OE (show -1000000000<=x by omega) (pI a);omega
   have ql:=ud (hR B) i;obtain⟨DT,L'⟩:∃DT,DT=y*(((ag B).getD i 0:Nat):Int):=⟨_,rfl⟩;have YX:DT<=1000000000*1000000000:=by
    have ad:=OE (show y<=1000000000 by omega) (pI ((ag B).getD i 0));omega
   have azc:-(1000000000*1000000000)<=DT:=by
    have ad:=OE (show -1000000000<=y by omega) (pI ((ag B).getD i 0));omega
   obtain⟨T,cB⟩:∃T,T=Gy+c+DT:=⟨_,rfl⟩;obtain⟨EI,v8,Zb⟩:=tdiv_cases T;obtain⟨DS,YS⟩:∃DS,DS=T.tdiv 1000000000:=⟨_,rfl⟩;rw[<-YS] at EI;refine U 0x30428439c08611b92608439c0839d5f57 ?_;refine c4 [12,33,0,1,2,3,9,11,17,18] ?_;refine a2 ?_;refine' az.en 2 [(12,.int .i64 T)] ?ah' ?ajs;case ah'=>
    refine If (fun ow=>?_) fun ow=>?_
    ·obtain⟨DY,hX,tS,qU,rfl,ED,oL⟩:=e8.at (rc I);obtain⟨p,aw,An,bH⟩:=oL i I;have azd:y*(p:Int)=DT:=by rw[L',kp aw]
     refine U 0xc0863724c108439 ?_;refine'⟨⟨_,rfl,⟨?Ak,rfl,rfl,rfl,rfl,rfl,rfl,rfl,rfl,trivial⟩⟩,iZ _,rfl⟩;case Ak=>exact cC some (cC (Value.int .i64) (by rw[cB,L',kp aw,RB]))
    ·refine hx ?_;refine'⟨⟨_,rfl,⟨?Ak,rfl,rfl,rfl,rfl,rfl,rfl,rfl,rfl,trivial⟩⟩,iZ _,rfl⟩;case Ak=>(exact cC some (cC (Value.int .i64) (by rw[cB,L',p0 (l:=ag B) I,RB];omega)))
   case ajs=>
    refine U 0x1813c39 ?_;rw[show IntKind.i64.wrap (T.tdiv 1000000000)=DS from by rw[<-YS];exact wrap_i64 I I];refine U 0x318439 ?_;rw[show T -DS*1000000000=T.tmod 1000000000 by omega];refine U 0x3040e702 ?_;refine c4 [10,12,50,0,1,2,3,9,11,17,18] ?_;refine a2 ?_;refine' az.lb 3 (fun(bK:(Nat)×(Int))=>match bK with|(d9,ep)=>⟨[(12,.int .i64 (d9:Int)),(10,.int .i64 ep)],[eO .u32 78 vz z],J,d9<1000000000/\(d9:Int)+1000000000*ep=T/\-3000000000<=ep/\ep<=3000000000⟩) ?aie ?ajx
    case aie=>
     refine If (fun sH=>?_) fun sH=>?_
     ·refine U 0x3021873810c39 ?_;refine fG ⟨(T.tmod 1000000000+1000000000).toNat,DS -1⟩ ?_;exact⟨I,I,I,I⟩
     ·refine hx ?_;refine fG ⟨(T.tmod 1000000000).toNat,DS⟩ ?_;exact⟨I,I,I,I⟩
    case ajx=>
     rintro⟨d9,ep⟩ hinv;try simp only at hinv
     obtain⟨amh,ami,amf,amg⟩:=hinv;refine U 0xce08439 ?_;refine' iN ?hs ?_;case hs=>exact mf i I
     refine U 0x1808f38 ?_;refine dN ⟨i+1,ep,z.set i d9⟩ ?_;exact⟨I,amf,amg,by rw[im];exact aM,Ap bn amh,aqZ I (kp aF) rfl av (by rw[ami,cB,L',RB])⟩
  ·obtain rfl:i=(ag A).length:=I
   rw[<-aM,cU (bU _),aM,cU (l:=ag A) (bU _),cU (l:=ag B) HK,g',g',cI] at av;have mv:aK z=P:=by
    have ad:=ly bn;rw[aM] at ad;have ae:=oN (x:=A) (bU _);generalize azL:1000000000 ^ (ag A).length=wS at*;rcases Int.lt_trichotomy c 0 with k|k|k
    ·have:=w7 (show c<=-1 by omega) (pI wS)
     rw[KD,OF] at this;omega
    ·rw[k,VV] at av;omega
    ·have:=w7 (show 1<=c by omega) (pI wS)
     omega
   refine U 0xe757 ?_;refine' W.step rfl (Exec.call rfl rfl rfl rfl rfl rfl rfl (bm:=[eO .u32 78 vz z]) (cN:=[]) (.refl _) trivial (M5 (l:=z) bn I (bU _) I) ?_);rintro v' m' af hle ⟨k,rfl,hk,hg,rfl,rfl⟩;refine U 0x302 ?_;refine az.ie rfl fun aY=>?_;refine U 0x357 ?_;refine bp ?_;exact⟨aY,rfl,cS.row (by rw[hg,<-aM,cU (bU _),mv]) I hk (mu I) (aj.iE _ _ _)⟩
theorem aqo{v w:Value}{x y:Nat}{e:TypeId}(cB:J 2=some (cj .u8 qC,e))(ay:Nat.blt 2 (aU Q g0).g0=true)(aa:cS J v x)(ap:cS J w y)(g4:(ag x).length<=100000)(jL:(ag y).length<=100000):Fn (aU Q g0) 126 [v,w] [] J (Gx J (Nat.gcd x y)):=by
 have dC:=aa;have e8:=ap;obtain⟨a',bb,rfl,aL⟩:=aa.bA;obtain⟨bf,br,rfl,aG⟩:=ap.bA;refine Fn.b5 (b2 Tryz.func126) rfl rfl fun H=>?_;refine U 0x6059 ?_;refine c4 [0,1] ?_;refine a2 ?_;refine' az.en 0 [(20,.bool (decide (((ag x).length<=2/\(ag y).length<=2))))] ?jh ?ji;case jh=>
  refine U 0x12143a ?_;refine c0 16 (fun g2=>?_) fun g2=>?_
  ·refine U 0x18410a1 ?_;refine di (dk ?_);omega
  ·refine U 0x1846f7b ?_;refine di (dk ?_);omega
 case ji=>
  refine a2 ?_;refine If (fun hC=>?_) fun hC=>?_
  ·have Kk:=oN hC.1;have axk:=oN hC.2;have j6:Nat.gcd x y<1000000000000000000:=by
    rcases jq x with k|k
    ·rw[k,OZ];omega
    ·exact mU (KT k (lE _ _)) I
   refine U 0x39 ?_;refine bC (G:=F' dC hC.1) (h:=?_);rintro v' m' af hle ⟨rfl,rfl,rfl⟩;refine eZ V.kK ?_;refine bC (G:=F' e8 hC.2) (h:=?_);rintro v' m' af hle ⟨rfl,rfl,rfl⟩;refine bC (G:=PO cB ay I I) (h:=?_);rintro v' m' af hle ⟨rfl,rfl,rfl⟩;refine bC (G:=Ty j6) (h:=?_);rintro v' m' bu hle ⟨aY,rfl,hw⟩;obtain⟨bV,cc,rfl,bt⟩:=hw.bA;refine U 0xd5f02 ?_;refine bp ?_
   exact⟨aY,rfl,hw⟩
  ·refine hx ?_;refine c4 [0,1] ?_;refine a2 ?_;refine' az.en 0 [(32,.bool (decide ((x=1\/y=1))))] ?G6 ?Hi;case G6=>
    refine U 0x3a ?_;refine bC (G:=Tz dC g4) (h:=?_);rintro v' m' af hle ⟨rfl,rfl,rfl⟩;refine eZ V.kK ?_;refine c0 29 (fun Re=>?_) fun Re=>?_
    ·refine U 0xc23fb ?_;refine di (dk ?_);omega
    ·refine KX V.kK ?_;refine xB (G:=Tz e8 jL) (h:=?_);rintro v' m' af hle ⟨rfl,rfl,rfl⟩;refine U 0x308 ?_;refine di (dk ?_);omega
   case Hi=>
    refine a2 ?_;refine If (fun Bd=>?_) fun Bd=>?_
    ·refine rg ?_;refine bC (G:=aqA) (h:=?_);rintro v' m' bu hle ⟨aY,rfl,hw⟩;obtain⟨bV,cc,rfl,bt⟩:=hw.bA;refine U 0xd5f02 ?_;refine bp ?_
     exact⟨aY,rfl,by
      have e:Nat.gcd x y=1:=by
        rcases Bd with rfl|rfl
        ·exact Nat.gcd_one_left _
        ·exact Nat.gcd_one_right _
      rw[e];exact hw⟩
    ·refine U 0x10e757 ?_;refine bC (G:=aaG dC e8 g4 jL) (h:=?_);rintro v' m' af hle ⟨rfl,rfl,rfl⟩;refine U 0x304 ?_;refine c4 [0,1,37] ?_;refine a2 ?_;refine' az.lb 3 (fun(bK:(Value)×(Value)×(Nat)×(Nat))=>match bK with|(iz,kP,a,b)=>⟨[(0,iz),(1,kP)],[],J,cS J iz a/\cS J kP b/\b<=a/\(ag a).length<=100000/\Nat.gcd a b=Nat.gcd x y⟩) ?Qd ?Qv
     case Qd=>
      refine If (fun vH=>?_) fun vH=>?_
      ·
        refine U 0x30210439 ?_;refine fG ⟨.slice bf (ag y).length br,.slice a' (ag x).length bb,y,x⟩ ?_;exact⟨e8,dC,by have:=sI.1 vH;omega,jL,pO _ _⟩
      ·
        refine hx ?_;refine fG ⟨.slice a' (ag x).length bb,.slice bf (ag y).length br,x,y⟩ ?_;exact⟨dC,e8,sv fun h=>vH (sI.2 h),g4,rfl⟩
     case Qv=>
      rintro⟨iz,kP,a,b⟩ hinv;try simp only at hinv
      obtain⟨eS,ea,oE,la,ch⟩:=hinv;refine U 0x357 ?_;refine c3 [(0,(iz)),(1,(kP))] ?_;refine a2 ?_;refine' az.bH (fun(bK:Value×Value×Nat×Nat×aj)=>match bK with|(iz,kP,a,b,cq)=>⟨[(0,iz),(1,kP)],[],cq,J.le cq/\cS cq iz a/\cS cq kP b/\b<=a/\(ag a).length<=100000/\Nat.gcd a b=Nat.gcd x y,b⟩) ⟨iz,kP,a,b,J⟩ ?hs ?a7
      case hs=>exact⟨aj.le.refl _,eS,ea,oE,la,ch⟩
      case a7=>
        rintro⟨iz,kP,a,b,cq⟩ hinv;try simp only at hinv
        obtain⟨cA,eS,ea,oE,la,ch⟩:=hinv;have hU:=eS;have h5:=ea;obtain⟨fs,gl,rfl,fU⟩:=eS.bA;obtain⟨fb,eo,rfl,ih⟩:=ea.bA;have ql:=cX (yy oE) la;refine U 0x2f821439 ?_;refine If (fun Bf=>?_) fun Bf=>?_
        ·obtain⟨m,hm⟩:∃m,(ag a).length=m+3:=⟨(ag a).length -3,by have:=yy oE;omega⟩;have H3:0<b:=tE (rc I);refine hx ?_;refine c4 [0,1] ?_;refine a2 ?_;refine' az.lb 2 (fun(bK:(Value)×(Value)×(Nat)×(Nat)×(aj))=>match bK with|(za,hy,b0,b',kD)=>⟨[(0,za),(1,hy)],[],kD,cq.le kD/\cS kD za b0/\cS kD hy b'/\b'<b0/\b0<=a/\b'<b/\Nat.gcd b0 b'=Nat.gcd a b⟩) ?aiw ?ajB
         case aiw=>
          refine U 0x873a ?_;refine bC (G:=aqc hU h5 hm I oE) (h:=?_);rintro v' m' bu hle ⟨aY,rfl,X,Y,rfl,x3,HW⟩;refine U 0xe7 ?_;refine bC (G:=avh x3 HW) (h:=?_);rintro v' m' af hle ⟨⟨w,aBj,aBl,z,rfl,p4,dB⟩,rfl,rfl⟩;refine U 0x5f040e7021084739ce1 ?_;refine If (fun D8=>?_) fun D8=>?_
          ·refine U 0x439 ?_;refine bC (G:=aaL (hU.mono aY) (h5.mono aY) la ql I) (h:=?_);rintro v' m' cZ bG ⟨_,rfl,Ga,wr,rfl,s7,q8⟩;refine U 0x357c08410e70211ce1 ?_;refine fG ⟨.slice fb (ag b).length eo,wr,b,a % b,cZ⟩ ?_;exact⟨aY.trans bG,(h5.mono aY).mono bG,q8,gA _ H3,oE,gA _ H3,by rw[pO,<-DM,pO]⟩
          ·obtain⟨P,R,m7,r2,ye,s4,aow⟩:=dB I;refine U 0x4210e757 ?_;refine bC (G:=aby (hU.mono aY) (h5.mono aY) la (yy oE) I I I I m7 I) (h:=?_);rintro v' m' cZ hle ⟨bG,rfl,IN⟩;obtain⟨u',rfl⟩:∃u',u'=v':=⟨_,rfl⟩;refine U 0x8421 ?_;refine bC (G:=aby ((hU.mono aY).mono bG) ((h5.mono aY).mono bG) la (yy oE) I I I I r2 I) (h:=?_);rintro v' m' gi hle ⟨cR,rfl,wq⟩;obtain⟨wf,rfl⟩:∃wf,wf=v':=⟨_,rfl⟩;refine U 0x6042 ?_;refine fG ⟨u',wf,P,R,gi⟩ ?_;exact⟨(aY.trans bG).trans cR,IN.mono cR,wq,ye,cX s4 oE,iM ye s4,aow⟩
         case ajB=>
          rintro⟨za,hy,b0,b',kD⟩ hinv;try simp only at hinv
          obtain⟨oD,hM,cp,cD,hle,anX,BL⟩:=hinv;have hlen:=cX (yy hle) la;refine dN ⟨za,hy,b0,b',kD⟩ ?_;exact⟨cA.trans oD,hM,cp,vq cD,hlen,BL.trans ch⟩
        ·refine U 0xbe0850e757 ?_;refine If (fun zC=>?_) fun zC=>?_
         ·have gL:b=0:=jD fun q=>wC q I;rw[gL,Gs] at ch;refine U 0x39 ?_;refine bC (G:=aaI hU la) (h:=?_);rintro v' m' bu hle ⟨aY,rfl,hw⟩;obtain⟨bV,cc,rfl,bt⟩:=hw.bA;refine U 0xd5f02 ?_;refine bp ?_
          exact⟨cA.trans aY,rfl,by rw[<-ch];exact hw⟩
         ·have gL:b≠0:=rc I;have kr:=oN (x:=b) (k:=2) I;have x':a % b<b:=gA _ (tE gL);have j6:Nat.gcd b (a % b)<1000000000000000000:=mU (KT (tE gL) (lE _ _)) I;have Ia:Nat.gcd b (a % b)=Nat.gcd x y:=by rw[<-ch,pO b,pO a,DM b a]
          refine U 0x10e757 ?_;refine bC (G:=aaL hU h5 la ql gL) (h:=?_);rintro v' m' bu aY ⟨_,rfl,Ga,wr,rfl,s7,q8⟩;refine U 0xe70211ce1 ?_;refine bC (G:=F' (h5.mono aY) I) (h:=?_);rintro v' m' af hle ⟨rfl,rfl,rfl⟩;refine eZ V.kK ?_;refine bC (G:=F' q8 (by have:=yy (vq x');omega)) (h:=?_);rintro v' m' af hle ⟨rfl,rfl,rfl⟩;refine bC (G:=PO (aY _ _ (cA _ _ cB)) ay I I) (h:=?_);rintro v' m' af hle ⟨rfl,rfl,rfl⟩;refine bC (G:=Ty j6) (h:=?_);rintro v' m' cZ hle ⟨bG,rfl,hw⟩;obtain⟨bV,cc,rfl,bt⟩:=hw.bA;refine U 0xd5f02 ?_;refine bp ?_
          exact⟨(cA.trans aY).trans bG,rfl,by rw[<-Ia];exact hw⟩
theorem aaH{v w:Value}{x y:Nat}{e:TypeId}(cB:J 2=some (cj .u8 qC,e))(ay:Nat.blt 2 (aU Q g0).g0=true)(aa:cS J v x)(ap:cS J w y)(g4:(ag x).length<=100000)(jL:(ag y).length<=100000):Fn (aU Q g0) 98 [v,w] [] J (fun u m' af=>u=.bool (decide (Nat.gcd x y=1))/\m'=[]/\J.le af):=by
 have dC:=aa;have e8:=ap;obtain⟨a',bb,rfl,aL⟩:=aa.bA;obtain⟨bf,br,rfl,aG⟩:=ap.bA;refine Fn.b5 (b2 Tryz.func98) rfl rfl fun H=>?_;refine U 0x6059 ?_;refine c4 [0,1] ?_;refine a2 ?_;refine' az.en 0 [(12,.bool (decide (((ag x).length<=2/\(ag y).length<=2))))] ?jh ?ji;case jh=>
  refine U 0x12143a ?_;refine c0 8 (fun g2=>?_) fun g2=>?_
  ·refine U 0x18410a1 ?_;refine di (dk ?_);omega
  ·refine U 0x1846f7b ?_;refine di (dk ?_);omega
 case ji=>
  refine a2 ?_;refine If (fun j3=>?_) fun j3=>?_
  ·have Kk:=oN j3.1;have axk:=oN j3.2;refine U 0x39 ?_;refine bC (G:=F' dC j3.1) (h:=?_);rintro v' m' af hle ⟨rfl,rfl,rfl⟩;refine eZ V.kK ?_;refine bC (G:=F' e8 j3.2) (h:=?_);rintro v' m' af hle ⟨rfl,rfl,rfl⟩;refine bC (G:=PO cB ay I I) (h:=?_);rintro v' m' af hle ⟨rfl,rfl,rfl⟩;refine U 0x1abe044 ?_;refine bp ?_
   exact⟨cC Value.bool (pX.2 I),rfl,aj.le.refl _⟩
  ·refine U 0x10e757 ?_;refine bC (G:=aqo cB ay dC e8 g4 jL) (h:=?_);rintro v' m' bu hle ⟨aY,rfl,hw⟩;have uE:=hw;obtain⟨bV,cc,rfl,bt⟩:=hw.bA;refine bC (G:=Tz uE (by
    rcases jq x with k|k
    ·rw[k,OZ];exact jL
    ·exact cX (yy (KT k (lE _ _))) g4)) (h:=?_)
   rintro v' m' af hle ⟨rfl,rfl,rfl⟩;refine U 0xd5f02 ?_;refine bp ?_
   exact⟨rfl,rfl,aY⟩
end
end
end Go.Opn
