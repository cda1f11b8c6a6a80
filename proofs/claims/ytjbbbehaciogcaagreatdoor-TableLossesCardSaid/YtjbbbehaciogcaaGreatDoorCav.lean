/- A part of the proof of TableLosses. -/
import Derived.Test.YtjbbbehaciogcaaGreatDoorCau
import Derived.Test.YtjbbbehaciogcaaGreatDoorCal
set_option maxRecDepth 100000
set_option maxHeartbeats 8000000
set_option linter.unusedVariables false
set_option linter.unusedSimpArgs false
namespace Go.Opn
noncomputable section
open Go.Cre Go.RowKit Go.Proofs
theorem FC{A D W C:List Nat}{i k off x:Nat}(au:D.length=i)(hk:i<=k)(h:W[k]?=some x)(ah:off=A.length+k):nth (cj .u64 (A++(D++W.drop i)++C)) off=some (.int .u64 (x:Int)):=by
 refine r9 (i:=A.length+k) ?_ ah;rw[Yv au hk (ff.1 h).1];exact h
theorem T3{A W C:List Nat}{k off x:Nat}(h:W[k]?=some x)(ah:off=A.length+k):nth (cj .u64 (A++W++C)) off=some (.int .u64 (x:Int)):=by
 have:=FC (A:=A) (D:=[]) (W:=W) (C:=C) (i:=0) rfl (c5 k) h ah;rwa [kj,gO] at this
theorem JX{A D W C:List Nat}{i y off:Nat}(au:D.length=i)(h:i<W.length)(ah:off=A.length+i):gS off (cj .u64 (A++(D++W.drop i)++C)) [.int .u64 (y:Int)]=some (cj .u64 (A++((D++[y])++W.drop (i+1))++C)):=by
 rw[<-qw au h];exact mf (A.length+i) (by rw[eX,eX,eX,jZ];omega) ah
theorem Aw{W:List Nat}{i:Nat}(ah:okW W)(h:i<W.length):∃u,W[i]?=some u/\u<18446744073709551616:=⟨_,ey h,yK ah (ey h)⟩
section
variable {Q:c7 Tryz.prog}{g0:Nat}{J:aj}
theorem avg{a n cap:Nat}{v:Value}{A ww C vs:List Nat}(av:c9 .u64 J v vs)(mc:vs.length=n+2)(pq:okW vs)(x2:ww.length=n+3)(n':okW ww)(rY:n<=100000)(pd:n+3<=cap)(am':cap<1000000)(eS:A.length<=1000000)
 (q6:∀v1,vs[n+1]?=some v1->9223372036854775808<=v1)(cD:a5 ww<18446744073709551616*a5 vs):
 Fn (aU Q g0) 134 [.slice (some ⟨a,A.length,none⟩) (n+3) cap,v] [eO .u64 129 a (A++ww++C)] J (fun u m' af=>∃zd,u=.int .u64 ((a5 ww / a5 vs:Nat):Int)/\m'=[eO .u64 129 a (A++zd++C)]/\zd.length=n+3/\okW zd/\a5 zd=a5 ww % a5 vs/\a5 ww / a5 vs<18446744073709551616/\J=af):=by
 obtain⟨bv,lH,rfl⟩:=av.form;obtain⟨qL,JK,GZ,vS,rfl,amx,yj⟩:=av.lt pq I;obtain⟨bT,pi,aqR⟩:=Aw n' (i:=n+2) I;obtain⟨u1,E0,Fs⟩:=Aw n' (i:=n+1) I;obtain⟨bB,Ad,CD⟩:=Aw n' (i:=n) I;obtain⟨v1,ln,Jt,I8⟩:=yj (n+1) I;obtain⟨v0,E2,Js,CE⟩:=yj n I;have avX:=q6 v1 ln;have Cw:=apY x2 mc n' pq pi E0 Ad ln E2;have arF:nth (cj .u64 (A++ww++C)) (A.length+((n+2:Nat):Int).toNat*1)=some (.int .u64 (bT:Int)):=T3 pi I;have arE:nth (cj .u64 (A++ww++C)) (A.length+(((n+2:Nat):Int) -1).toNat*1)=some (.int .u64 (u1:Int)):=T3 E0 I;have arD:nth (cj .u64 (A++ww++C)) (A.length+(((n+2:Nat):Int) -2).toNat*1)=some (.int .u64 (bB:Int)):=T3 Ad I;have Jt:nth GZ (JK+(((n+2:Nat):Int) -1).toNat*1)=some (.int .u64 (v1:Int)):=by rw[show(((n+2:Nat):Int) -1).toNat=n+1 by omega];exact Jt
 have Js:nth GZ (JK+(((n+2:Nat):Int) -2).toNat*1)=some (.int .u64 (v0:Int)):=by rw[show(((n+2:Nat):Int) -2).toNat=n by omega];exact Js
 have zU:0<a5 vs:=by
  have e:=lz ln;rw[cU (show vs.length<=n+1+1 by omega)] at e;have:0<18446744073709551616 ^ (n+1)*v1:=jr (vr bI) I;omega
 rw[mc];refine Fn.b5 (b2 Tryz.func134) rfl rfl fun H=>?_;refine U 0xbe059c08a1ce059 ?_;refine az.draw rfl (by kernel_rfl) (a1:=[.val 0,.val 1,.val 2,.val 3,.val 4,.val 5,.val 6,.val 7,.val 8,.val 9]) (by kernel_rfl) ?_;refine U 0x608930c2149821 ?_;refine c4 [6,31,0,1,5] ?_;refine a2 ?_;refine' az.lb 2 (fun(g:Nat)=>⟨[(6,.int .u64 (g:Int))],[eO .u64 129 a (A++ww++C)],J,g<18446744073709551616/\a5 ww<(g+1)*a5 vs⟩) ?Qc ?Qu;case Qc=>
  refine If (fun o6=>?_) fun o6=>?_
  ·refine U 0x6059 ?_;obtain⟨hZ,s3⟩:∃q,q=(bT*18446744073709551616+u1) / v1:=⟨_,rfl⟩;obtain⟨jR,cT⟩:∃r,r=(bT*18446744073709551616+u1) % v1:=⟨_,rfl⟩;have hm:hZ*v1+jR=bT*18446744073709551616+u1:=by rw[s3,cT,dP];exact mT _ v1
   have ZT:jR<v1:=by rw[cT];exact gA _ I
   have eB:a5 ww<(hZ+1)*a5 vs:=Cw.start CD (by rw[c6,jb];omega);have Iy:hZ<18446744073709551616:=by
    rw[s3];exact(ni I).2 (by
        have:=fq 18446744073709551616 (show bT+1<=v1 by omega);rw[c6,dP v1] at this;omega)
   refine a2 ?_;refine az.draw rfl (by kernel_rfl) (a1:=[.val 0,.val 1,.val 2,.val 3,.val 4,.val 5,.val 6,.val 7,.val 8,.val 9,.val 10,.val 11,.val 12,.val 13,.bE 14,.val 15,.val 16,.val 17,.val 18,.val 19]) (by kernel_rfl) ?_;refine U 0x1261842930c2149821 ?_;refine dl rfl (G:=Qr I Fs I8) (h:=?_);rintro v' m' af hle ⟨rfl,rfl,rfl⟩;rw[<-s3,<-cT];refine U 0x30211ce1 ?_;refine c4 [6,7,0,1,5] ?_;refine a2 ?_;refine' az.lb 2 (fun(b4:Nat)=>⟨[(6,.int .u64 (b4:Int))],[eO .u64 129 a (A++ww++C)],J,b4<18446744073709551616/\a5 ww<(b4+1)*a5 vs⟩) ?xE ?xL;case xE=>
    refine az.block ?_;refine c3 [(6,.int .u64 ((hZ):Int)),(7,.int .u64 ((jR):Int)),(0,_),(1,_),(5,_)] ?_;refine a2 ?_;refine' az.kv (fun(bK:Nat×Nat)=>match bK with|(g,r)=>⟨[(6,.int .u64 (g:Int)),(7,.int .u64 (r:Int))],g<18446744073709551616/\r<18446744073709551616/\g*v1+r=bT*18446744073709551616+u1/\a5 ww<(g+1)*a5 vs,g⟩) ⟨hZ,jR⟩ ?hs ?a7
    case hs=>exact⟨Iy,I,hm,eB⟩
    case a7=>
     rintro⟨g,r⟩ hinv;try simp only at hinv
     obtain⟨j6,z',z1,v9⟩:=hinv;refine U 0x930c210e757 ?_;refine bC (G:=Fx j6 CE) (h:=?_);rintro v' m' af hle ⟨rfl,rfl,rfl⟩;obtain⟨P,cI⟩:∃P,P=g*v0:=⟨_,rfl⟩;rw[<-cI];have sT:=Jh j6 CE;rw[<-cI] at sT;refine U 0x30211ce1 ?_;refine c4 [8,9,0,1,5,6,7] ?_;refine a2 ?_;refine' az.en 2 [(76,.bool (decide ((P<=r*18446744073709551616+bB))))] ?xH ?xN;case xH=>
      refine U 0x12043a ?_;refine c0 63 (fun Rg=>?_) fun Rg=>?_
      ·
        refine U 0x308def7bdef7bdef7b ?_;refine di (dk ?_);omega
      ·
        refine U 0x9021 ?_;refine c0 67 (fun al6=>?_) fun al6=>?_
        ·refine U 0x3084112618421 ?_;refine di (dk ?_);omega
        ·refine U 0x30846f7bdef7b ?_;refine di (dk ?_);omega
     case xN=>
      refine a2 ?_;refine If (fun zC=>?_) fun zC=>?_
      ·
        refine U 0x357 ?_;refine fG (g) ?_;exact⟨j6,v9⟩
      ·
        have EU:a5 ww<g*a5 vs:=Cw.more z1 I;have oG:1<=g:=by
         rcases jq g with k|k
         ·rw[k,jE] at EU;omega
         ·exact k
        refine U 0x1810d2618421ce0430e757 ?_;rw[show IntKind.u64.wrap ((r:Int)+(v1:Int))=(((r+v1) % 18446744073709551616:Nat):Int) from Oq (r+v1)];refine U 0x2f8224c308439 ?_;refine If (fun ahA=>?_) fun ahA=>?_
        ·refine U 0x357 ?_;refine fG (g -1) ?_;exact⟨I,by rw[zp oG];exact EU⟩
        ·rw[show(r+v1) % 18446744073709551616=r+v1 by omega];refine hx ?_;refine kx ⟨g -1,r+v1⟩ ?_;exact⟨I,I,by
            obtain⟨p,rfl⟩:∃p,g=p+1:=⟨g -1,I⟩;rw[c6,jb] at z1;rw[oo];omega,by rw[zp oG];exact EU⟩
   case xL=>
    rintro b4 hinv;try simp only at hinv
    have oG:=hinv;refine fG (b4) ?_;exact oG
  ·refine hx ?_;refine fG (18446744073709551615) ?_;exact⟨by decide,Cw.aqQ cD CD CE I Fs⟩
 case Qu=>
  rintro g hinv;try simp only at hinv
  obtain⟨j6,v9⟩:=hinv;refine U 0x6af809439c0859 ?_;refine c3 [(95,.int .i64 ((0):Int)),(10,.int .u64 ((0):Int)),(11,.int .u64 ((0):Int)),(0,_),(1,_),(5,_),(6,_),(93,_),(94,_)] ?_;refine a2 ?_;refine' az.bH (fun(bK:Nat×Nat×Nat×(List Nat))=>match bK with|(i,c,b,D)=>⟨[(95,.int .i64 (i:Int)),(10,.int .u64 (c:Int)),(11,.int .u64 (b:Int))],[eO .u64 129 a (A++(D++ww.drop i)++C)],J,i<=n+2/\c<18446744073709551616/\b<=1/\D.length=i/\okW D/\a5 D+g*a5 (vs.take i)=a5 (ww.take i)+18446744073709551616 ^ i*(c+b),n+2 -i⟩) ⟨0,0,0,[]⟩ ?hs ?a7
  case hs=>exact⟨c5 _,by decide,by decide,rfl,Jw,by rw[fO,fO];rfl⟩
  case a7=>
   rintro⟨i,c,b,D⟩ hinv;try simp only at hinv
   obtain⟨ak,aC,ai,cp,bn,k4⟩:=hinv;refine U 0xbe099 ?_;refine If (fun ahC=>?_) fun ahC=>?_
   ·obtain⟨w,hw,T7,lw⟩:=yj i I;obtain⟨u,hu,CC⟩:=Aw n' (i:=i) I;have Jr:nth (cj .u64 (A++(D++ww.drop i)++C)) (A.length+(i:Int).toNat*1)=some (.int .u64 (u:Int)):=FC cp (bU _) hu I;refine U 0x21ce04249839d5f57 ?_;refine bC (G:=Fx j6 lw) (h:=?_);rintro v' m' af hle ⟨rfl,rfl,rfl⟩;obtain⟨P,cI⟩:∃P,P=g*w:=⟨_,rfl⟩;rw[<-cI];have sT:=Jh j6 lw;rw[<-cI] at sT;refine U 0x87381670211ce1 ?_;refine bC (G:=xm (c:=0) I) (h:=?_);rintro v' m' af hle ⟨rfl,rfl,rfl⟩;rw[show(P % 18446744073709551616+c+0) % 18446744073709551616=(P+c) % 18446744073709551616 by omega];refine U 0x610e70211ce1 ?_;rw[show((P / 18446744073709551616:Nat):Int)+(((P % 18446744073709551616+c+0) / 18446744073709551616:Nat):Int)=(((P+c) / 18446744073709551616:Nat):Int) by omega];refine U 0x429304210e702 ?_;refine bC (G:=N3 ai) (h:=?_);rintro v' m' af hle ⟨rfl,rfl,rfl⟩;refine U 0x31ce1 ?_;refine' iN ?hs ?_;case hs=>exact JX cp I I
    refine U 0x3011e702 ?_;refine dN ⟨i+1,(P+c) / 18446744073709551616,(if u<(P+c) % 18446744073709551616+b then 1 else 0),D++[(u+18446744073709551616 -(P+c) % 18446744073709551616 -b) % 18446744073709551616]⟩ ?_;exact⟨I,I,by split<;>omega,yz cp,Jx bn (gA _ bI),aq7 (lo:=(P+c) % 18446744073709551616) cp hw hu k4 (by rw[<-cI];omega) (by split<;>omega)⟩
   ·obtain rfl:i=n+2:=I
    have Jr:nth (cj .u64 (A++(D++ww.drop (n+2))++C)) (A.length+((n+2:Nat):Int).toNat*1)=some (.int .u64 (bT:Int)):=FC cp (bU _) pi I;refine U 0x429304210e757 ?_;refine bC (G:=N3 ai) (h:=?_);rintro v' m' af hle ⟨rfl,rfl,rfl⟩;refine U 0x31ce1 ?_;refine' iN ?hs ?_;case hs=>exact JX cp I I
    refine U 0x302 ?_;obtain⟨z,aM⟩:∃z,z=(bT+18446744073709551616 -c -b) % 18446744073709551616:=⟨_,rfl⟩;obtain⟨bf,j5⟩:∃bf,bf=(if bT<c+b then 1 else 0):=⟨_,rfl⟩;have oM:z+c+b=bT+18446744073709551616*bf:=by rw[aM,j5];split<;>omega
    have am5:bf<=1:=by rw[j5];split<;>omega
    have wx:z<18446744073709551616:=by rw[aM];exact gA _ bI
    rw[<-aM,<-j5];have p3:=aq8 cp (show ww.length=n+2+1 by omega) mc pi k4 oM;rw[show A++(D++[z]++ww.drop (n+2+1))++C=A++(D++[z])++C by rw[oi (show ww.length<=n+2+1 by omega),hi]];refine U 0x357 ?_;refine c3 [(6,.int .u64 ((g):Int)),(11,.int .u64 ((bf):Int)),(0,_),(1,_),(5,_)] ?_;refine a2 ?_;refine' az.bH (fun(bK:Nat×Nat×(List Nat))=>match bK with|(g,b,Z)=>⟨[(6,.int .u64 (g:Int)),(11,.int .u64 (b:Int))],[eO .u64 129 a (A++Z++C)],J,g<18446744073709551616/\b<=1/\Z.length=n+3/\okW Z/\a5 Z+g*a5 vs=a5 ww+18446744073709551616 ^ (n+3)*b/\a5 ww<(g+1)*a5 vs,g⟩) ⟨g,bf,D++[z]⟩ ?hs ?a7
    case hs=>exact⟨j6,am5,yz cp,Jx bn wx,p3,v9⟩
    case a7=>
     rintro⟨g,b,Z⟩ hinv;try simp only at hinv
     obtain⟨j6,ai,Y0,Ma,p3,v9⟩:=hinv;refine U 0x17c1039 ?_;refine If (fun D7=>?_) fun D7=>?_
     ·obtain rfl:b=1:=I
      have amS:a5 Z<18446744073709551616 ^ (n+3):=by have:=sj Ma;rwa [Y0] at this
      have oG:1<=g:=by
       rcases jq g with k|k
       ·rw[k] at p3;omega
       ·exact k
      have aAw:A++Z++C=A++([]++Z.drop 0)++C:=by rw[kj,gO]
      refine U 0x1810c39d5f57 ?_;rw[show(g:Int) -1=((g -1:Nat):Int) by omega];refine U 0x357c04a1ce059 ?_;refine c3 [(148,.int .i64 ((0):Int)),(17,.int .u64 ((0):Int)),(0,_),(1,_),(5,_),(6,_),(11,_),(146,_),(147,_)] ?_;refine a2 ?_;refine' az.bH (fun(bK:Nat×Nat×(List Nat))=>match bK with|(i,c,D)=>⟨[(148,.int .i64 (i:Int)),(17,.int .u64 (c:Int))],[eO .u64 129 a (A++(D++Z.drop i)++C)],J,i<=n+2/\c<=1/\D.length=i/\okW D/\a5 D+18446744073709551616 ^ i*c=a5 (Z.take i)+a5 (vs.take i),n+2 -i⟩) ⟨0,0,[]⟩ ?hs ?a7
      case hs=>exact⟨c5 _,by decide,rfl,Jw,by rw[fO,fO];rfl⟩
      case a7=>
       rintro⟨i,c,D⟩ hinv;try simp only at hinv
       obtain⟨ak,aC,cp,bn,k4⟩:=hinv;refine U 0xbe099 ?_;refine If (fun ahk=>?_) fun ahk=>?_
       ·obtain⟨w,hw,T7,lw⟩:=yj i I;obtain⟨u,hu,CC⟩:=Aw Ma (i:=i) I;have Jr:nth (cj .u64 (A++(D++Z.drop i)++C)) (A.length+(i:Int).toNat*1)=some (.int .u64 (u:Int)):=FC cp (bU _) hu I;refine U 0x852608421ce04249839d5f57 ?_;refine bC (G:=xm aC) (h:=?_);rintro v' m' af hle ⟨rfl,rfl,rfl⟩;refine U 0x31ce1 ?_;refine' iN ?hs ?_;case hs=>exact JX cp I I
        refine U 0x3011e702 ?_;refine dN ⟨i+1,(u+w+c) / 18446744073709551616,D++[(u+w+c) % 18446744073709551616]⟩ ?_;exact⟨I,I,yz cp,Jx bn (gA _ bI),agv cp hw hu k4⟩
       ·obtain rfl:i=n+2:=I
        obtain⟨y,ap,jL⟩:=Aw Ma (i:=n+2) I;have Jr:nth (cj .u64 (A++(D++Z.drop (n+2))++C)) (A.length+((n+2:Nat):Int).toNat*1)=some (.int .u64 (y:Int)):=FC cp (bU _) ap I;have ZW:=agX p3 amS v9 (agw cp (show Z.length=n+2+1 by omega) mc ap k4) I;refine U 0x29304210e757 ?_;refine bC (G:=xm aC) (h:=?_);rintro v' m' af hle ⟨rfl,rfl,rfl⟩;refine U 0x31ce1 ?_;refine' iN ?hs ?_;case hs=>exact JX cp I I
        refine U 0x610e702 ?_;rw[show IntKind.u64.wrap (((1:Nat):Int) -(((y+0+c) / 18446744073709551616:Nat):Int))=((1 -(y+0+c) / 18446744073709551616:Nat):Int) from by rw[Vo];omega];refine U 0x302 ?_;rw[show A++(D++[(y+0+c) % 18446744073709551616]++Z.drop (n+2+1))++C=A++(D++[(y+0+c) % 18446744073709551616])++C by rw[oi (show Z.length<=n+2+1 by omega),hi]];refine dN ⟨g -1,1 -(y+0+c) / 18446744073709551616,D++[(y+0+c) % 18446744073709551616]⟩ ?_;exact⟨I,I,yz cp,Jx bn (gA _ bI),ZW.2.1,ZW.2.2⟩
     ·obtain rfl:b=0:=I
      rw[js,iD] at p3;obtain⟨ax,aS⟩:=yU (da:=a5 ww) (V:=a5 vs) (g:=g) I v9;refine U 0xd5f020e757 ?_;refine ja ?_;exact⟨Z,by rw[ax];rfl,rfl,Y0,Ma,by rw[aS];omega,by rw[ax];exact j6,rfl⟩
end
section
variable {K:dR}{B:dv}{o:Oper}{n:Nat}{ds:ee}{l:List (Nat×Value)}{m:aN}{J:aj}
theorem aeG{t e:TypeId}{x lo ak:Operand}{dn off k cap sz:Nat}{gz:List Value}{a b:Int}{s' Fk:IntKind}(ah:o.op=.slice t x (some lo) (some ak) none)(aa:bJ l x=some (.slice (some ⟨dn,off,none⟩) k cap))(aI:mN K.P t=some (e,sz,gz))(hQ:bJ l lo=some (.int Fk a))(lO:bJ l ak=some (.int s' b))(aR:0<=a)(ad:a<=b)(ae:b<=cap)(aD:a<cap)(aC:cap<1000000):cY K B o n ds l m J (.slice (some ⟨dn,off+a.toNat*sz,none⟩) (b -a).toNat (cap -a.toNat)):=by
 have RO:cap<cO:=mu aC;obtain⟨hu,eb,_⟩:=u0 aI;intro call aJ S H al aB;obtain⟨CQ,r',sb⟩:=xw (l5:=k) (top:=cap) (dl:=(k:Int)) (i:=b) (x:=some ak) al H (by unfold vE;simp only[lO]) I ae rfl;obtain⟨ol,Jy,yL⟩:=xw (l5:=0) (top:=b.toNat) (dl:=0) (i:=a) (x:=some lo) al H (by unfold vE;simp only[hQ]) aR I rfl;unfold cz e4;simp only[ah];show nF K.P _ t (a3 S.T H x) (iy S.T H (some lo)) (iy S.T H (some ak))=_;rw[de al H aa,r',Jy];unfold nF;simp only
 have:lc K.P H t (.slice (some ⟨dn,off,none⟩) k cap) ol CQ=some (.slice (some ⟨dn,off+a.toNat*sz,none⟩) (b -a).toNat (cap -a.toNat)):=by
  unfold lc;simp only[hu,eb];rw[show Nat.beq cap cO=false from by
   cases ai:Nat.beq cap cO with
   |false=>rfl
   |true=>have:=ez ai;omega,dK,sb]
  simp only[yL];rw[show Nat.beq cap a.toNat=false from by
   cases ai:Nat.beq cap a.toNat with
   |false=>rfl
   |true=>have:=ez ai;omega,dK]
  simp
  omega
 rw[this];rfl
end
theorem arw{y s t:Nat}(aE:(aO y)[(aO y).length -1]?=some t)(aR:y≠0)(hs:s=64 -fS t):
 s<=63/\y*2 ^ s<18446744073709551616 ^ (aO y).length/\(∀l:List Nat,okW l->l.length=(aO y).length->a5 l=y*2 ^ s->∀v1,l[(aO y).length -1]?=some v1->9223372036854775808<=v1)/\18446744073709551616 ^ ((aO y).length -1)*2 ^ s<=y*2 ^ s:=by
 have aq:=Nb aR;have s6:t≠0:=Oi y t (by rw[rC];exact aE);have mA:=yK (n9 y) aE;obtain⟨b1,df,ef⟩:=Nl s6 mA;rw[<-hs] at b1 df ef;obtain⟨k,hk⟩:∃k,(aO y).length=k+1:=⟨(aO y).length -1,I⟩;rw[hk,oo] at aE;have qU:=lz aE;rw[cU I,kd] at qU;have hQ:=sj (th (i:=k) (n9 y));rw[eA,g6 I] at hQ;rw[hk,oo];have aw:0<2 ^ s:=l3 s;have ZZ:2 ^ (64 -s)*2 ^ s=18446744073709551616:=xv I;have au:y*2 ^ s=a5 ((aO y).take k)*2 ^ s+18446744073709551616 ^ k*(t*2 ^ s):=by
  conv=>lhs;rw[qU]
  rw[c6,fy]
 --t*2^s is a aAu of 2^s below 2^64
 have r4:(t+1)*2 ^ s<=18446744073709551616:=by
  have ad:t<2 ^ (64 -s):=O2 (a:=2 ^ s) (by rw[ZZ];exact b1);rw[<-ZZ];exact fq _ ad
 have cD:y*2 ^ s<18446744073709551616 ^ (k+1):=by
  have ad:a5 ((aO y).take k)*2 ^ s<18446744073709551616 ^ k*2 ^ s:=DO hQ aw;have ae:18446744073709551616 ^ k*((t+1)*2 ^ s)<=18446744073709551616 ^ k*18446744073709551616:=hI _ r4;rw[c6,jb,cL] at ae;rw[fP,au];omega
 refine⟨ef,cD,fun l bn l9 nt v1 ln=>?_,?_⟩
 ·have el:=lz ln
  rw[cU I,nt] at el;have ad:=sj (th (i:=k) bn);rw[eA,g6 I] at ad;have aD:18446744073709551616 ^ k*9223372036854775808<=18446744073709551616 ^ k*(t*2 ^ s):=hI _ df;have a6:18446744073709551616 ^ k*9223372036854775808<18446744073709551616 ^ k*(v1+1):=by rw[cL,ha];omega
  have:=O1 a6;omega
 ·refine fq _ ?_
  have ad:18446744073709551616 ^ k*1<=18446744073709551616 ^ k*t:=hI _ I;omega
theorem aeO{l:List Nat}{n:Nat}(bn:okW l)(aq:n<=l.length)(h:a5 l<18446744073709551616 ^ n):a5 (l.take n)=a5 l/\a5 (l.drop n)=0:=by
 have e:=Dk l n aq;have aM:a5 (l.drop n)=0:=by
  rcases jq (a5 (l.drop n)) with k|k
  ·exact k
  ·have:=hI (18446744073709551616 ^ n) k
   omega
 rw[aM] at e;exact⟨I,aM⟩
theorem aw6{A W C:List Nat}{n gW:Nat}(bn:okW (A++W++C))(hN:W.length=n+1)(av:gW<18446744073709551616 ^ n)(au:a5 ((A++W++C).drop (A.length+1))<gW):
 a5 W<18446744073709551616*gW/\a5 C=0/\okW W:=by
 rw[lB,KJ,oi I,kj,OU] at au
 match W,hN with
 |w0::A',hN=>
  have hN:A'.length=n:=by simpa using hN
  rw[Gm,V2,gO,u7,hN] at au;have n':okW (w0::A'):=fun x aa=>bn x (om _ (ki _ aa));have aR:=n' w0 (.head _);have hM:a5 C=0:=by
   rcases jq (a5 C) with k|k
   ·exact k
   ·have:=hI (18446744073709551616 ^ n) k
    omega
  rw[hM,js,iD] at au;refine⟨?_,hM,n'⟩;show w0+18446744073709551616*a5 A'<_;omega
theorem aw8{A W ot C:List Nat}{n gW T q R:Nat}(hN:W.length=n)(Rz:ot.length=n)(hM:a5 C=0)(e:a5 ot=a5 W % gW)(bQ:q=a5 W / gW)(h:T=a5 (A++W++C)+18446744073709551616 ^ (A.length+1)*R):
 T=a5 (A++ot++C)+18446744073709551616 ^ A.length*(gW*q+18446744073709551616*R):=by
 rw[h,u7,u7,u7,u7,hM,js,js,iD,iD,e,bQ];have ad:=mT (a5 W) gW;have ae:18446744073709551616 ^ A.length*a5 W=18446744073709551616 ^ A.length*(gW*(a5 W / gW))+18446744073709551616 ^ A.length*(a5 W % gW):=by rw[<-cL,ad]
 rw[ae,cL,fP,fy _ 18446744073709551616 R];omega
theorem adO{l:List Nat}{j n:Nat}(h:j+n<=l.length):∃A W C,l=A++W++C/\A.length=j/\W.length=n:=
 ⟨l.take j,(l.drop j).take n,(l.drop j).drop n,by rw[lB,Gp,Gp],by rw[eA];omega,by rw[eA,jZ];omega⟩
theorem avN{sl:List Nat}{x s an kM gW:Nat}(aq:sl.length=an+1)(av:a5 sl=x*2 ^ s)(aa:x<18446744073709551616 ^ an)(ad:1<=kM)(ae:kM<=an)(pj:18446744073709551616 ^ (kM -1)*2 ^ s<=gW):a5 (sl.drop (an -kM+1))<gW:=by
 have e:=Dk sl (an -kM+1) I;have aD:x*2 ^ s<18446744073709551616 ^ an*2 ^ s:=DO aa (l3 s);have a6:18446744073709551616 ^ an*2 ^ s=18446744073709551616 ^ (an -kM+1)*(18446744073709551616 ^ (kM -1)*2 ^ s):=by
  rw[<-fy,<-o1,show an -kM+1+(kM -1)=an by omega]
 have eM:=hI (18446744073709551616 ^ (an -kM+1)) pj;refine O1 (a:=18446744073709551616 ^ (an -kM+1)) ?_;omega
theorem awH{q:List Nat}{j y:Nat}(h:j<q.length):a5 ((q.set j y).drop j)=y+18446744073709551616*a5 (q.drop (j+1)):=by
 rw[F6 (x:=y) (by rw[mS,aV rfl,aV h]),DE I]
section
variable {Q:c7 Tryz.prog}{g0:Nat}{J:aj}
theorem XH{v w:Value}{x y:Nat}(aa:cJ J v x)(ap:cJ J w y)(g4:(aO x).length<=100000)(jL:(aO y).length<=100000)(kQ:y≠0):Fn (aU Q g0) 109 [v,w] [] J (fun u m' af=>J.le af/\m'=[]/\∃q r,u=.tuple #[q,r]/\cJ af q (x / y)/\cJ af r (x % y)):=by
 have dC:=aa;have e8:=ap;obtain⟨a',bb,rfl,aL⟩:=aa.bA;obtain⟨bf,br,rfl,aG⟩:=ap.bA;refine Fn.b5 (b2 Tryz.func109) rfl rfl fun H=>?_;refine U 0x439c0859 ?_;refine bC (G:=G4 dC e8 g4 jL) (h:=?_);rintro v' m' af hle ⟨rfl,rfl,rfl⟩;refine U 0x5f04 ?_;refine If (fun kV=>?_) fun kV=>?_
 ·have cD:=sI.1 kV;refine U 0x6af810839 ?_;refine bp ?_
  exact⟨aj.le.refl _,rfl,_,_,rfl,by rw[A6 cD];exact cJ.nil,by rw[sw cD];exact dC⟩
 ·have jl:y<=x:=sv fun h=>kV (sI.2 h);have l9:(aO y).length<=(aO x).length:=jN jl;have yo:=Nb kQ;obtain⟨DY,hX,tS,qU,rfl,ED,oL⟩:=e8.at kQ;refine U 0xbe0850e757 ?_;refine If (fun hC=>?_) fun hC=>?_
  ·obtain⟨ax,aS,cl⟩:=TQ (x:=y) I;obtain⟨d,au,gF,_⟩:=oL 0 I;rw[ax] at au;obtain rfl:y=d:=DQ au;refine U 0x930439 ?_;refine bC (G:=XI dC g4 I aS) (h:=?_);rintro v' m' bu aY ⟨_,rfl,Ga,rfl,s7⟩;have ao':=s7;obtain⟨bV,cc,rfl,bt⟩:=s7.bA;refine U 0x10e70211ce1 ?_;refine mr fun agl=>?_;refine' W.step rfl (Exec.call rfl rfl rfl rfl rfl rfl rfl (bm:=[eO .u64 129 agl [x % y]]) (cN:=[]) (.refl _) trivial (y8 (l:=[x % y]) (n:=1) (fun z aM=>by rw[A2.1 aM];exact A8 (gA _ I) aS) (bU _) (bU _) bI) ?_);rintro v' m' af hle ⟨k,rfl,hk,hg,rfl,rfl⟩;refine U 0x6042 ?_;refine az.ie rfl fun bG=>?_;refine U 0x357 ?_;refine bp ?_
   exact⟨aY.trans bG,rfl,_,_,rfl,ao'.mono bG,cJ.row (l:=[x % y]) (by rw[hg];show aO (a5 [x % y])=_;rw[Oc]) hk hk bI (aj.iE _ _ _)⟩
  ·obtain⟨n,aE⟩:∃n,(aO y).length=n+2:=⟨(aO y).length -2,I⟩;obtain⟨ru,Tb,Ju,abn⟩:=oL ((aO y).length -1) I;have Ju:nth tS (hX+(((aO y).length:Int) -1).toNat*1)=some (.int .u64 (ru:Int)):=by rw[show(((aO y).length:Int) -1).toNat=(aO y).length -1 by omega];exact Ju
   obtain⟨md,Im⟩:∃md,md=(aO x).length -(aO y).length+1:=⟨_,rfl⟩;obtain⟨s,hs⟩:∃s,s=64 -fS ru:=⟨_,rfl⟩;obtain⟨UI,kt,IJ,II⟩:=arw Tb kQ hs;obtain⟨ky,pj⟩:∃ky,ky=y*2 ^ s:=⟨_,rfl⟩;rw[<-pj] at kt IJ II;have S2:0<ky:=by rw[pj];exact jr I (l3 s)
   refine U 0x930c21ce0450e757 ?_;refine bC (G:=TG abn) (h:=?_);rintro v' m' af hle ⟨rfl,rfl,rfl⟩;rw[<-hs];refine U 0xbe04e ?_;refine az.draw rfl (by kernel_rfl) (a1:=[.val 0,.val 1,.val 3,.val 4,.val 6,.bE 2,.b9 [6,4,3],.bE 5,.val 7,.val 8,.val 9,.b9 [6]]) (by kernel_rfl) ?_;refine U 0x3c108421 ?_;refine' bz.Xj rfl rfl rfl rfl rfl rfl rfl rfl rfl (fun x aa=>by cases aa) (fun v m' af h=>by obtain⟨a,z,_,rfl,_⟩:=h;exact⟨_,_,.head _⟩) (aaS dC g4 UI) ?_;rintro v' m' af hle ⟨vD,sl,rfl,rfl,I9,Ua,Kf,rfl⟩;refine bz.b9 fD ?_;refine' bz.Xj rfl rfl rfl rfl rfl rfl rfl rfl rfl (fun x aa=>by rcases gj.1 aa with rfl|aa<;>first|rfl|cases aa) (fun v m' af h=>by obtain⟨a,z,_,rfl,_⟩:=h;exact⟨_,_,.head _⟩) (aaS e8 jL UI) ?_;rintro v' m' af hle ⟨qL,mP,rfl,rfl,abp,FH,w1,rfl⟩;refine bz.Nv (fun x aa=>List.mem_map_of_mem (f:=fun x=>(x.f,x.bO)) aa) ?_;refine' ct.val rfl rfl rfl rfl (Df rfl rfl (eW rfl) rfl ?aR ?ad ?ae) ?_;case aR=>exact ck
   case ad=>exact ck
   case ae=>exact mu ck
   refine U 0xc7442 ?_;refine az.ie rfl fun Sj=>?_;rw[<-pj] at w1;obtain⟨q6,_⟩:=aeO (n:=(aO y).length) FH I (by rw[w1];exact kt);rw[w1] at q6;have ZC:(mP.take (aO y).length).length=(aO y).length:=by rw[eA];omega
   have MF:=c9.row (J:=J.add qL (cj .u64 mP,129)) (k:=.u64) (l:=mP) (n:=(aO y).length) (cap:=(aO y).length+1) I I (mu I) (aj.iE _ _ _);refine U 0x6309439 ?_;refine' W.step rfl (.of (nf rfl rfl rfl rfl rfl (eW rfl) ?aR ?ad ?ae fun K1=>?_));case aR=>exact ck
   case ad=>exact ck
   case ae=>exact ck
   rw[show(((aO x).length:Int) -((aO y).length:Int)+1).toNat=md by omega,zero_num];refine U 0xbeaf810c250e702 ?_;refine az.ri (.swap _ _ _) ?_;refine c3 [(12,.int .i64 (((md):Int) -1)),(4,_),(8,_),(9,_),(10,_),(11,_)] ?_;refine a2 ?_;refine' az.bH (fun(bK:Nat×(List Nat)×(List Nat))=>match bK with|(k,ul,q)=>⟨[(12,.int .i64 ((k:Int) -1))],[eO .u64 129 vD ul,eO .u64 129 K1 q],(J.add qL (cj .u64 mP,129)),k<=md/\ul.length=(aO x).length+1/\okW ul/\q.length=md/\okW q/\a5 (ul.drop k)<ky/\x*2 ^ s=a5 ul+18446744073709551616 ^ k*(ky*a5 (q.drop k)),k⟩) ⟨md,sl,List.replicate md 0⟩ ?hs ?a7
   case hs=>exact⟨bU _,I9,Ua,kE,Aq,by rw[Im];exact avN I9 Kf (AN (bU _)) yo l9 II,by rw[oi (by rw[kE];exact bU _),Kf];rfl⟩
   case a7=>
    rintro⟨k,ul,q⟩ hinv;try simp only at hinv
    obtain⟨hk,E1,bn,bQ,Iu,pe,cB⟩:=hinv;refine U 0x17c1039 ?_;refine If (fun tQ=>?_) fun tQ=>?_
    ·obtain⟨j,rfl⟩:∃j,k=j+1:=⟨k -1,I⟩;obtain⟨hY,wS,eG,rfl,vZ,x2⟩:=adO (l:=ul) (j:=j) (n:=(aO y).length+1) I;subst vZ;have Sv:okW hY:=fun z aM=>bn z (om _ (om _ aM));have Sw:okW eG:=fun z aM=>bn z (ki _ aM);obtain⟨S5,sQ,Sx⟩:=aw6 bn x2 kt pe;refine U 0x31842108439d5f57 ?_;refine' W.step rfl (Exec.val rfl rfl (aeG rfl rfl (eW rfl) rfl rfl ?aR ?ad ?ae ?aD ?a6) ?_);case aR=>exact ck
     case ad=>exact ck
     case ae=>exact ck
     case aD=>exact ck
     case a6=>exact ck
     rw[show 0+(((hY.length+1:Nat):Int) -1).toNat*1=hY.length by omega,show(((hY.length+1:Nat):Int) -1+((aO y).length:Int)+1 -(((hY.length+1:Nat):Int) -1)).toNat=n+3 by omega,show(((hY.length+1:Nat):Int) -1).toNat=hY.length by omega];refine eZ V.kK ?_;refine' W.step rfl (Exec.call rfl rfl rfl rfl rfl rfl rfl (bm:=[eO .u64 129 vD (hY++wS++eG)]) (cN:=[eO .u64 129 K1 q]) (.refl _) trivial (avg (n:=n) MF (by rw[ZC];exact aE) (th FH) I Sx I I I I (fun v1 ad=>IJ _ (th FH) ZC q6 v1 (by rw[show(aO y).length -1=n+1 by omega];exact ad)) (by rw[q6];exact S5)) ?_);rintro v' m' af hle ⟨C3,rfl,rfl,S4,S6,IP,SE,rfl⟩;refine eZ V.dz ?_;refine' iN ?hs ?_;case hs=>exact mf hY.length I
     refine nS ?_;have L8:x*2 ^ s=a5 (hY++C3++eG)+18446744073709551616 ^ hY.length*(ky*a5 ((q.set hY.length (a5 wS / a5 (mP.take (aO y).length))).drop hY.length)):=by
        rw[awH I,cL ky,rE ky];refine aw8 (n:=n+3) I S4 sQ (by rw[IP,q6]) (by rw[q6]) cB
     have RR:a5 ((hY++C3++eG).drop hY.length)<ky:=by
        rw[lB,KJ,oi (bU _),kj,zq,gO,u7,sQ,js,iD,IP,q6];exact gA _ S2
     refine U 0x1810c39 ?_;refine dN ⟨hY.length,hY++C3++eG,q.set hY.length (a5 wS / a5 (mP.take (aO y).length))⟩ ?_;exact⟨I,by rw[eX,eX] at E1 ⊢;omega,Jv (Jv Sv S6) Sw,by rw[im];exact bQ,sc Iu SE,RR,L8⟩
    ·obtain rfl:k=0:=I
     rw[zo,jb,gO] at cB;rw[gO] at pe;obtain⟨f1,f2⟩:=yU (da:=x*2 ^ s) (V:=ky) (g:=a5 q) (by rw[dP (a5 q) ky];omega) (by rw[c6,jb,dP (a5 q) ky];omega);obtain⟨s1,s2⟩:=Qs (N:=x) (d:=y) (l3 s);rw[<-pj,f1] at s1;rw[<-pj,f2,show x*2 ^ s -a5 q*ky=a5 ul by rw[dP (a5 q)];omega] at s2;obtain⟨SZ,_⟩:=aeO (n:=(aO y).length) bn I (A8 pe kt);refine U 0x5f57 ?_;refine az.draw rfl (by kernel_rfl) (a1:=[.val 0,.val 2,.val 3,.val 4,.val 6,.bE 1,.b9 [6,4,3,2],.bE 5,.b9 [6],.bE 7,.bE 8,.val 9]) (by kernel_rfl) ?_;refine U 0x421 ?_;refine' ct.val rfl rfl rfl rfl (Df rfl rfl (eW rfl) rfl ?aR ?ad ?ae) ?_;case aR=>exact ck
     case ad=>exact ck
     case ae=>exact mu ck
     refine U 0x3c1 ?_;refine' bz.call rfl rfl rfl rfl rfl rfl rfl rfl rfl (fun x aa=>by cases aa) (bm:=[eO .u64 129 K1 q]) (cN:=[eO .u64 129 vD ul]) (.swap _ _ _) trivial (y8 (l:=q) Iu I (bU _) I) ?_;rintro v' m' af hle ⟨ap0,rfl,Sc,Tg,rfl,rfl⟩;refine bz.b9 ⟨?h7,?aW,?aT,?bo,trivial⟩ ?_;case h7=>
      refine' e3.val rfl rfl rfl (AJ rfl rfl) rfl ?he;case he=>exact gy
     case aW=>
      refine' e3.val rfl rfl rfl (Df rfl rfl (eW rfl) rfl ?aR ?ad ?ae) rfl ?he;case aR=>exact ck
      case ad=>exact ck
      case ae=>exact mu ck
      case he=>exact gy
     case aT=>
      refine' e3.val rfl rfl rfl (AJ rfl rfl) rfl ?he;case he=>exact gy
     case bo=>
      refine' e3.val rfl rfl rfl (AJ rfl rfl) rfl ?he;case he=>exact gy
     refine' bz.call rfl rfl rfl rfl rfl rfl rfl rfl rfl (fun z aM=>by rcases gj.1 aM with rfl|aM;exact fun _ e=>(by have e:=(KI e).1;injection e with _ ax aS;omega);cases aM) (bm:=[eO .u64 129 vD ul]) (cN:=[eO .u64 129 K1 q]) (.swap _ _ _) trivial (y8 (l:=ul) (n:=(aO y).length) bn I I I) ?_;rintro v' m' af hle ⟨Tp,rfl,anS,Ct,rfl,rfl⟩;refine U 0x3be ?_;refine ct.ei rfl fun Si Rt=>?_;rw[SZ] at Ct;have S7:cJ _ (.slice (some ⟨vD,0,none⟩) Tp ((aO x).length+1)) (a5 ul):=cJ.row Ct I I (mu I) Rt;refine dl rfl (G:=atN S7 (by rw[<-Ct,eA];omega) UI) (h:=?_);rintro v' m' gi cR ⟨_,rfl,q8⟩;have apa:=q8;obtain⟨ir,ep,rfl,oT⟩:=q8.bA;refine U 0x6042 ?_;refine az.ie rfl fun Ij=>?_;refine U 0x357 ?_;refine bp ?_
     exact⟨((Sj.trans Si).trans cR).trans Ij,rfl,_,_,rfl,cJ.row (by rw[Tg,<-bQ,cU (bU _),s1]) I Sc (mu I) (aj.iE _ _ _),by rw[<-s2];exact apa.mono Ij⟩
end
end
end Go.Opn
namespace Go.Opn
noncomputable section
def zE(s:Bool)(u v:Nat)(a b:Nat):Int:=if s then(u:Int)*a -(v:Int)*b else(v:Int)*b -(u:Int)*a
theorem Yu{bB v0 u1 v1 a b:Nat}{x y:Int}(s:Bool)(au:(bB:Int)*v1 -(v0:Int)*u1=if s then 1 else -1)(aa:x=zE s bB v0 a b)(ap:y=zE (!s) u1 v1 a b):Nat.gcd x.natAbs y.natAbs=Nat.gcd a b:=by
 have key:(a:Int)=v1*x+v0*y/\(b:Int)=u1*x+bB*y:=by
  subst aa;subst ap
  cases s with
  |true=>
   have au:(bB:Int)*v1 -(v0:Int)*u1=1:=au
   show(a:Int)=v1*((bB:Int)*a -(v0:Int)*b)+v0*((v1:Int)*b -(u1:Int)*a)/\(b:Int)=u1*((bB:Int)*a -(v0:Int)*b)+bB*((v1:Int)*b -(u1:Int)*a)
   constructor
   ·have:(v1:Int)*((bB:Int)*a -(v0:Int)*b)+v0*((v1:Int)*b -(u1:Int)*a)=((bB:Int)*v1 -(v0:Int)*u1)*a:=by
     simp only[Dy,oZ]
     have ax:(v1:Int)*(bB*a)=bB*v1*a:=by ac_rfl
     have aS:(v1:Int)*(v0*b)=v0*(v1*b):=by ac_rfl
     have cl:(v0:Int)*(u1*a)=v0*u1*a:=by ac_rfl
     omega
    rw[this,au,sr]
   ·have:(u1:Int)*((bB:Int)*a -(v0:Int)*b)+bB*((v1:Int)*b -(u1:Int)*a)=((bB:Int)*v1 -(v0:Int)*u1)*b:=by
     simp only[Dy,oZ]
     have ax:(u1:Int)*(bB*a)=bB*(u1*a):=by ac_rfl
     have aS:(u1:Int)*(v0*b)=v0*u1*b:=by ac_rfl
     have cl:(bB:Int)*(v1*b)=bB*v1*b:=by ac_rfl
     omega
    rw[this,au,sr]
  |false=>
   have au:(bB:Int)*v1 -(v0:Int)*u1=-1:=au
   show(a:Int)=v1*((v0:Int)*b -(bB:Int)*a)+v0*((u1:Int)*a -(v1:Int)*b)/\(b:Int)=u1*((v0:Int)*b -(bB:Int)*a)+bB*((u1:Int)*a -(v1:Int)*b)
   constructor
   ·have:(v1:Int)*((v0:Int)*b -(bB:Int)*a)+v0*((u1:Int)*a -(v1:Int)*b)=-(((bB:Int)*v1 -(v0:Int)*u1)*a):=by
     simp only[Dy,oZ]
     have ax:(v1:Int)*(bB*a)=bB*v1*a:=by ac_rfl
     have aS:(v1:Int)*(v0*b)=v0*(v1*b):=by ac_rfl
     have cl:(v0:Int)*(u1*a)=v0*u1*a:=by ac_rfl
     omega
    rw[this,au];omega
   ·have:(u1:Int)*((v0:Int)*b -(bB:Int)*a)+bB*((u1:Int)*a -(v1:Int)*b)=-(((bB:Int)*v1 -(v0:Int)*u1)*b):=by
     simp only[Dy,oZ]
     have ax:(u1:Int)*(bB*a)=bB*(u1*a):=by ac_rfl
     have aS:(u1:Int)*(v0*b)=v0*u1*b:=by ac_rfl
     have cl:(bB:Int)*(v1*b)=bB*v1*b:=by ac_rfl
     omega
    rw[this,au];omega
 have sW:∀d:Nat,d ∣ x.natAbs->d ∣ y.natAbs->d ∣ a/\d ∣ b:=fun d ad ae=>by
  have ad:(d:Int) ∣ x:=sq.2 ad
  have ae:(d:Int) ∣ y:=sq.2 ae
  exact⟨vi.1 (by rw[key.1];exact OC (pF ad) (pF ae)),vi.1 (by rw[key.2];exact OC (pF ad) (pF ae))⟩
 have Mk:∀(d:Nat) (t:Bool) (u v:Nat),d ∣ a->d ∣ b->d ∣ (zE t u v a b).natAbs:=fun d t u v ad ae=>by
  have ad:(d:Int) ∣ (a:Int):=vi.2 ad
  have ae:(d:Int) ∣ (b:Int):=vi.2 ae
  refine sq.1 ?_
  unfold zE
  split
  ·exact OD (pF ad) (pF ae)
  ·exact OD (pF ae) (pF ad)
 refine OW (Gr ?_ ?_) (Gr ?_ ?_)
 ·exact(sW _ (lE _ _) (nQ _ _)).1
 ·exact(sW _ (lE _ _) (nQ _ _)).2
 ·rw[aa];exact Mk _ _ _ _ (lE _ _) (nQ _ _)
 ·rw[ap];exact Mk _ _ _ _ (lE _ _) (nQ _ _)
theorem aaO{f1 b4 f2 bZ m n ba bd K M N TL TY:Nat}(ad:f1*m=ba+b4*n)(ae:bZ*n=bd+f2*m)(l7:M=m*K+TL)(jy:N=n*K+TY)(H1:f2*TL<=bd*K)(aF:bd<=ba)(bW:(b4+bZ)*TY<(ba -bd)*K):f2*M<=bZ*N/\(b4+bZ)*N<(f1+f2)*M:=by
 subst l7;subst jy
 have ax:f1*m*K=ba*K+b4*n*K:=by rw[ad,c6]
 have aS:bZ*n*K=bd*K+f2*m*K:=by rw[ae,c6]
 have cl:(ba -bd)*K=ba*K -bd*K:=Nat.sub_mul _ _ _
 have dS:bd*K<=ba*K:=fq _ aF
 constructor
 ·rw[cL,cL,<-fy,<-fy]
  have:0<=bZ*TY:=c5 _
  omega
 ·rw[cL,cL,<-fy,<-fy,c6 b4 bZ n,c6 f1 f2 m,c6 (b4*n),c6 (f1*m)]
  have:0<=(f1+f2)*TL:=c5 _
  omega
structure tI (x y A B:Nat) (ba bd bB u1 bT v0 v1 v2:Nat) (e:Bool):Prop where
 dq:if e then v1*y=ba+u1*x else u1*x=ba+v1*y
 c2:if e then bT*x=bd+v2*y else v2*y=bd+bT*x
 xs:v2*ba+v1*bd=x
 ys:bT*ba+u1*bd=y
 Ka:bT<=v2
 aez:u1<=v1\/(e=false/\v1=0/\u1=1/\bT=0/\v2=1)
 De:1<=v2
 yT:v0=0\/((if e then bB*v1=v0*u1+1 else v0*u1=bB*v1+1)/\(if e then v0*B<=bB*A/\u1*A<=v1*B/\v1*B+v0*B<bB*A+u1*A/\bB*A<=v0*B+B else bB*A<=v0*B/\v1*B<=u1*A/\u1*A+bB*A<v0*B+v1*B/\v0*B<=bB*A+B))
 le:(v1=0/\u1=1)\/((if e then u1*A<=v1*B/\v1*B<=u1*A+B else v1*B<=u1*A/\u1*A<=v1*B+B))
 Eg:if e then v1*bT=u1*v2+1 else u1*v2=v1*bT+1
theorem tI.start{x y A B:Nat}:tI x y A B x y 0 1 0 0 0 1 false:=
 ⟨by simp,by simp,by simp,by simp,by simp,.inr ⟨rfl,rfl,rfl,rfl,rfl⟩,bU _,.inl rfl,.inl ⟨rfl,rfl⟩,by simp⟩
theorem tI.next{x y A B K cV tM ba bd bB u1 bT v0 v1 v2:Nat}{e:Bool}(h:tI x y A B ba bd bB u1 bT v0 v1 v2 e)(eS:A=x*K+cV)(ea:B=y*K+tM)(lL:cV<K)(sV:tM<K)(p5:v2<=bd)(gm:v1+v2<=ba -bd):
 tI x y A B bd (ba % bd) u1 bT (u1+ba / bd*bT) v1 v2 (v1+ba / bd*v2) (!e):=by
 have zV:0<bd:=iM h.De p5
 have RE:bd<=ba:=by have:=h.De;omega
 obtain⟨q,bQ⟩:∃q,q=ba / bd:=⟨_,rfl⟩
 obtain⟨r,ao⟩:∃r,r=ba % bd:=⟨_,rfl⟩
 have EJ:ba=q*bd+r:=by rw[bQ,ao,dP];exact(mT _ _).symm
 rw[<-bQ,<-ao]
 have n4:1<=q:=by rw[bQ];exact OV RE zV
 have IH:u1+q*bT<=v1+q*v2:=by
  have aD:q*bT<=q*v2:=hI _ h.Ka
  rcases h.aez with a6|⟨_,eM,fH,oC,Ey⟩
  ·omega
  ·rw[fH,oC,Ey];omega
 have gk:∀X:Nat,(u1+q*bT)*X=u1*X+q*(bT*X):=fun X=>by rw[c6,fy]
 have pV:∀X:Nat,(v1+q*v2)*X=v1*X+q*(v2*X):=fun X=>by rw[c6,fy]
 have ZO:(if e then v2*B<=bT*A/\(u1+bT)*A<(v1+v2)*B else bT*A<=v2*B/\(v1+v2)*B<(u1+bT)*A):=by
  have e1:0<K:=by omega
  have Z7:v2*K<=bd*K:=fq _ p5
  have ZY:(v1+v2)*K<=(ba -bd)*K:=fq _ gm
  have aaa:0<v1+v2:=by have:=h.De;omega
  cases e with
  |false=>
   have ad:u1*x=ba+v1*y:=h.dq
   have ae:v2*y=bd+bT*x:=h.c2
   refine aaO ad ae eS ea ?_ RE ?_
   ·exact cX (sx h.Ka (vq lL)) Z7
   ·exact iM (O6 sV aaa) ZY
  |true=>
   have ad:v1*y=ba+u1*x:=h.dq
   have ae:bT*x=bd+v2*y:=h.c2
   refine aaO ad ae ea eS ?_ RE ?_
   ·exact cX (hI v2 (vq sV)) Z7
   ·have hu:u1<=v1:=by
     rcases h.aez with a6|⟨a6,_⟩
     ·exact a6
     ·cases a6
    have eM:(u1+bT)*cV<=(v1+v2)*cV:=fq _ (by have:=h.Ka;omega)
    have fH:=O6 lL aaa
    exact mU eM (iM fH ZY)
 have hle:=h.le
 have z0:=h.Eg
 have aa:=h.xs
 have ap:=h.ys
 have ks:=h.dq
 have jA:=h.c2
 have azS:=h.De
 have n5:v2<=q*v2:=by have:=fq v2 n4;omega
 have axx:v2*ba=v2*(q*bd)+v2*r:=by rw[EJ,cL]
 have axy:bT*ba=bT*(q*bd)+bT*r:=by rw[EJ,cL]
 have axz:v2*(q*bd)=q*(v2*bd):=by ac_rfl
 have axA:bT*(q*bd)=q*(bT*bd):=by ac_rfl
 cases e with
 |false=>
  have ks:u1*x=ba+v1*y:=ks
  have jA:v2*y=bd+bT*x:=jA
  have z0:u1*v2=v1*bT+1:=z0
  obtain⟨dg,gp⟩:bT*A<=v2*B/\(v1+v2)*B<(u1+bT)*A:=ZO
  rw[c6,c6] at gp
  have aG:q*(v2*y)=q*bd+q*(bT*x):=by rw[jA,cL]
  refine⟨jA,?_,?_,?_,IH,.inl h.Ka,by omega,?_,?_,?_⟩
  ·show(u1+q*bT)*x=r+(v1+q*v2)*y
   rw[gk,pV];omega
  ·rw[pV];omega
  ·rw[gk];omega
  ·by_cases av:v1=0
   ·exact .inl av
   ·refine .inr ⟨z0,?_⟩
    rcases hle with⟨k,_⟩|k
    ·exact absurd k av
    ·obtain⟨aW,aT⟩:v1*B<=u1*A/\u1*A<=v1*B+B:=k
     exact⟨aW,dg,by omega,aT⟩
  ·refine .inr ⟨dg,?_⟩
   rcases hle with⟨aW,aT⟩|k
   ·rw[aW,aT] at z0
    have ln:v2=1:=by omega
    rw[ln]
    omega
   ·obtain⟨aW,aT⟩:v1*B<=u1*A/\u1*A<=v1*B+B:=k
    omega
  ·show v2*(u1+q*bT)=bT*(v1+q*v2)+1
   rw[cL,cL]
   have b4:v2*u1=u1*v2:=dP _ _
   have bZ:v2*(q*bT)=bT*(q*v2):=by ac_rfl
   have cH:bT*v1=v1*bT:=dP _ _
   omega
 |true=>
  have ks:v1*y=ba+u1*x:=ks
  have jA:bT*x=bd+v2*y:=jA
  have z0:v1*bT=u1*v2+1:=z0
  obtain⟨dg,gp⟩:v2*B<=bT*A/\(u1+bT)*A<(v1+v2)*B:=ZO
  rw[c6,c6] at gp
  have aG:q*(bT*x)=q*bd+q*(v2*y):=by rw[jA,cL]
  have Z6:¬(v1=0):=fun k=>by rw[k,jE] at z0;omega
  refine⟨jA,?_,?_,?_,IH,.inl h.Ka,by omega,?_,?_,?_⟩
  ·show(v1+q*v2)*y=r+(u1+q*bT)*x
   rw[gk,pV];omega
  ·rw[pV];omega
  ·rw[gk];omega
  ·refine .inr ⟨z0,?_⟩
   rcases hle with⟨k,_⟩|k
   ·exact absurd k Z6
   ·obtain⟨aW,aT⟩:u1*A<=v1*B/\v1*B<=u1*A+B:=k
    exact⟨aW,dg,by omega,aT⟩
  ·refine .inr ⟨dg,?_⟩
   rcases hle with⟨k,_⟩|k
   ·exact absurd k Z6
   ·obtain⟨aW,aT⟩:u1*A<=v1*B/\v1*B<=u1*A+B:=k
    omega
  ·show bT*(v1+q*v2)=v2*(u1+q*bT)+1
   rw[cL,cL]
   have b4:bT*v1=v1*bT:=dP _ _
   have bZ:bT*(q*v2)=v2*(q*bT):=by ac_rfl
   have cH:v2*u1=u1*v2:=dP _ _
   omega
theorem tI.out{x y A B ba bd bB u1 bT v0 v1 v2:Nat}{e:Bool}(h:tI x y A B ba bd bB u1 bT v0 v1 v2 e)(av:v0≠0):
 ∃a b:Nat,(if e then bB*A=v0*B+a/\v1*B=u1*A+b else v0*B=bB*A+a/\u1*A=v1*B+b)/\b<a/\a<=B/\Nat.gcd a b=Nat.gcd A B:=by
 rcases h.yT with k|⟨aW,aT⟩
 ·exact absurd k av
 cases e with
 |true=>
  have aW:bB*v1=v0*u1+1:=aW
  obtain⟨aL,aG,bt,du⟩:v0*B<=bB*A/\u1*A<=v1*B/\v1*B+v0*B<bB*A+u1*A/\bB*A<=v0*B+B:=aT
  refine⟨bB*A -v0*B,v1*B -u1*A,⟨by omega,by omega⟩,by omega,by omega,?_⟩
  have:=Yu (bB:=bB) (v0:=v0) (u1:=u1) (v1:=v1) (a:=A) (b:=B) true (by
   show(bB:Int)*v1 -(v0:Int)*u1=1
   rw[<-gY,<-gY,aW];omega) rfl rfl
  have ax:zE true bB v0 A B=((bB*A -v0*B:Nat):Int):=by
   show(bB:Int)*A -(v0:Int)*B=_
   rw[<-gY,<-gY];omega
  have aS:zE (!true) u1 v1 A B=((v1*B -u1*A:Nat):Int):=by
   show(v1:Int)*B -(u1:Int)*A=_
   rw[<-gY,<-gY];omega
  rw[ax,aS,iC,iC] at this
  exact this
 |false=>
  have aW:v0*u1=bB*v1+1:=aW
  obtain⟨aL,aG,bt,du⟩:bB*A<=v0*B/\v1*B<=u1*A/\u1*A+bB*A<v0*B+v1*B/\v0*B<=bB*A+B:=aT
  refine⟨v0*B -bB*A,u1*A -v1*B,⟨by omega,by omega⟩,by omega,by omega,?_⟩
  have:=Yu (bB:=bB) (v0:=v0) (u1:=u1) (v1:=v1) (a:=A) (b:=B) false (by
   show(bB:Int)*v1 -(v0:Int)*u1=-1
   rw[<-gY,<-gY,aW];omega) rfl rfl
  have ax:zE false bB v0 A B=((v0*B -bB*A:Nat):Int):=by
   show(v0:Int)*B -(bB:Int)*A=_
   rw[<-gY,<-gY];omega
  have aS:zE (!false) u1 v1 A B=((u1*A -v1*B:Nat):Int):=by
   show(u1:Int)*A -(v1:Int)*B=_
   rw[<-gY,<-gY];omega
  rw[ax,aS,iC,iC] at this
  exact this
theorem tI.bounds{x y A B ba bd bB u1 bT v0 v1 v2:Nat}{e:Bool}(h:tI x y A B ba bd bB u1 bT v0 v1 v2 e)(aF:1<=ba)(zV:1<=bd):v2<=x/\v1+v2<=x/\bT<=y/\u1+bT<=y:=by
 have aa:=h.xs
 have ap:=h.ys
 have ad:=hI v2 aF
 have ae:=hI v1 zV
 have aD:=hI bT aF
 have a6:=hI u1 zV
 omega
end
end Go.Opn
