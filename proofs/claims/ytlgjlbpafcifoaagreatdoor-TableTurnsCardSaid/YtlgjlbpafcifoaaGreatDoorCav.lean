/- A part of the proof of TableTurns. -/
import Derived.Test.YtlgjlbpafcifoaaGreatDoorCau
import Derived.Test.YtlgjlbpafcifoaaGreatDoorCal
set_option maxRecDepth 100000
set_option maxHeartbeats 8000000
set_option linter.unusedVariables false
set_option linter.unusedSimpArgs false
namespace Go.Opn
noncomputable section
open Go.Cre Go.RowKit Go.Proofs
theorem Dk{A D W C:List Nat}{i k off x:Nat}(al:D.length=i)(hk:i<=k)(h:W[k]?=some x)(ah:off=A.length+k):nth (bW .u64 (A++(D++W.drop i)++C)) off=some (.int .u64 (x:Int)):=by
 refine qk (i:=A.length+k) ?_ ah;rw[UV al hk (gS.1 h).1];exact h
theorem QL{A W C:List Nat}{k off x:Nat}(h:W[k]?=some x)(ah:off=A.length+k):nth (bW .u64 (A++W++C)) off=some (.int .u64 (x:Int)):=by
 have:=Dk (A:=A) (D:=[]) (W:=W) (C:=C) (i:=0) rfl (df k) h ah;rwa [kE,g5] at this
theorem Hs{A D W C:List Nat}{i y off:Nat}(al:D.length=i)(h:i<W.length)(ah:off=A.length+i):gf off (bW .u64 (A++(D++W.drop i)++C)) [.int .u64 (y:Int)]=some (bW .u64 (A++((D++[y])++W.drop (i+1))++C)):=by
 rw[<-pz al h];exact k3 (A.length+i) (by rw[eY,eY,eY,ld];omega) ah
theorem A3{W:List Nat}{i:Nat}(ah:okW W)(h:i<W.length):∃u,W[i]?=some u/\u<18446744073709551616:=⟨_,dX h,xb ah (dX h)⟩
section
variable {Q:cZ Tryz.prog}{g0:Nat}{J:af}
theorem apL{a n cap:Nat}{v:Value}{A ww C vs:List Nat}(ar:cJ .u64 J v vs)(lQ:vs.length=n+2)(oI:okW vs)(wy:ww.length=n+3)(nn:okW ww)(pb:n<=100000)(lM:n+3<=cap)(aie:cap<1000000)(ez:A.length<=1000000)
 (r':∀v1,vs[n+1]?=some v1->9223372036854775808<=v1)(b9:a3 ww<18446744073709551616*a3 vs):
 Fn (aT Q g0) 129 [.slice (some ⟨a,A.length,none⟩) (n+3) cap,v] [et .u64 120 a (A++ww++C)] J (fun u m' ae=>∃xH,u=.int .u64 ((a3 ww / a3 vs:Nat):Int)/\m'=[et .u64 120 a (A++xH++C)]/\xH.length=n+3/\okW xH/\a3 xH=a3 ww % a3 vs/\a3 ww / a3 vs<18446744073709551616/\J=ae):=by
 obtain⟨bv,o5,rfl⟩:=ar.form;obtain⟨zA,Hf,EM,uH,rfl,aht,wT⟩:=ar.lt oI I;obtain⟨bU,oB,alq⟩:=A3 nn (i:=n+2) I;obtain⟨u1,CS,Df⟩:=A3 nn (i:=n+1) I;obtain⟨bq,yy,AF⟩:=A3 nn (i:=n) I;obtain⟨v1,lu,G1,GA⟩:=wT (n+1) I;obtain⟨v0,CT,G0,AG⟩:=wT n I;have aqj:=r' v1 lu;have Az:=akH wy lQ nn oI oB CS yy lu CT;have amh:nth (bW .u64 (A++ww++C)) (A.length+((n+2:Nat):Int).toNat*1)=some (.int .u64 (bU:Int)):=QL oB I;have amg:nth (bW .u64 (A++ww++C)) (A.length+(((n+2:Nat):Int) -1).toNat*1)=some (.int .u64 (u1:Int)):=QL CS I;have amf:nth (bW .u64 (A++ww++C)) (A.length+(((n+2:Nat):Int) -2).toNat*1)=some (.int .u64 (bq:Int)):=QL yy I;have G1:nth EM (Hf+(((n+2:Nat):Int) -1).toNat*1)=some (.int .u64 (v1:Int)):=by rw[show(((n+2:Nat):Int) -1).toNat=n+1 by omega];exact G1
 have G0:nth EM (Hf+(((n+2:Nat):Int) -2).toNat*1)=some (.int .u64 (v0:Int)):=by rw[show(((n+2:Nat):Int) -2).toNat=n by omega];exact G0
 have Fo:0<a3 vs:=by
  have e:=kC lu;rw[cM (show vs.length<=n+1+1 by omega)] at e;have:0<18446744073709551616 ^ (n+1)*v1:=kp (um bm) I;omega
 rw[lQ];refine Fn.b8 (b7 Tryz.func129) rfl rfl fun H=>?_;refine aa 0xbe059c08a1ce059 ?_;refine aB.draw rfl (by kernel_rfl) (aX:=[.val 0,.val 1,.val 2,.val 3,.val 4,.val 5,.val 6,.val 7,.val 8,.val 9]) (by kernel_rfl) ?_;refine aa 0x608930c2149821 ?_;refine dN [6,31,0,1,5] ?_;refine a' ?_;refine' aB.lk 2 (fun(g:Nat)=>⟨[(6,.int .u64 (g:Int))],[et .u64 120 a (A++ww++C)],J,g<18446744073709551616/\a3 ww<(g+1)*a3 vs⟩) ?MW ?Ni;case MW=>
  refine If (fun mC=>?_) fun mC=>?_
  ·refine aa 0x6059 ?_;obtain⟨hT,r6⟩:∃q,q=(bU*18446744073709551616+u1) / v1:=⟨_,rfl⟩;obtain⟨kB,cx⟩:∃r,r=(bU*18446744073709551616+u1) % v1:=⟨_,rfl⟩;have hm:hT*v1+kB=bU*18446744073709551616+u1:=by rw[r6,cx,dp];exact lI _ v1
   have Wg:kB<v1:=by rw[cx];exact fz _ I
   have fE:a3 ww<(hT+1)*a3 vs:=Az.start AF (by rw[cR,h'];omega);have FW:hT<18446744073709551616:=by
    rw[r6];exact(mB I).2 (by
        have:=eK 18446744073709551616 (show bU+1<=v1 by omega);rw[cR,dp v1] at this;omega)
   refine a' ?_;refine aB.draw rfl (by kernel_rfl) (aX:=[.val 0,.val 1,.val 2,.val 3,.val 4,.val 5,.val 6,.val 7,.val 8,.val 9,.val 10,.val 11,.val 12,.val 13,.bD 14,.val 15,.val 16,.val 17,.val 18,.val 19]) (by kernel_rfl) ?_;refine aa 0x1261842930c2149821 ?_;refine dl rfl (G:=Uf I Df GA) (h:=?_);rintro v' m' ae hle ⟨rfl,rfl,rfl⟩;rw[<-r6,<-cx];refine aa 0x30211ce1 ?_;refine dN [6,7,0,1,5] ?_;refine a' ?_;refine' aB.lk 2 (fun(bY:Nat)=>⟨[(6,.int .u64 (bY:Int))],[et .u64 120 a (A++ww++C)],J,bY<18446744073709551616/\a3 ww<(bY+1)*a3 vs⟩) ?vY ?v8;case vY=>
    refine aB.block ?_;refine c8 [(6,.int .u64 ((hT):Int)),(7,.int .u64 ((kB):Int)),(0,_),(1,_),(5,_)] ?_;refine a' ?_;refine' aB.ja (fun(bE:Nat×Nat)=>match bE with|(g,r)=>⟨[(6,.int .u64 (g:Int)),(7,.int .u64 (r:Int))],g<18446744073709551616/\r<18446744073709551616/\g*v1+r=bU*18446744073709551616+u1/\a3 ww<(g+1)*a3 vs,g⟩) ⟨hT,kB⟩ ?hs ?bb
    case hs=>exact⟨FW,I,hm,fE⟩
    case bb=>
     rintro⟨g,r⟩ hinv;try simp only at hinv
     obtain⟨iW,yv,CE,uS⟩:=hinv;refine aa 0x930c210e757 ?_;refine br (G:=Dj iW AG) (h:=?_);rintro v' m' ae hle ⟨rfl,rfl,rfl⟩;obtain⟨P,cw⟩:∃P,P=g*v0:=⟨_,rfl⟩;rw[<-cw];have rY:=GN iW AG;rw[<-cw] at rY;refine aa 0x30211ce1 ?_;refine dN [8,9,0,1,5,6,7] ?_;refine a' ?_;refine' aB.fD 2 [(76,.bool (decide ((P<=r*18446744073709551616+bq))))] ?zK ?zQ;case zK=>
      refine aa 0x12043a ?_;refine fs 63 (fun NV=>?_) fun NV=>?_
      ·
        refine aa 0x308def7bdef7bdef7b ?_;refine dO (dS ?_);first|omega|(simp_all;done)|(simp_all;omega)
      ·
        refine aa 0x9021 ?_;refine fs 67 (fun ag2=>?_) fun ag2=>?_
        ·refine aa 0x3084112618421 ?_;refine dO (dS ?_);first|omega|(simp_all;done)|(simp_all;omega)
        ·refine aa 0x30846f7bdef7b ?_;refine dO (dS ?_);first|omega|(simp_all;done)|(simp_all;omega)
     case zQ=>
      refine a' ?_;refine If (fun EG=>?_) fun EG=>?_
      ·
        refine aa 0x357 ?_;refine fW (g) ?_;exact⟨iW,uS⟩
      ·
        have CJ:a3 ww<g*a3 vs:=Az.more CE I;have nh:1<=g:=by
         rcases il g with k|k
         ·rw[k,jA] at CJ;omega
         ·exact k
        refine aa 0x1810d2618421ce0430e757 ?_;rw[show IntKind.u64.wrap ((r:Int)+(v1:Int))=(((r+v1) % 18446744073709551616:Nat):Int) from LC (r+v1)];refine aa 0x2f8224c308439 ?_;refine If (fun adq=>?_) fun adq=>?_
        ·refine aa 0x357 ?_;refine fW (g -1) ?_;exact⟨I,by rw[xT nh];exact CJ⟩
        ·rw[show(r+v1) % 18446744073709551616=r+v1 by omega];refine jg ?_;refine jf ⟨g -1,r+v1⟩ ?_;exact⟨I,I,by
            obtain⟨p,rfl⟩:∃p,g=p+1:=⟨g -1,I⟩;rw[cR,h'] at CE;rw[lg];omega,by rw[xT nh];exact CJ⟩
   case v8=>
    rintro bY hinv;try simp only at hinv
    have nh:=hinv;refine fW (bY) ?_;exact nh
  ·refine jg ?_;refine fW (18446744073709551615) ?_;exact⟨by decide,Az.alp b9 AF AG I Df⟩
 case Ni=>
  rintro g hinv;try simp only at hinv
  obtain⟨iW,uS⟩:=hinv;refine aa 0x6af809439c0859 ?_;refine c8 [(95,.int .i64 ((0):Int)),(10,.int .u64 ((0):Int)),(11,.int .u64 ((0):Int)),(0,_),(1,_),(5,_),(6,_),(93,_),(94,_)] ?_;refine a' ?_;refine' aB.bA (fun(bE:Nat×Nat×Nat×(List Nat))=>match bE with|(i,c,b,D)=>⟨[(95,.int .i64 (i:Int)),(10,.int .u64 (c:Int)),(11,.int .u64 (b:Int))],[et .u64 120 a (A++(D++ww.drop i)++C)],J,i<=n+2/\c<18446744073709551616/\b<=1/\D.length=i/\okW D/\a3 D+g*a3 (vs.take i)=a3 (ww.take i)+18446744073709551616 ^ i*(c+b),n+2 -i⟩) ⟨0,0,0,[]⟩ ?hs ?bb
  case hs=>exact⟨df _,by decide,by decide,rfl,QW,by rw[fq,fq];rfl⟩
  case bb=>
   rintro⟨i,c,b,D⟩ hinv;try simp only at hinv
   obtain⟨ak,aD,ai,cK,bu,mK⟩:=hinv;refine aa 0xbe099 ?_;refine If (fun MQ=>?_) fun MQ=>?_
   ·obtain⟨w,hw,QQ,lw⟩:=wT i I;obtain⟨u,hu,AE⟩:=A3 nn (i:=i) I;have GZ:nth (bW .u64 (A++(D++ww.drop i)++C)) (A.length+(i:Int).toNat*1)=some (.int .u64 (u:Int)):=Dk cK (bF _) hu I;refine aa 0x21ce04249839d5f57 ?_;refine br (G:=Dj iW lw) (h:=?_);rintro v' m' ae hle ⟨rfl,rfl,rfl⟩;obtain⟨P,cw⟩:∃P,P=g*w:=⟨_,rfl⟩;rw[<-cw];have rY:=GN iW lw;rw[<-cw] at rY;refine aa 0x87381670211ce1 ?_;refine br (G:=vO (c:=0) I) (h:=?_);rintro v' m' ae hle ⟨rfl,rfl,rfl⟩;rw[show(P % 18446744073709551616+c+0) % 18446744073709551616=(P+c) % 18446744073709551616 by omega];refine aa 0x610e70211ce1 ?_;rw[show((P / 18446744073709551616:Nat):Int)+(((P % 18446744073709551616+c+0) / 18446744073709551616:Nat):Int)=(((P+c) / 18446744073709551616:Nat):Int) by omega];refine aa 0x429304210e702 ?_;refine br (G:=Lj ai) (h:=?_);rintro v' m' ae hle ⟨rfl,rfl,rfl⟩;refine aa 0x31ce1 ?_;refine' iK ?hs ?_;case hs=>exact Hs cK I I
    refine aa 0x3011e702 ?_;refine eH ⟨i+1,(P+c) / 18446744073709551616,(if u<(P+c) % 18446744073709551616+b then 1 else 0),D++[(u+18446744073709551616 -(P+c) % 18446744073709551616 -b) % 18446744073709551616]⟩ ?_;exact⟨I,I,by split<;>omega,w3 cK,G4 bu (fz _ bm),alG (lo:=(P+c) % 18446744073709551616) cK hw hu mK (by rw[<-cw];omega) (by split<;>omega)⟩
   ·obtain rfl:i=n+2:=I
    have GZ:nth (bW .u64 (A++(D++ww.drop (n+2))++C)) (A.length+((n+2:Nat):Int).toNat*1)=some (.int .u64 (bU:Int)):=Dk cK (bF _) oB I;refine aa 0x429304210e757 ?_;refine br (G:=Lj ai) (h:=?_);rintro v' m' ae hle ⟨rfl,rfl,rfl⟩;refine aa 0x31ce1 ?_;refine' iK ?hs ?_;case hs=>exact Hs cK I I
    refine aa 0x302 ?_;obtain⟨z,aG⟩:∃z,z=(bU+18446744073709551616 -c -b) % 18446744073709551616:=⟨_,rfl⟩;obtain⟨bM,iP⟩:∃bM,bM=(if bU<c+b then 1 else 0):=⟨_,rfl⟩;have ri:z+c+b=bU+18446744073709551616*bM:=by rw[aG,iP];split<;>omega
    have ah6:bM<=1:=by rw[iP];split<;>omega
    have u6:z<18446744073709551616:=by rw[aG];exact fz _ bm
    rw[<-aG,<-iP];have ti:=alH cK (show ww.length=n+2+1 by omega) lQ oB mK ri;rw[show A++(D++[z]++ww.drop (n+2+1))++C=A++(D++[z])++C by rw[oW (show ww.length<=n+2+1 by omega),ij]];refine aa 0x357 ?_;refine c8 [(6,.int .u64 ((g):Int)),(11,.int .u64 ((bM):Int)),(0,_),(1,_),(5,_)] ?_;refine a' ?_;refine' aB.bA (fun(bE:Nat×Nat×(List Nat))=>match bE with|(g,b,Z)=>⟨[(6,.int .u64 (g:Int)),(11,.int .u64 (b:Int))],[et .u64 120 a (A++Z++C)],J,g<18446744073709551616/\b<=1/\Z.length=n+3/\okW Z/\a3 Z+g*a3 vs=a3 ww+18446744073709551616 ^ (n+3)*b/\a3 ww<(g+1)*a3 vs,g⟩) ⟨g,bM,D++[z]⟩ ?hs ?bb
    case hs=>exact⟨iW,ah6,w3 cK,G4 bu u6,ti,uS⟩
    case bb=>
     rintro⟨g,b,Z⟩ hinv;try simp only at hinv
     obtain⟨iW,ai,Vo,Jy,ti,uS⟩:=hinv;refine aa 0x17c1039 ?_;refine If (fun ac'=>?_) fun ac'=>?_
     ·obtain rfl:b=1:=I
      have ahT:a3 Z<18446744073709551616 ^ (n+3):=by have:=ry Jy;rwa [Vo] at this
      have nh:1<=g:=by
       rcases il g with k|k
       ·rw[k] at ti;omega
       ·exact k
      have aul:A++Z++C=A++([]++Z.drop 0)++C:=by rw[kE,g5]
      refine aa 0x1810c39d5f57 ?_;rw[show(g:Int) -1=((g -1:Nat):Int) by omega];refine aa 0x357c04a1ce059 ?_;refine c8 [(148,.int .i64 ((0):Int)),(17,.int .u64 ((0):Int)),(0,_),(1,_),(5,_),(6,_),(11,_),(146,_),(147,_)] ?_;refine a' ?_;refine' aB.bA (fun(bE:Nat×Nat×(List Nat))=>match bE with|(i,c,D)=>⟨[(148,.int .i64 (i:Int)),(17,.int .u64 (c:Int))],[et .u64 120 a (A++(D++Z.drop i)++C)],J,i<=n+2/\c<=1/\D.length=i/\okW D/\a3 D+18446744073709551616 ^ i*c=a3 (Z.take i)+a3 (vs.take i),n+2 -i⟩) ⟨0,0,[]⟩ ?hs ?bb
      case hs=>exact⟨df _,by decide,rfl,QW,by rw[fq,fq];rfl⟩
      case bb=>
       rintro⟨i,c,D⟩ hinv;try simp only at hinv
       obtain⟨ak,aD,cK,bu,mK⟩:=hinv;refine aa 0xbe099 ?_;refine If (fun adb=>?_) fun adb=>?_
       ·obtain⟨w,hw,QQ,lw⟩:=wT i I;obtain⟨u,hu,AE⟩:=A3 Jy (i:=i) I;have GZ:nth (bW .u64 (A++(D++Z.drop i)++C)) (A.length+(i:Int).toNat*1)=some (.int .u64 (u:Int)):=Dk cK (bF _) hu I;refine aa 0x852608421ce04249839d5f57 ?_;refine br (G:=vO aD) (h:=?_);rintro v' m' ae hle ⟨rfl,rfl,rfl⟩;refine aa 0x31ce1 ?_;refine' iK ?hs ?_;case hs=>exact Hs cK I I
        refine aa 0x3011e702 ?_;refine eH ⟨i+1,(u+w+c) / 18446744073709551616,D++[(u+w+c) % 18446744073709551616]⟩ ?_;exact⟨I,I,w3 cK,G4 bu (fz _ bm),acq cK hw hu mK⟩
       ·obtain rfl:i=n+2:=I
        obtain⟨y,au,jb⟩:=A3 Jy (i:=n+2) I;have GZ:nth (bW .u64 (A++(D++Z.drop (n+2))++C)) (A.length+((n+2:Nat):Int).toNat*1)=some (.int .u64 (y:Int)):=Dk cK (bF _) au I;have Wj:=acK ti ahT uS (acr cK (show Z.length=n+2+1 by omega) lQ au mK) I;refine aa 0x29304210e757 ?_;refine br (G:=vO aD) (h:=?_);rintro v' m' ae hle ⟨rfl,rfl,rfl⟩;refine aa 0x31ce1 ?_;refine' iK ?hs ?_;case hs=>exact Hs cK I I
        refine aa 0x610e702 ?_;rw[show IntKind.u64.wrap (((1:Nat):Int) -(((y+0+c) / 18446744073709551616:Nat):Int))=((1 -(y+0+c) / 18446744073709551616:Nat):Int) from by rw[R7];omega];refine aa 0x302 ?_;rw[show A++(D++[(y+0+c) % 18446744073709551616]++Z.drop (n+2+1))++C=A++(D++[(y+0+c) % 18446744073709551616])++C by rw[oW (show Z.length<=n+2+1 by omega),ij]];refine eH ⟨g -1,1 -(y+0+c) / 18446744073709551616,D++[(y+0+c) % 18446744073709551616]⟩ ?_;exact⟨I,I,w3 cK,G4 bu (fz _ bm),Wj.2.1,Wj.2.2⟩
     ·obtain rfl:b=0:=I
      rw[jk,ik] at ti;obtain⟨aw,aR⟩:=xm (cS:=a3 ww) (V:=a3 vs) (g:=g) I uS;refine aa 0xd5f020e757 ?_;refine oi ?_;exact⟨Z,by rw[aw];rfl,rfl,Vo,Jy,by rw[aR];omega,by rw[aw];exact iW,rfl⟩
end
section
variable {K:dy}{B:c5}{o:Oper}{n:Nat}{ds:dJ}{l:List (Nat×Value)}{m:aO}{J:af}
theorem aaD{t e:TypeId}{x lo ak:Operand}{c0 off k cap sz:Nat}{zs:List Value}{a b:Int}{qh Db:IntKind}(ah:o.op=.slice t x (some lo) (some ak) none)(U:bx l x=some (.slice (some ⟨c0,off,none⟩) k cap))(aJ:mr K.P t=some (e,sz,zs))(g':bx l lo=some (.int Db a))(kh:bx l ak=some (.int qh b))(aN:0<=a)(ab:a<=b)(ad:b<=cap)(aL:a<cap)(aD:cap<1000000):cO K B o n ds l m J (.slice (some ⟨c0,off+a.toNat*sz,none⟩) (b -a).toNat (cap -a.toNat)):=by
 have JF:cap<cG:=jD aD;obtain⟨hu,dF,_⟩:=sw aJ;intro call aE S H aj av;obtain⟨xa,pt,pu⟩:=uA (iO:=k) (top:=cap) (dl:=(k:Int)) (i:=b) (x:=some ak) aj H (by unfold s3;simp only[kh]) I ad rfl;obtain⟨ol,G5,xc⟩:=uA (iO:=0) (top:=b.toNat) (dl:=0) (i:=a) (x:=some lo) aj H (by unfold s3;simp only[g']) aN I rfl;unfold cj eF;simp only[ah];show lY K.P _ t (a1 S.T H x) (ho S.T H (some lo)) (ho S.T H (some ak))=_;rw[c6 aj H U,pt,G5];unfold lY;simp only
 have:jY K.P H t (.slice (some ⟨c0,off,none⟩) k cap) ol xa=some (.slice (some ⟨c0,off+a.toNat*sz,none⟩) (b -a).toNat (cap -a.toNat)):=by
  unfold jY;simp only[hu,dF];rw[show Nat.beq cap cG=false from by
   cases ai:Nat.beq cap cG with
   |false=>rfl
   |true=>have:=eb ai;omega,da,pu]
  simp only[xc];rw[show Nat.beq cap a.toNat=false from by
   cases ai:Nat.beq cap a.toNat with
   |false=>rfl
   |true=>have:=eb ai;omega,da]
  simp
  omega
 rw[this];rfl
end
theorem al7{y s t:Nat}(az:(aS y)[(aS y).length -1]?=some t)(aN:y≠0)(hs:s=64 -fk t):
 s<=63/\y*2 ^ s<18446744073709551616 ^ (aS y).length/\(∀l:List Nat,okW l->l.length=(aS y).length->a3 l=y*2 ^ s->∀v1,l[(aS y).length -1]?=some v1->9223372036854775808<=v1)/\18446744073709551616 ^ ((aS y).length -1)*2 ^ s<=y*2 ^ s:=by
 have ap:=Qz aN;have r9:t≠0:=Ly y t (by rw[sM];exact az);have tx:=xb (oH y) az;obtain⟨d',ej,eD⟩:=KG r9 tx;rw[<-hs] at d' ej eD;obtain⟨k,hk⟩:∃k,(aS y).length=k+1:=⟨(aS y).length -1,I⟩;rw[hk,lg] at az;have nR:=kC az;rw[cM I,hr] at nR;have g':=ry (tJ (i:=k) (oH y));rw[dY,fV I] at g';rw[hk,lg];have ao:0<2 ^ s:=lh s;have Wm:2 ^ (64 -s)*2 ^ s=18446744073709551616:=vR I;have al:y*2 ^ s=a3 ((aS y).take k)*2 ^ s+18446744073709551616 ^ k*(t*2 ^ s):=by
  conv=>lhs;rw[nR]
  rw[cR,e4]
 --t*2^s is a auh of 2^s below 2^64
 have pf:(t+1)*2 ^ s<=18446744073709551616:=by
  have ab:t<2 ^ (64 -s):=Ec (a:=2 ^ s) (by rw[Wm];exact d');rw[<-Wm];exact eK _ ab
 have b9:y*2 ^ s<18446744073709551616 ^ (k+1):=by
  have ab:a3 ((aS y).take k)*2 ^ s<18446744073709551616 ^ k*2 ^ s:=BN g' ao;have ad:18446744073709551616 ^ k*((t+1)*2 ^ s)<=18446744073709551616 ^ k*18446744073709551616:=hf _ pf;rw[cR,h',cH] at ad;rw[ff,al];omega
 refine⟨eD,b9,fun l bu iX q9 v1 lu=>?_,?_⟩
 ·have el:=kC lu
  rw[cM I,q9] at el;have ab:=ry (tJ (i:=k) bu);rw[dY,fV I] at ab;have aL:18446744073709551616 ^ k*9223372036854775808<=18446744073709551616 ^ k*(t*2 ^ s):=hf _ ej;have a6:18446744073709551616 ^ k*9223372036854775808<18446744073709551616 ^ k*(v1+1):=by rw[cH,gJ];omega
  have:=Ma a6;omega
 ·refine eK _ ?_
  have ab:18446744073709551616 ^ k*1<=18446744073709551616 ^ k*t:=hf _ I;omega
theorem aaL{l:List Nat}{n:Nat}(bu:okW l)(ap:n<=l.length)(h:a3 l<18446744073709551616 ^ n):a3 (l.take n)=a3 l/\a3 (l.drop n)=0:=by
 have e:=Bo l n ap;have aG:a3 (l.drop n)=0:=by
  rcases il (a3 (l.drop n)) with k|k
  ·exact k
  ·have:=hf (18446744073709551616 ^ n) k
   omega
 rw[aG] at e;exact⟨I,aG⟩
theorem arn{A W C:List Nat}{n gw:Nat}(bu:okW (A++W++C))(gE:W.length=n+1)(ar:gw<18446744073709551616 ^ n)(al:a3 ((A++W++C).drop (A.length+1))<gw):
 a3 W<18446744073709551616*gw/\a3 C=0/\okW W:=by
 rw[my,LZ,oW I,kE,L5] at al
 match W,gE with
 |w0::zx,gE=>
  have gE:zx.length=n:=by simpa using gE
  rw[BH,SL,g5,tX,gE] at al;have nn:okW (w0::zx):=fun x U=>bu x (og _ (iI _ U));have aN:=nn w0 (.head _);have gP:a3 C=0:=by
   rcases il (a3 C) with k|k
   ·exact k
   ·have:=hf (18446744073709551616 ^ n) k
    omega
  rw[gP,jk,ik] at al;refine⟨?_,gP,nn⟩;show w0+18446744073709551616*a3 zx<_;omega
theorem arp{A W nH C:List Nat}{n gw T q R:Nat}(gE:W.length=n)(Of:nH.length=n)(gP:a3 C=0)(e:a3 nH=a3 W % gw)(bI:q=a3 W / gw)(h:T=a3 (A++W++C)+18446744073709551616 ^ (A.length+1)*R):
 T=a3 (A++nH++C)+18446744073709551616 ^ A.length*(gw*q+18446744073709551616*R):=by
 rw[h,tX,tX,tX,tX,gP,jk,jk,ik,ik,e,bI];have ab:=lI (a3 W) gw;have ad:18446744073709551616 ^ A.length*a3 W=18446744073709551616 ^ A.length*(gw*(a3 W / gw))+18446744073709551616 ^ A.length*(a3 W % gw):=by rw[<-cH,ab]
 rw[ad,cH,ff,e4 _ 18446744073709551616 R];omega
theorem ZV{l:List Nat}{j n:Nat}(h:j+n<=l.length):∃A W C,l=A++W++C/\A.length=j/\W.length=n:=
 ⟨l.take j,(l.drop j).take n,(l.drop j).drop n,by rw[my,Il,Il],by rw[dY];omega,by rw[dY,ld];omega⟩
theorem aqa{rA:List Nat}{x s ay k4 gw:Nat}(ap:rA.length=ay+1)(ar:a3 rA=x*2 ^ s)(U:x<18446744073709551616 ^ ay)(ab:1<=k4)(ad:k4<=ay)(oC:18446744073709551616 ^ (k4 -1)*2 ^ s<=gw):a3 (rA.drop (ay -k4+1))<gw:=by
 have e:=Bo rA (ay -k4+1) I;have aL:x*2 ^ s<18446744073709551616 ^ ay*2 ^ s:=BN U (lh s);have a6:18446744073709551616 ^ ay*2 ^ s=18446744073709551616 ^ (ay -k4+1)*(18446744073709551616 ^ (k4 -1)*2 ^ s):=by
  rw[<-e4,<-pN,show ay -k4+1+(k4 -1)=ay by omega]
 have fb:=hf (18446744073709551616 ^ (ay -k4+1)) oC;refine Ma (a:=18446744073709551616 ^ (ay -k4+1)) ?_;omega
theorem aq3{q:List Nat}{j y:Nat}(h:j<q.length):a3 ((q.set j y).drop j)=y+18446744073709551616*a3 (q.drop (j+1)):=by
 rw[HH (x:=y) (by rw[mz,a2 rfl,a2 h]),BI I]
section
variable {Q:cZ Tryz.prog}{g0:Nat}{J:af}
theorem Ng{v w:Value}{x y:Nat}(U:cp J v x)(au:cp J w y)(hb:(aS x).length<=100000)(jb:(aS y).length<=100000)(k':y≠0):Fn (aT Q g0) 92 [v,w] [] J (fun u m' ae=>J.le ae/\m'=[]/\∃q r,u=.tuple #[q,r]/\cp ae q (x / y)/\cp ae r (x % y)):=by
 have di:=U;have eN:=au;obtain⟨bs,bp,rfl,aK⟩:=U.bQ;obtain⟨bM,bN,rfl,aH⟩:=au.bQ;refine Fn.b8 (b7 Tryz.func92) rfl rfl fun H=>?_;refine aa 0x439c0859 ?_;refine br (G:=EO di eN hb jb) (h:=?_);rintro v' m' ae hle ⟨rfl,rfl,rfl⟩;refine aa 0x5f04 ?_;refine If (fun l8=>?_) fun l8=>?_
 ·have b9:=rP.1 l8;refine aa 0x6af810839 ?_;refine bo ?_;first
   |exact⟨af.le.refl _,rfl,_,_,rfl,by rw[rG b9];exact cp.nil,by rw[nD b9];exact di⟩
 ·have jq:y<=x:=qF fun h=>l8 (rP.2 h);have iX:(aS y).length<=(aS x).length:=ki jq;have wV:=Qz k';obtain⟨BS,hp,s5,nR,rfl,Ct,n4⟩:=eN.at k';refine aa 0xbe0850e757 ?_;refine If (fun hM=>?_) fun hM=>?_
  ·obtain⟨aw,aR,cf⟩:=QA (x:=y) I;obtain⟨d,al,fT,_⟩:=n4 0 I;rw[aw] at al;obtain rfl:y=d:=sS al;refine aa 0x930439 ?_;refine br (G:=Ug di hb I aR) (h:=?_);rintro v' m' bi aM ⟨_,rfl,DQ,rfl,qa⟩;have Wy:=qa;obtain⟨cB,cN,rfl,bJ⟩:=qa.bQ;refine aa 0x10e70211ce1 ?_;refine lj fun Mp=>?_;refine' W.step rfl (Exec.call rfl rfl rfl rfl rfl rfl rfl (bl:=[et .u64 120 Mp [x % y]]) (c2:=[]) (.refl _) trivial (xA (l:=[x % y]) (n:=1) (fun z aG=>by rw[zn.1 aG];exact zt (fz _ I) aR) (bF _) (bF _) bm) ?_);rintro v' m' ae hle ⟨k,rfl,hk,gl,rfl,rfl⟩;refine aa 0x6042 ?_;refine aB.hy rfl fun a9=>?_;refine aa 0x357 ?_;refine bo ?_;first
    |exact⟨af.le.refl _,rfl,_,_,rfl,by rw[rG b9];exact cp.nil,by rw[nD b9];exact di⟩
    |(have c:=hM
      exact⟨aM.trans a9,rfl,_,_,rfl,Wy.mono a9,cp.row (l:=[x % y]) (by rw[gl];show aS (a3 [x % y])=_;rw[HI]) hk hk bm (af.gC _ _ _)⟩)
  ·obtain⟨n,az⟩:∃n,(aS y).length=n+2:=⟨(aS y).length -2,I⟩;obtain⟨qy,PV,G2,XH⟩:=n4 ((aS y).length -1) I;have G2:nth s5 (hp+(((aS y).length:Int) -1).toNat*1)=some (.int .u64 (qy:Int)):=by rw[show(((aS y).length:Int) -1).toNat=(aS y).length -1 by omega];exact G2
   obtain⟨md,FN⟩:∃md,md=(aS x).length -(aS y).length+1:=⟨_,rfl⟩;obtain⟨s,hs⟩:∃s,s=64 -fk qy:=⟨_,rfl⟩;obtain⟨Rr,ph,F9,F8⟩:=al7 PV k' hs;obtain⟨jQ,oC⟩:∃jQ,jQ=y*2 ^ s:=⟨_,rfl⟩;rw[<-oC] at ph F9 F8;have PM:0<jQ:=by rw[oC];exact kp I (lh s)
   refine aa 0x930c21ce0450e757 ?_;refine br (G:=Qm XH) (h:=?_);rintro v' m' ae hle ⟨rfl,rfl,rfl⟩;rw[<-hs];refine aa 0xbe04e ?_;refine aB.draw rfl (by kernel_rfl) (aX:=[.val 0,.val 1,.val 3,.val 4,.val 6,.bD 2,.ca [6,4,3],.bD 5,.val 7,.val 8,.val 9,.ca [6]]) (by kernel_rfl) ?_;refine aa 0x3c108421 ?_;refine' bh.TY rfl rfl rfl rfl rfl rfl rfl rfl rfl (fun x U=>by cases U) (fun v m' ae h=>by obtain⟨a,z,_,rfl,_⟩:=h;exact⟨_,_,.head _⟩) (Xh di hb Rr) ?_;rintro v' m' ae hle ⟨uy,rA,rfl,rfl,GD,QX,HK,rfl⟩;refine bh.ca ft ?_;refine' bh.TY rfl rfl rfl rfl rfl rfl rfl rfl rfl (fun x U=>by rcases fU.1 U with rfl|U<;>first|rfl|cases U) (fun v m' ae h=>by obtain⟨a,z,_,rfl,_⟩:=h;exact⟨_,_,.head _⟩) (Xh eN jb Rr) ?_;rintro v' m' ae hle ⟨zA,l3,rfl,rfl,XJ,Ds,vv,rfl⟩;refine bh.Dp (fun x U=>L2 (f:=fun x=>(x.f,x.bV)) U) ?_;refine' cm.val rfl rfl rfl rfl (Bj rfl rfl (eB rfl) rfl ?aN ?ab ?ad) ?_;case aN=>exact cC
   case ab=>exact cC
   case ad=>first|assumption|exact jD cC
   refine aa 0xc7442 ?_;refine aB.hy rfl fun O3=>?_;rw[<-oC] at vv;obtain⟨r',_⟩:=aaL (n:=(aS y).length) Ds I (by rw[vv];exact ph);rw[vv] at r';have VY:(l3.take (aS y).length).length=(aS y).length:=by rw[dY];omega
   have J3:=cJ.row (J:=J.add zA (bW .u64 l3,120)) (k:=.u64) (l:=l3) (n:=(aS y).length) (cap:=(aS y).length+1) I I (jD I) (af.gC _ _ _);refine aa 0x6309439 ?_;refine' W.step rfl (.of (pG rfl rfl rfl rfl rfl (eB rfl) ?aN ?ab ?ad fun IB=>?_));case aN=>exact cC
   case ab=>exact cC
   case ad=>exact cC
   rw[show(((aS x).length:Int) -((aS y).length:Int)+1).toNat=md by omega,zero_num];refine aa 0xbeaf810c250e702 ?_;refine aB.mN (.swap _ _ _) ?_;refine c8 [(12,.int .i64 (((md):Int) -1)),(4,_),(8,_),(9,_),(10,_),(11,_)] ?_;refine a' ?_;refine' aB.bA (fun(bE:Nat×(List Nat)×(List Nat))=>match bE with|(k,ul,q)=>⟨[(12,.int .i64 ((k:Int) -1))],[et .u64 120 uy ul,et .u64 120 IB q],(J.add zA (bW .u64 l3,120)),k<=md/\ul.length=(aS x).length+1/\okW ul/\q.length=md/\okW q/\a3 (ul.drop k)<jQ/\x*2 ^ s=a3 ul+18446744073709551616 ^ k*(jQ*a3 (q.drop k)),k⟩) ⟨md,rA,List.replicate md 0⟩ ?hs ?bb
   case hs=>exact⟨bF _,GD,QX,mA,yQ,by rw[FN];exact aqa GD HK (Bq (bF _)) wV iX F8,by rw[oW (by rw[mA];exact bF _),HK];rfl⟩
   case bb=>
    rintro⟨k,ul,q⟩ hinv;try simp only at hinv
    obtain⟨hk,u2,bu,bI,FR,nW,b1⟩:=hinv;refine aa 0x17c1039 ?_;refine If (fun IT=>?_) fun IT=>?_
    ·obtain⟨j,rfl⟩:∃j,k=j+1:=⟨k -1,I⟩;obtain⟨hq,vm,ek,rfl,N0,wy⟩:=ZV (l:=ul) (j:=j) (n:=(aS y).length+1) I;subst N0;have Pd:okW hq:=fun z aG=>bu z (og _ (og _ aG));have Pe:okW ek:=fun z aG=>bu z (iI _ aG);obtain⟨PQ,rW,Pf⟩:=arn bu wy ph nW;refine aa 0x31842108439d5f57 ?_;refine' W.step rfl (Exec.val rfl rfl (aaD rfl rfl (eB rfl) rfl rfl ?aN ?ab ?ad ?aL ?a6) ?_);case aN=>exact cC
     case ab=>exact cC
     case ad=>exact cC
     case aL=>exact cC
     case a6=>exact cC
     rw[show 0+(((hq.length+1:Nat):Int) -1).toNat*1=hq.length by omega,show(((hq.length+1:Nat):Int) -1+((aS y).length:Int)+1 -(((hq.length+1:Nat):Int) -1)).toNat=n+3 by omega,show(((hq.length+1:Nat):Int) -1).toNat=hq.length by omega];refine eT V.k2 ?_;refine' W.step rfl (Exec.call rfl rfl rfl rfl rfl rfl rfl (bl:=[et .u64 120 uy (hq++vm++ek)]) (c2:=[et .u64 120 IB q]) (.refl _) trivial (apL (n:=n) J3 (by rw[VY];exact az) (tJ Ds) I Pf I I I I (fun v1 ab=>F9 _ (tJ Ds) VY r' v1 (by rw[show(aS y).length -1=n+1 by omega];exact ab)) (by rw[r'];exact PQ)) ?_);rintro v' m' ae hle ⟨AZ,rfl,rfl,PO,PR,Ge,Po,rfl⟩;refine eT V.c7 ?_;refine' iK ?hs ?_;case hs=>exact k3 hq.length I
     refine kr ?_;have Jw:x*2 ^ s=a3 (hq++AZ++ek)+18446744073709551616 ^ hq.length*(jQ*a3 ((q.set hq.length (a3 vm / a3 (l3.take (aS y).length))).drop hq.length)):=by
        rw[aq3 I,cH jQ,rJ jQ];refine arp (n:=n+3) I PO rW (by rw[Ge,r']) (by rw[r']) b1
     have OB:a3 ((hq++AZ++ek).drop hq.length)<jQ:=by
        rw[my,LZ,oW (bF _),kE,sR,g5,tX,rW,jk,ik,Ge,r'];exact fz _ PM
     refine aa 0x1810c39 ?_;refine eH ⟨hq.length,hq++AZ++ek,q.set hq.length (a3 vm / a3 (l3.take (aS y).length))⟩ ?_;exact⟨I,by rw[eY,eY] at u2 ⊢;omega,KR (KR Pd PR) Pe,by rw[g6];exact bI,rn FR Po,OB,Jw⟩
    ·obtain rfl:k=0:=I
     rw[zu,h',g5] at b1;rw[g5] at nW;obtain⟨f1,f2⟩:=xm (cS:=x*2 ^ s) (V:=jQ) (g:=a3 q) (by rw[dp (a3 q) jQ];omega) (by rw[cR,h',dp (a3 q) jQ];omega);obtain⟨s1,s2⟩:=Nf (N:=x) (d:=y) (lh s);rw[<-oC,f1] at s1;rw[<-oC,f2,show x*2 ^ s -a3 q*jQ=a3 ul by rw[dp (a3 q)];omega] at s2;obtain⟨J2,_⟩:=aaL (n:=(aS y).length) bu I (zt nW ph);refine aa 0x5f57 ?_;refine aB.draw rfl (by kernel_rfl) (aX:=[.val 0,.val 2,.val 3,.val 4,.val 6,.bD 1,.ca [6,4,3,2],.bD 5,.ca [6],.bD 7,.bD 8,.val 9]) (by kernel_rfl) ?_;refine aa 0x421 ?_;refine' cm.val rfl rfl rfl rfl (Bj rfl rfl (eB rfl) rfl ?aN ?ab ?ad) ?_;case aN=>exact cC
     case ab=>exact cC
     case ad=>first|assumption|exact jD cC
     refine aa 0x3c1 ?_;refine' bh.call rfl rfl rfl rfl rfl rfl rfl rfl rfl (fun x U=>by cases U) (bl:=[et .u64 120 IB q]) (c2:=[et .u64 120 uy ul]) (.swap _ _ _) trivial (xA (l:=q) FR I (bF _) I) ?_;rintro v' m' ae hle ⟨akJ,rfl,OX,PZ,rfl,rfl⟩;refine bh.ca ⟨?jM,?aU,?aQ,?bj,trivial⟩ ?_;case jM=>
      refine' h6.val rfl rfl rfl (Lr rfl rfl) rfl ?he;case he=>exact mu
     case aU=>
      refine' h6.val rfl rfl rfl (Bj rfl rfl (eB rfl) rfl ?aN ?ab ?ad) rfl ?he;case aN=>exact cC
      case ab=>exact cC
      case ad=>first|assumption|exact jD cC
      case he=>exact mu
     case aQ=>
      refine' h6.val rfl rfl rfl (Lr rfl rfl) rfl ?he;case he=>exact mu
     case bj=>
      refine' h6.val rfl rfl rfl (Lr rfl rfl) rfl ?he;case he=>exact mu
     refine' bh.call rfl rfl rfl rfl rfl rfl rfl rfl rfl (fun z aG=>by rcases fU.1 aG with rfl|aG;exact fun _ e=>(by have e:=(Ib e).1;injection e with _ aw aR;omega);cases aG) (bl:=[et .u64 120 uy ul]) (c2:=[et .u64 120 IB q]) (.swap _ _ _) trivial (xA (l:=ul) (n:=(aS y).length) bu I I I) ?_;rintro v' m' ae hle ⟨P8,rfl,aiO,Aw,rfl,rfl⟩;refine aa 0x3be ?_;refine cm.ed rfl fun O2 N'=>?_;rw[J2] at Aw;have PS:cp _ (.slice (some ⟨uy,0,none⟩) P8 ((aS x).length+1)) (a3 ul):=cp.row Aw I I (jD I) N';refine dl rfl (G:=aov PS (by rw[<-Aw,dY];omega) Rr) (h:=?_);rintro v' m' fe cq ⟨_,rfl,pj⟩;have aj6:=pj;obtain⟨gy,eI,rfl,mO⟩:=pj.bQ;refine aa 0x6042 ?_;refine aB.hy rfl fun FK=>?_;refine aa 0x357 ?_;refine bo ?_;first
        |exact⟨af.le.refl _,rfl,_,_,rfl,by rw[rG b9];exact cp.nil,by rw[nD b9];exact di⟩
        |(have c:=IT
          exact⟨((O3.trans O2).trans cq).trans FK,rfl,_,_,rfl,cp.row (by rw[PZ,<-bI,cM (bF _),s1]) I OX (jD I) (af.gC _ _ _),by rw[<-s2];exact aj6.mono FK⟩)
        |(have c:=hM
          exact⟨aM.trans a9,rfl,_,_,rfl,Wy.mono a9,cp.row (l:=[x % y]) (by rw[gl];show aS (a3 [x % y])=_;rw[HI]) hk hk bm (af.gC _ _ _)⟩)
end
end
end Go.Opn
namespace Go.Opn
noncomputable section
def x5(s:Bool)(u v:Nat)(a b:Nat):Int:=if s then(u:Int)*a -(v:Int)*b else(v:Int)*b -(u:Int)*a
theorem UU{bq v0 u1 v1 a b:Nat}{x y:Int}(s:Bool)(al:(bq:Int)*v1 -(v0:Int)*u1=if s then 1 else -1)(U:x=x5 s bq v0 a b)(au:y=x5 (!s) u1 v1 a b):Nat.gcd x.natAbs y.natAbs=Nat.gcd a b:=by
 have key:(a:Int)=v1*x+v0*y/\(b:Int)=u1*x+bq*y:=by
  subst U;subst au
  cases s with
  |true=>
   have al:(bq:Int)*v1 -(v0:Int)*u1=1:=al
   show(a:Int)=v1*((bq:Int)*a -(v0:Int)*b)+v0*((v1:Int)*b -(u1:Int)*a)/\(b:Int)=u1*((bq:Int)*a -(v0:Int)*b)+bq*((v1:Int)*b -(u1:Int)*a)
   constructor
   ·have:(v1:Int)*((bq:Int)*a -(v0:Int)*b)+v0*((v1:Int)*b -(u1:Int)*a)=((bq:Int)*v1 -(v0:Int)*u1)*a:=by
     simp only[BE,mX]
     have aw:(v1:Int)*(bq*a)=bq*v1*a:=by ac_rfl
     have aR:(v1:Int)*(v0*b)=v0*(v1*b):=by ac_rfl
     have cf:(v0:Int)*(u1*a)=v0*u1*a:=by ac_rfl
     omega
    rw[this,al,rD]
   ·have:(u1:Int)*((bq:Int)*a -(v0:Int)*b)+bq*((v1:Int)*b -(u1:Int)*a)=((bq:Int)*v1 -(v0:Int)*u1)*b:=by
     simp only[BE,mX]
     have aw:(u1:Int)*(bq*a)=bq*(u1*a):=by ac_rfl
     have aR:(u1:Int)*(v0*b)=v0*u1*b:=by ac_rfl
     have cf:(bq:Int)*(v1*b)=bq*v1*b:=by ac_rfl
     omega
    rw[this,al,rD]
  |false=>
   have al:(bq:Int)*v1 -(v0:Int)*u1=-1:=al
   show(a:Int)=v1*((v0:Int)*b -(bq:Int)*a)+v0*((u1:Int)*a -(v1:Int)*b)/\(b:Int)=u1*((v0:Int)*b -(bq:Int)*a)+bq*((u1:Int)*a -(v1:Int)*b)
   constructor
   ·have:(v1:Int)*((v0:Int)*b -(bq:Int)*a)+v0*((u1:Int)*a -(v1:Int)*b)=-(((bq:Int)*v1 -(v0:Int)*u1)*a):=by
     simp only[BE,mX]
     have aw:(v1:Int)*(bq*a)=bq*v1*a:=by ac_rfl
     have aR:(v1:Int)*(v0*b)=v0*(v1*b):=by ac_rfl
     have cf:(v0:Int)*(u1*a)=v0*u1*a:=by ac_rfl
     omega
    rw[this,al];omega
   ·have:(u1:Int)*((v0:Int)*b -(bq:Int)*a)+bq*((u1:Int)*a -(v1:Int)*b)=-(((bq:Int)*v1 -(v0:Int)*u1)*b):=by
     simp only[BE,mX]
     have aw:(u1:Int)*(bq*a)=bq*(u1*a):=by ac_rfl
     have aR:(u1:Int)*(v0*b)=v0*u1*b:=by ac_rfl
     have cf:(bq:Int)*(v1*b)=bq*v1*b:=by ac_rfl
     omega
    rw[this,al];omega
 have r0:∀d:Nat,d ∣ x.natAbs->d ∣ y.natAbs->d ∣ a/\d ∣ b:=fun d ab ad=>by
  have ab:(d:Int) ∣ x:=rC.2 ab
  have ad:(d:Int) ∣ y:=rC.2 ad
  exact⟨ug.1 (by rw[key.1];exact LL (oS ab) (oS ad)),ug.1 (by rw[key.2];exact LL (oS ab) (oS ad))⟩
 have VA:∀(d:Nat) (t:Bool) (u v:Nat),d ∣ a->d ∣ b->d ∣ (x5 t u v a b).natAbs:=fun d t u v ab ad=>by
  have ab:(d:Int) ∣ (a:Int):=ug.2 ab
  have ad:(d:Int) ∣ (b:Int):=ug.2 ad
  refine rC.1 ?_
  unfold x5
  split
  ·exact LM (oS ab) (oS ad)
  ·exact LM (oS ad) (oS ab)
 refine L8 (D' ?_ ?_) (D' ?_ ?_)
 ·exact(r0 _ (kG _ _) (m0 _ _)).1
 ·exact(r0 _ (kG _ _) (m0 _ _)).2
 ·rw[U];exact VA _ _ _ _ (kG _ _) (m0 _ _)
 ·rw[au];exact VA _ _ _ _ (kG _ _) (m0 _ _)
theorem Xd{f1 bY f2 bZ m n a7 bc K M N Qq QH:Nat}(ab:f1*m=a7+bY*n)(ad:bZ*n=bc+f2*m)(iw:M=m*K+Qq)(nS:N=n*K+QH)(H1:f2*Qq<=bc*K)(aF:bc<=a7)(bK:(bY+bZ)*QH<(a7 -bc)*K):f2*M<=bZ*N/\(bY+bZ)*N<(f1+f2)*M:=by
 subst iw;subst nS
 have aw:f1*m*K=a7*K+bY*n*K:=by rw[ab,cR]
 have aR:bZ*n*K=bc*K+f2*m*K:=by rw[ad,cR]
 have cf:(a7 -bc)*K=a7*K -bc*K:=Tf _ _ _
 have dK:bc*K<=a7*K:=eK _ aF
 constructor
 ·rw[cH,cH,<-e4,<-e4]
  have:0<=bZ*QH:=df _
  omega
 ·rw[cH,cH,<-e4,<-e4,cR bY bZ n,cR f1 f2 m,cR (bY*n),cR (f1*m)]
  have:0<=(f1+f2)*Qq:=df _
  omega
structure sV (x y A B:Nat) (a7 bc bq u1 bU v0 v1 v2:Nat) (e:Bool):Prop where
 cX:if e then v1*y=a7+u1*x else u1*x=a7+v1*y
 cW:if e then bU*x=bc+v2*y else v2*y=bc+bU*x
 xs:v2*a7+v1*bc=x
 xI:bU*a7+u1*bc=y
 HB:bU<=v2
 aax:u1<=v1\/(e=false/\v1=0/\u1=1/\bU=0/\v2=1)
 Bh:1<=v2
 xl:v0=0\/((if e then bq*v1=v0*u1+1 else v0*u1=bq*v1+1)/\(if e then v0*B<=bq*A/\u1*A<=v1*B/\v1*B+v0*B<bq*A+u1*A/\bq*A<=v0*B+B else bq*A<=v0*B/\v1*B<=u1*A/\u1*A+bq*A<v0*B+v1*B/\v0*B<=bq*A+B))
 le:(v1=0/\u1=1)\/((if e then u1*A<=v1*B/\v1*B<=u1*A+B else v1*B<=u1*A/\u1*A<=v1*B+B))
 B8:if e then v1*bU=u1*v2+1 else u1*v2=v1*bU+1
theorem sV.start{x y A B:Nat}:sV x y A B x y 0 1 0 0 0 1 false:=
 ⟨by simp,by simp,by simp,by simp,by simp,.inr ⟨rfl,rfl,rfl,rfl,rfl⟩,bF _,.inl rfl,.inl ⟨rfl,rfl⟩,by simp⟩
theorem sV.next{x y A B K c3 s0 a7 bc bq u1 bU v0 v1 v2:Nat}{e:Bool}(h:sV x y A B a7 bc bq u1 bU v0 v1 v2 e)(ez:A=x*K+c3)(eh:B=y*K+s0)(hQ:c3<K)(q3:s0<K)(yn:v2<=bc)(gQ:v1+v2<=a7 -bc):
 sV x y A B bc (a7 % bc) u1 bU (u1+a7 / bc*bU) v1 v2 (v1+a7 / bc*v2) (!e):=by
 have ym:0<bc:=hA h.Bh yn
 have Oi:bc<=a7:=by have:=h.Bh;omega
 obtain⟨q,bI⟩:∃q,q=a7 / bc:=⟨_,rfl⟩
 obtain⟨r,aq⟩:∃r,r=a7 % bc:=⟨_,rfl⟩
 have VB:a7=q*bc+r:=by rw[bI,aq,dp];exact(lI _ _).symm
 rw[<-bI,<-aq]
 have nY:1<=q:=by rw[bI];exact L7 Oi ym
 have F5:u1+q*bU<=v1+q*v2:=by
  have aL:q*bU<=q*v2:=hf _ h.HB
  rcases h.aax with a6|⟨_,fb,fX,na,Cp⟩
  ·omega
  ·rw[fX,na,Cp];omega
 have fA:∀X:Nat,(u1+q*bU)*X=u1*X+q*(bU*X):=fun X=>by rw[cR,e4]
 have o2:∀X:Nat,(v1+q*v2)*X=v1*X+q*(v2*X):=fun X=>by rw[cR,e4]
 have V':(if e then v2*B<=bU*A/\(u1+bU)*A<(v1+v2)*B else bU*A<=v2*B/\(v1+v2)*B<(u1+bU)*A):=by
  have hD:0<K:=by omega
  have Wt:v2*K<=bc*K:=eK _ yn
  have Wl:(v1+v2)*K<=(a7 -bc)*K:=eK _ gQ
  have PL:0<v1+v2:=by have:=h.Bh;omega
  cases e with
  |false=>
   have ab:u1*x=a7+v1*y:=h.cX
   have ad:v2*y=bc+bU*x:=h.cW
   refine Xd ab ad ez eh ?_ Oi ?_
   ·exact dA (rI h.HB (rH hQ)) Wt
   ·exact hA (Md q3 PL) Wl
  |true=>
   have ab:v1*y=a7+u1*x:=h.cX
   have ad:bU*x=bc+v2*y:=h.cW
   refine Xd ab ad eh ez ?_ Oi ?_
   ·exact dA (hf v2 (rH q3)) Wt
   ·have hu:u1<=v1:=by
     rcases h.aax with a6|⟨a6,_⟩
     ·exact a6
     ·cases a6
    have fb:(u1+bU)*c3<=(v1+v2)*c3:=eK _ (by have:=h.HB;omega)
    have fX:=Md hQ PL
    exact nC fb (hA fX Wl)
 have hle:=h.le
 have yp:=h.B8
 have U:=h.xs
 have au:=h.xI
 have h1:=h.cX
 have jK:=h.cW
 have atH:=h.Bh
 have p7:v2<=q*v2:=by have:=eK v2 nY;omega
 have arR:v2*a7=v2*(q*bc)+v2*r:=by rw[VB,cH]
 have arS:bU*a7=bU*(q*bc)+bU*r:=by rw[VB,cH]
 have arT:v2*(q*bc)=q*(v2*bc):=by ac_rfl
 have arU:bU*(q*bc)=q*(bU*bc):=by ac_rfl
 cases e with
 |false=>
  have h1:u1*x=a7+v1*y:=h1
  have jK:v2*y=bc+bU*x:=jK
  have yp:u1*v2=v1*bU+1:=yp
  obtain⟨cP,gW⟩:bU*A<=v2*B/\(v1+v2)*B<(u1+bU)*A:=V'
  rw[cR,cR] at gW
  have aH:q*(v2*y)=q*bc+q*(bU*x):=by rw[jK,cH]
  refine⟨jK,?_,?_,?_,F5,.inl h.HB,by omega,?_,?_,?_⟩
  ·show(u1+q*bU)*x=r+(v1+q*v2)*y
   rw[fA,o2];omega
  ·rw[o2];omega
  ·rw[fA];omega
  ·by_cases ar:v1=0
   ·exact .inl ar
   ·refine .inr ⟨yp,?_⟩
    rcases hle with⟨k,_⟩|k
    ·exact absurd k ar
    ·obtain⟨aU,aQ⟩:v1*B<=u1*A/\u1*A<=v1*B+B:=k
     exact⟨aU,cP,by omega,aQ⟩
  ·refine .inr ⟨cP,?_⟩
   rcases hle with⟨aU,aQ⟩|k
   ·rw[aU,aQ] at yp
    have lu:v2=1:=by omega
    rw[lu]
    omega
   ·obtain⟨aU,aQ⟩:v1*B<=u1*A/\u1*A<=v1*B+B:=k
    omega
  ·show v2*(u1+q*bU)=bU*(v1+q*v2)+1
   rw[cH,cH]
   have bY:v2*u1=u1*v2:=dp _ _
   have bZ:v2*(q*bU)=bU*(q*v2):=by ac_rfl
   have cz:bU*v1=v1*bU:=dp _ _
   omega
 |true=>
  have h1:v1*y=a7+u1*x:=h1
  have jK:bU*x=bc+v2*y:=jK
  have yp:v1*bU=u1*v2+1:=yp
  obtain⟨cP,gW⟩:v2*B<=bU*A/\(u1+bU)*A<(v1+v2)*B:=V'
  rw[cR,cR] at gW
  have aH:q*(bU*x)=q*bc+q*(v2*y):=by rw[jK,cH]
  have Ws:¬(v1=0):=fun k=>by rw[k,jA] at yp;omega
  refine⟨jK,?_,?_,?_,F5,.inl h.HB,by omega,?_,?_,?_⟩
  ·show(v1+q*v2)*y=r+(u1+q*bU)*x
   rw[fA,o2];omega
  ·rw[o2];omega
  ·rw[fA];omega
  ·refine .inr ⟨yp,?_⟩
   rcases hle with⟨k,_⟩|k
   ·exact absurd k Ws
   ·obtain⟨aU,aQ⟩:u1*A<=v1*B/\v1*B<=u1*A+B:=k
    exact⟨aU,cP,by omega,aQ⟩
  ·refine .inr ⟨cP,?_⟩
   rcases hle with⟨k,_⟩|k
   ·exact absurd k Ws
   ·obtain⟨aU,aQ⟩:u1*A<=v1*B/\v1*B<=u1*A+B:=k
    omega
  ·show bU*(v1+q*v2)=v2*(u1+q*bU)+1
   rw[cH,cH]
   have bY:bU*v1=v1*bU:=dp _ _
   have bZ:bU*(q*v2)=v2*(q*bU):=by ac_rfl
   have cz:v2*u1=u1*v2:=dp _ _
   omega
theorem sV.out{x y A B a7 bc bq u1 bU v0 v1 v2:Nat}{e:Bool}(h:sV x y A B a7 bc bq u1 bU v0 v1 v2 e)(ar:v0≠0):
 ∃a b:Nat,(if e then bq*A=v0*B+a/\v1*B=u1*A+b else v0*B=bq*A+a/\u1*A=v1*B+b)/\b<a/\a<=B/\Nat.gcd a b=Nat.gcd A B:=by
 rcases h.xl with k|⟨aU,aQ⟩
 ·exact absurd k ar
 cases e with
 |true=>
  have aU:bq*v1=v0*u1+1:=aU
  obtain⟨aK,aH,bJ,dU⟩:v0*B<=bq*A/\u1*A<=v1*B/\v1*B+v0*B<bq*A+u1*A/\bq*A<=v0*B+B:=aQ
  refine⟨bq*A -v0*B,v1*B -u1*A,⟨by omega,by omega⟩,by omega,by omega,?_⟩
  have:=UU (bq:=bq) (v0:=v0) (u1:=u1) (v1:=v1) (a:=A) (b:=B) true (by
   show(bq:Int)*v1 -(v0:Int)*u1=1
   rw[<-hc,<-hc,aU];omega) rfl rfl
  have aw:x5 true bq v0 A B=((bq*A -v0*B:Nat):Int):=by
   show(bq:Int)*A -(v0:Int)*B=_
   rw[<-hc,<-hc];omega
  have aR:x5 (!true) u1 v1 A B=((v1*B -u1*A:Nat):Int):=by
   show(v1:Int)*B -(u1:Int)*A=_
   rw[<-hc,<-hc];omega
  rw[aw,aR,hK,hK] at this
  exact this
 |false=>
  have aU:v0*u1=bq*v1+1:=aU
  obtain⟨aK,aH,bJ,dU⟩:bq*A<=v0*B/\v1*B<=u1*A/\u1*A+bq*A<v0*B+v1*B/\v0*B<=bq*A+B:=aQ
  refine⟨v0*B -bq*A,u1*A -v1*B,⟨by omega,by omega⟩,by omega,by omega,?_⟩
  have:=UU (bq:=bq) (v0:=v0) (u1:=u1) (v1:=v1) (a:=A) (b:=B) false (by
   show(bq:Int)*v1 -(v0:Int)*u1=-1
   rw[<-hc,<-hc,aU];omega) rfl rfl
  have aw:x5 false bq v0 A B=((v0*B -bq*A:Nat):Int):=by
   show(v0:Int)*B -(bq:Int)*A=_
   rw[<-hc,<-hc];omega
  have aR:x5 (!false) u1 v1 A B=((u1*A -v1*B:Nat):Int):=by
   show(u1:Int)*A -(v1:Int)*B=_
   rw[<-hc,<-hc];omega
  rw[aw,aR,hK,hK] at this
  exact this
theorem sV.bounds{x y A B a7 bc bq u1 bU v0 v1 v2:Nat}{e:Bool}(h:sV x y A B a7 bc bq u1 bU v0 v1 v2 e)(aF:1<=a7)(ym:1<=bc):v2<=x/\v1+v2<=x/\bU<=y/\u1+bU<=y:=by
 have U:=h.xs
 have au:=h.xI
 have ab:=hf v2 aF
 have ad:=hf v1 ym
 have aL:=hf bU aF
 have a6:=hf u1 ym
 omega
end
end Go.Opn
