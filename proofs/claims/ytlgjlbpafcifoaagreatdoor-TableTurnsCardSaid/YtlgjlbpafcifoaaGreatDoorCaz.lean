/- A part of the proof of TableTurns. -/
import Derived.Test.YtlgjlbpafcifoaaGreatDoorCay
import Derived.Test.YtlgjlbpafcifoaaGreatDoorCav
set_option maxRecDepth 100000
set_option maxHeartbeats 8000000
set_option linter.unusedVariables false
set_option linter.unusedSimpArgs false
namespace Go.Opn
noncomputable section
open Go.Cre Go.RowKit Go.Proofs
theorem QV{D:List Nat}{z:Nat}(h:dG D)(aG:z<1000000000):dG (D++[z]):=Dq h fun x U=>by rw[zn.1 U];exact aG
theorem KK{A D W C:List Nat}{i k off x:Nat}(al:D.length=i)(hk:i<=k)(h:W[k]?=some x)(ah:off=A.length+k):nth (bW .u32 (A++(D++W.drop i)++C)) off=some (.int .u32 (x:Int)):=by
 refine qk (i:=A.length+k) ?_ ah;rw[UV al hk (gS.1 h).1];exact h
theorem QM{A W C:List Nat}{k off x:Nat}(h:W[k]?=some x)(ah:off=A.length+k):nth (bW .u32 (A++W++C)) off=some (.int .u32 (x:Int)):=by
 have:=KK (A:=A) (D:=[]) (W:=W) (C:=C) (i:=0) rfl (df k) h ah;rwa [kE,g5] at this
theorem Ru{A D W C:List Nat}{i y off:Nat}(al:D.length=i)(h:i<W.length)(ah:off=A.length+i):gf off (bW .u32 (A++(D++W.drop i)++C)) [.int .u32 (y:Int)]=some (bW .u32 (A++((D++[y])++W.drop (i+1))++C)):=by
 rw[<-pz al h];exact k3 (A.length+i) (by rw[eY,eY,eY,ld];omega) ah
theorem cJ.alo{J:af}{b:Option Addr}{n c:Nat}{l:List Nat}(h:cJ .u32 J (.slice b n c) l)(ah:dG l)(ao:0<l.length):∃a off cells e,b=some ⟨a,off,none⟩/\J a=some (cells,e)/\∀i:Nat,i<l.length->∃x,l[i]?=some x/\nth cells (off+i*1)=some (.int .u32 (x:Int))/\x<1000000000:=by
 obtain⟨a,off,cells,e,ab,ad,aL⟩:=cJ.at h ao;exact⟨a,off,cells,e,ab,ad,fun i ak=>by obtain⟨x,aU,aQ⟩:=aL i ak;exact⟨x,aU,aQ,pv ah aU⟩⟩
section
variable {Q:cZ Tryz.prog}{g0:Nat}{J:af}
theorem akT{a n cap:Nat}{v:Value}{A ww C vs:List Nat}(ar:cJ .u32 J v vs)(lQ:vs.length=n+2)(oI:dG vs)(wy:ww.length=n+3)(nn:dG ww)(pb:n<=100000)(lM:n+3<=cap)(aie:cap<1000000)(ez:A.length<=1000000)
 (r':∀v1,vs[n+1]?=some v1->500000000<=v1)(b9:aI ww<1000000000*aI vs):
 Fn (aT Q g0) 165 [.slice (some ⟨a,A.length,none⟩) (n+3) cap,v] [et .u32 96 a (A++ww++C)] J (fun u m' ae=>∃xH,u=.int .u32 ((aI ww / aI vs:Nat):Int)/\m'=[et .u32 96 a (A++xH++C)]/\xH.length=n+3/\dG xH/\aI xH=aI ww % aI vs/\aI ww / aI vs<1000000000/\J=ae):=by
 obtain⟨bv,o5,rfl⟩:=ar.form;obtain⟨zA,Hf,EM,uH,rfl,aht,wT⟩:=ar.alo oI I;obtain⟨bU,oB,alq⟩:=Hn nn (i:=n+2) I;obtain⟨u1,CS,Df⟩:=Hn nn (i:=n+1) I;obtain⟨bq,yy,AF⟩:=Hn nn (i:=n) I;obtain⟨v1,lu,G1,GA⟩:=wT (n+1) I;obtain⟨v0,CT,G0,AG⟩:=wT n I;have aqj:=r' v1 lu;have Az:=akI wy lQ nn oI oB CS yy lu CT;have amh:nth (bW .u32 (A++ww++C)) (A.length+((n+2:Nat):Int).toNat*1)=some (.int .u32 (bU:Int)):=QM oB I;have amg:nth (bW .u32 (A++ww++C)) (A.length+(((n+2:Nat):Int) -1).toNat*1)=some (.int .u32 (u1:Int)):=QM CS I;have amf:nth (bW .u32 (A++ww++C)) (A.length+(((n+2:Nat):Int) -2).toNat*1)=some (.int .u32 (bq:Int)):=QM yy I;have G1:nth EM (Hf+(((n+2:Nat):Int) -1).toNat*1)=some (.int .u32 (v1:Int)):=by rw[show(((n+2:Nat):Int) -1).toNat=n+1 by omega];exact G1
 have G0:nth EM (Hf+(((n+2:Nat):Int) -2).toNat*1)=some (.int .u32 (v0:Int)):=by rw[show(((n+2:Nat):Int) -2).toNat=n by omega];exact G0
 have Fo:0<aI vs:=by
  have e:=lC lu;rw[cM (show vs.length<=n+1+1 by omega)] at e;have:0<1000000000 ^ (n+1)*v1:=kp (um bm) I;omega
 --sA first at2 is not asi sA asA
 have atG:bU<=v1:=by
  have aw:=lC oB;rw[cM (show ww.length<=n+2+1 by omega)] at aw;have aR:=lC lu;rw[cM (show vs.length<=n+1+1 by omega)] at aR;have du:=lB (vi (i:=n+1) oI);rw[dY,fV I] at du;apply qF
  intro q;have ab:1000000000 ^ (n+2)*(v1+1)<=1000000000 ^ (n+2)*bU:=hf _ q;have ad:1000000000*aI vs<1000000000*(1000000000 ^ (n+1)*(v1+1)):=Md (by rw[cH,gJ];omega) bm;have aL:1000000000*(1000000000 ^ (n+1)*(v1+1))=1000000000 ^ (n+2)*(v1+1):=by rw[ff 1000000000 (n+1)];ac_rfl
  omega
 rw[lQ];refine Fn.b8 (b7 Tryz.func165) rfl rfl fun H=>?_;refine aa 0x17c08a1ce059 ?_;refine aB.draw rfl (by kernel_rfl) (aX:=[.val 0,.val 1,.val 2,.val 3,.val 4,.val 5,.val 6,.val 7,.val 8,.val 9,.val 10,.val 11,.val 12,.val 13]) (by kernel_rfl) ?_;refine aa 0x6043724c30846e49821 ?_;rw[show(bU:Int)*1000000000+(u1:Int)=((bU*1000000000+u1:Nat):Int) by omega];obtain⟨hT,r6⟩:∃q,q=(bU*1000000000+u1) / v1:=⟨_,rfl⟩;obtain⟨kB,cx⟩:∃r,r=(bU*1000000000+u1) % v1:=⟨_,rfl⟩;have hm:hT*v1+kB=bU*1000000000+u1:=by rw[r6,cx,dp];exact lI _ v1
 have Wg:kB<v1:=by rw[cx];exact fz _ I
 have fE:aI ww<(hT+1)*aI vs:=Az.start AF (by rw[cR,h'];omega);have FW:hT<=1000000001:=by
  rw[r6];have:(bU*1000000000+u1) / v1<1000000002:=(mB I).2 I;omega
 refine a' ?_;refine aB.draw rfl (by kernel_rfl) (aX:=[.val 0,.val 1,.val 2,.val 3,.val 4,.val 5,.val 6,.val 7,.val 8,.val 9,.val 10,.val 11,.val 12,.val 13,.val 14,.val 15,.val 16,.val 17]) (by kernel_rfl) ?_;refine aa 0x7b92618421 ?_;rw[sy (x:=bU*1000000000+u1) (d:=v1) I,<-r6];refine aa 0x7b92618421 ?_;rw[show(((bU*1000000000+u1:Nat):Int)).tmod (v1:Int)=(kB:Int) from by rw[cx];rfl];refine aa 0x6042 ?_;refine dN [7,8,0,1,5] ?_;refine a' ?_;refine' aB.lk 2 (fun(g:Nat)=>⟨[(7,.int .u64 (g:Int))],[et .u32 96 a (A++ww++C)],J,g<=1000000000/\aI ww<(g+1)*aI vs/\g*aI vs<aI ww+aI vs⟩) ?vY ?v8;case vY=>
  refine aB.block ?_;refine c8 [(7,.int .u64 ((hT):Int)),(8,.int .u64 ((kB):Int)),(0,_),(1,_),(5,_)] ?_;refine a' ?_;refine' aB.ja (fun(bE:Nat×Nat)=>match bE with|(g,r)=>⟨[(7,.int .u64 (g:Int)),(8,.int .u64 (r:Int))],g<=1000000001/\(r<1000000000\/g<=1000000000)/\r<2000000000/\g*v1+r=bU*1000000000+u1/\aI ww<(g+1)*aI vs,g⟩) ⟨hT,kB⟩ ?hs ?bb
  case hs=>exact⟨FW,.inl I,I,hm,fE⟩
  case bb=>
   rintro⟨g,r⟩ hinv;try simp only at hinv
   obtain⟨iW,Ad,yv,CE,uS⟩:=hinv;obtain⟨P,cw⟩:∃P,P=g*v0:=⟨_,rfl⟩;have rY:P<=1000000001*999999999:=by rw[cw];exact rI iW I
   have Vd:(g:Int)*(v0:Int)=(P:Int):=by rw[cw,hc]
   refine dN [0,1,5,7,8] ?_;refine a' ?_;refine' aB.fD 0 [(74,.bool (decide ((r<1000000000/\(1000000000<=g\/r*1000000000+bq<P)))))] ?zJ ?zP;case zJ=>
    refine aB.Ui [] rfl (by kernel_rfl) (aX:=[.val 0,.val 1,.val 2,.val 3,.val 4,.val 5,.val 6,.val 7,.val 8,.val 9,.val 10,.val 11,.val 12,.val 13,.val 14,.val 15,.val 16,.val 17,.val 18,.val 19,.val 20,.val 21,.val 22,.val 23,.val 24,.val 25]) (by kernel_rfl) ?_;refine aa 0x481 ?_;refine Mk 51 (fun agX=>?_) fun agX=>?_
    ·refine aa 0x481 ?_;refine Mk 54 (fun agZ=>?_) fun agZ=>?_
     ·refine aa 0x184237bdef7bdef7bdef7bdef7b ?_;refine dO (dS ?_);first|omega|(simp_all;done)|(simp_all;omega)
     ·refine aa 0x1842083724c3084611b92618421 ?_;refine dO (dS ?_);first|omega|(simp_all;done)|(simp_all;omega)
    ·refine aa 0xc237bdef7bdef7bdef7bdef7bdef7b ?_;refine dO (dS ?_);first|omega|(simp_all;done)|(simp_all;omega)
   case zP=>
    refine a' ?_;refine If (fun TT=>?_) fun TT=>?_
    ·have CJ:aI ww<g*aI vs:=by
       obtain⟨aU,aQ⟩:=TT;by_cases k:r*1000000000+bq<g*v0
       ·exact Az.more CE k
       ·have bj:1000000000<=g:=by rcases aQ with aQ|aQ<;>omega
        exact hA b9 (eK _ bj)
     have nh:1<=g:=by
       rcases il g with k|k
       ·rw[k,jA] at CJ;omega
       ·exact k
     refine aa 0xc086e498610873810c39d5f57 ?_;refine jf ⟨g -1,r+v1⟩ ?_;exact⟨I,.inr I,I,by
      obtain⟨p,rfl⟩:∃p,g=p+1:=⟨g -1,I⟩;rw[cR,h'] at CE;rw[lg];omega,by rw[xT nh];exact CJ⟩
    ·have OO:g<=1000000000:=I
     have ahH:g*v0<=r*1000000000+bq:=by
       rw[<-cw];by_cases k:r<1000000000
       ·omega
       ·have aQ:P<=1000000000*999999999:=by rw[cw];exact rI OO I
        omega
     refine aa 0x357 ?_;refine fW (g) ?_;exact⟨OO,uS,Az.less CE ahH OO bm I⟩
 case v8=>
  rintro g hinv;try simp only at hinv
  obtain⟨iW,uS,aiE⟩:=hinv;refine aa 0x357c04a1ce059 ?_;refine c8 [(87,.int .i64 ((0):Int)),(9,.int .u64 ((0):Int)),(0,_),(1,_),(5,_),(7,_),(85,_),(86,_)] ?_;refine a' ?_;refine' aB.bA (fun(bE:Nat×Nat×(List Nat))=>match bE with|(i,c,D)=>⟨[(87,.int .i64 (i:Int)),(9,.int .u64 (c:Int))],[et .u32 96 a (A++(D++ww.drop i)++C)],J,i<=n+2/\c<=1000000000/\D.length=i/\dG D/\aI D+g*aI (vs.take i)=aI (ww.take i)+1000000000 ^ i*c,n+2 -i⟩) ⟨0,0,[]⟩ ?hs ?bb
  case hs=>exact⟨df _,by decide,rfl,KQ,by rw[fq,fq];rfl⟩
  case bb=>
   rintro⟨i,c,D⟩ hinv;try simp only at hinv
   obtain⟨ak,aD,cK,bu,mK⟩:=hinv;refine aa 0xbe099 ?_;refine If (fun EI=>?_) fun EI=>?_
   ·obtain⟨w,hw,QQ,lw⟩:=wT i I;obtain⟨u,hu,AE⟩:=Hn nn (i:=i) I;have GZ:nth (bW .u32 (A++(D++ww.drop i)++C)) (A.length+(i:Int).toNat*1)=some (.int .u32 (u:Int)):=KK cK (bF _) hu I;obtain⟨P,cw⟩:∃P,P=g*w:=⟨_,rfl⟩;have rY:P<=1000000000*999999999:=by rw[cw];exact rI iW I
    have Vd:(g:Int)*(w:Int)=(P:Int):=by rw[cw,hc]
    obtain⟨s,hs⟩:∃s,s=P+c:=⟨_,rfl⟩;refine aa 0xc08611b821ce04249839d5f57 ?_;rw[show(g:Int)*(w:Int)+(c:Int)=(s:Int) by omega];refine aa 0x1813c39 ?_;rw[show IntKind.u64.wrap ((s:Int).tdiv 1000000000)=((s / 1000000000:Nat):Int) from sy (d:=1000000000) I];refine aa 0x785c930439 ?_;rw[show(s:Int).tmod 1000000000=((s % 1000000000:Nat):Int) from rfl];refine aa 0xc1039c086e ?_;refine dN [9,13,110,0,1,5,7,10,85,86,87] ?_;refine a' ?_;refine' aB.lk 3 (fun(bE:(Nat)×(Nat))=>match bE with|(z,bN)=>⟨[(13,.int .i64 (z:Int)),(9,.int .u64 (bN:Int))],[et .u32 96 a (A++(D++ww.drop i)++C)],J,z<1000000000/\z+P+c=u+1000000000*bN/\bN<=1000000000⟩) ?adI ?aeT
    case adI=>
     refine If (fun ac5=>?_) fun ac5=>?_
     ·refine aa 0x3021873810c39 ?_;refine fW ⟨u+1000000000 -s % 1000000000,s / 1000000000+1⟩ ?_;exact⟨I,I,I⟩
     ·refine jg ?_;refine fW ⟨u -s % 1000000000,s / 1000000000⟩ ?_;exact⟨I,I,I⟩
    case aeT=>
     rintro⟨z,bN⟩ hinv;try simp only at hinv
     obtain⟨aG,PY,gQ⟩:=hinv;refine aa 0xce08439 ?_;refine' iK ?hs ?_;case hs=>exact Ru cK I I
     refine aa 0x1808f38 ?_;refine eH ⟨i+1,bN,D++[z]⟩ ?_;exact⟨I,gQ,w3 cK,QV bu aG,alF cK hw hu mK (by rw[<-cw];exact PY)⟩
   ·obtain rfl:i=n+2:=I
    have aum:nth (bW .u32 (A++(D++ww.drop (n+2))++C)) (A.length+((n+2:Nat):Int).toNat*1)=some (.int .u32 (bU:Int)):=KK cK (bF _) oB I;refine aa 0x6081724c10e757 ?_;refine dN [1,7,127,0,5] ?_;refine a' ?_;refine' aB.lk 3 (fun(bE:(Nat)×(List Nat))=>match bE with|(bZ,E)=>⟨[(7,.int .u64 (bZ:Int))],[et .u32 96 a (A++(E++ww.drop (n+2))++C)],J,aI ww / aI vs=bZ/\aI ww % aI vs=aI E/\E.length=n+2/\dG E⟩) ?adJ ?aeU
    case adJ=>
     refine If (fun ac8=>?_) fun ac8=>?_
     ·have nh:1<=g:=by
       rcases il g with k|k
       ·have aw:=lB bu
        rw[cK] at aw;rw[k,jA,ik] at mK;have:=hf (1000000000 ^ (n+2)) (show 1<=c by omega);omega
       ·exact k
      have amx:dG (D++ww.drop (n+2)):=Dq bu (KP nn);have at1:(D++ww.drop (n+2)).length=n+3:=by rw[eY,ld];omega
      refine aa 0x1810c39 ?_;rw[show(g:Int) -1=((g -1:Nat):Int) by omega];refine aa 0x357c04a1ce059 ?_;refine c8 [(132,.int .i64 ((0):Int)),(14,.int .u32 ((0):Int)),(0,_),(5,_),(7,_),(130,_),(131,_)] ?_;refine a' ?_;refine' aB.bA (fun(bE:Nat×Nat×(List Nat))=>match bE with|(i,m,E)=>⟨[(132,.int .i64 (i:Int)),(14,.int .u32 (m:Int))],[et .u32 96 a (A++(E++(D++ww.drop (n+2)).drop i)++C)],J,i<=n+2/\m<=1/\E.length=i/\dG E/\aI E+1000000000 ^ i*m=aI ((D++ww.drop (n+2)).take i)+aI (vs.take i),n+2 -i⟩) ⟨0,0,[]⟩ ?hs ?bb
      case hs=>exact⟨df _,by decide,rfl,KQ,by rw[fq,fq];rfl⟩
      case bb=>
       rintro⟨i,m,E⟩ hinv;try simp only at hinv
       obtain⟨ak,p5,fc,FQ,PK⟩:=hinv;refine aa 0xbe099 ?_;refine If (fun ac9=>?_) fun ac9=>?_
       ·obtain⟨w,hw,QQ,lw⟩:=wT i I;obtain⟨u,hu,AE⟩:=Hn amx (i:=i) I;have GZ:nth (bW .u32 (A++(E++(D++ww.drop (n+2)).drop i)++C)) (A.length+(i:Int).toNat*1)=some (.int .u32 (u:Int)):=KK fc (bF _) hu I;refine aa 0x1820738167021846149821ce04249839d5f57 ?_;refine dN [14,17,146,0,5,7,15,130,131,132] ?_;refine a' ?_;refine' aB.lk 3 (fun(bE:(Nat)×(Nat))=>match bE with|(z,eA)=>⟨[(17,.int .u32 (z:Int)),(14,.int .u32 (eA:Int))],[et .u32 96 a (A++(E++(D++ww.drop (n+2)).drop i)++C)],J,z<1000000000/\z+1000000000*eA=u+w+m/\eA<=1⟩) ?adK ?aeV
        case adK=>
         refine If (fun ada=>?_) fun ada=>?_
         ·refine aa 0xc0b3810c39 ?_;refine fW ⟨u+w+m -1000000000,1⟩ ?_;exact⟨I,I,I⟩
         ·refine jg ?_;refine fW ⟨u+w+m,0⟩ ?_;exact⟨I,I,I⟩
        case aeV=>
         rintro⟨z,eA⟩ hinv;try simp only at hinv
         obtain⟨aG,PY,V0⟩:=hinv;refine aa 0x608439 ?_;refine' iK ?hs ?_;case hs=>exact Ru fc I I
         refine aa 0x1808f38 ?_;refine eH ⟨i+1,eA,E++[z]⟩ ?_;exact⟨I,V0,w3 fc,QV FQ aG,ack fc hw hu PK PY⟩
       ·obtain rfl:i=n+2:=I
        rw[List.take_left' cK] at PK;have mF:=aeM (n:=n+2) wy lQ cK fc bu FQ oI oB mK I aiE PK p5;refine aa 0x357 ?_;refine fW ⟨g -1,E⟩ ?_ (hm:=⟨[],by rw[ij];show List.Perm [(a,dw.row (bW .u32 (A++(E++ww.drop (n+2))++C)) 96)] [(a,dw.row (bW .u32 (A++(E++(D++ww.drop (n+2)).drop (n+2))++C)) 96)];rw[List.drop_left' cK]⟩);exact⟨mF.2.1,mF.2.2,fc,FQ⟩
     ·have mF:=aeL (n:=n+2) wy lQ cK bu oI oB mK I uS;refine jg ?_;refine fW ⟨g,D⟩ ?_;exact⟨mF.1,mF.2,cK,bu⟩
    case aeU=>
     rintro⟨bZ,E⟩ hinv;try simp only at hinv
     obtain⟨o8,tq,fc,FQ⟩:=hinv;refine aa 0x30439 ?_;refine' iK ?hs ?_;case hs=>exact Ru (y:=0) fc I I
     refine kr ?_;have ajh:bZ<1000000000:=by
       rw[<-o8];exact(mB Fo).2 b9
     refine aa 0x6af813839 ?_;refine oi ?_;exact⟨E++[0],by rw[o8];rfl,by rw[oW (show ww.length<=n+2+1 by omega),ij],w3 fc,QV FQ bm,by rw[HF,jk,ik,tq],by rw[o8];exact ajh,rfl⟩
end
section
variable {Q:cZ Tryz.prog}{g0:Nat}{J:af}
theorem Xa{v w:Value}{x y:Nat}(U:cD J v x)(au:cD J w y)(hb:(ag x).length<=100000)(jb:(ag y).length<=100000)(k':y≠0):Fn (aT Q g0) 141 [v,w] [] J (fun u m' ae=>J.le ae/\m'=[]/\∃q r,u=.tuple #[q,r]/\cD ae q (x / y)/\cD ae r (x % y)):=by
 have di:=U;have eN:=au;obtain⟨bs,bp,rfl,aK⟩:=U.bQ;obtain⟨bM,bN,rfl,aH⟩:=au.bQ;refine Fn.b8 (b7 Tryz.func141) rfl rfl fun H=>?_;refine aa 0x439c0859 ?_;refine br (G:=W5 di eN hb jb) (h:=?_);rintro v' m' ae hle ⟨rfl,rfl,rfl⟩;refine aa 0x5f04 ?_;refine If (fun l8=>?_) fun l8=>?_
 ·have b9:=rP.1 l8;refine aa 0x39 ?_;refine br (G:=W7 di hb) (h:=?_);rintro v' m' bi aM ⟨_,rfl,PN⟩;refine aa 0x1abe042 ?_;refine bo ?_;first
   |exact⟨aM,rfl,_,_,rfl,by rw[rG b9];exact cD.nil,by rw[nD b9];exact PN⟩
 ·have jq:y<=x:=qF fun h=>l8 (rP.2 h);have iX:(ag y).length<=(ag x).length:=w2 jq;have wV:0<(ag y).length:=by have:=tG k';omega
  obtain⟨BS,hp,s5,nR,rfl,Ct,n4⟩:=eN.at k';refine aa 0xbe0850e757 ?_;refine If (fun j'=>?_) fun j'=>?_
  ·obtain⟨aw,aR,cf⟩:=Qd (x:=y) I;obtain⟨d,al,fT,_⟩:=n4 0 I;rw[aw] at al;obtain rfl:y=d:=sS al;have ato:x % y<y:=fz _ I;refine aa 0x930439 ?_;refine br (G:=ZO di hb I I) (h:=?_);rintro v' m' bi aM ⟨_,rfl,DQ,rfl,qa⟩;refine aa 0x1c10e70211ce1 ?_;refine br (G:=AB (n:=x % y) I) (h:=?_);rintro v' m' de a9 ⟨_,rfl,pj⟩;refine aa 0x1abe042 ?_;refine bo ?_;first
    |exact⟨aM,rfl,_,_,rfl,by rw[rG b9];exact cD.nil,by rw[nD b9];exact PN⟩
    |(have c:=j'
      exact⟨aM.trans a9,rfl,_,_,rfl,qa.mono a9,pj⟩)
  ·obtain⟨n,az⟩:∃n,(ag y).length=n+2:=⟨(ag y).length -2,I⟩;obtain⟨qy,PV,G2,XH⟩:=n4 ((ag y).length -1) I;have G2:nth s5 (hp+(((ag y).length:Int) -1).toNat*1)=some (.int .u32 (qy:Int)):=by rw[show(((ag y).length:Int) -1).toNat=(ag y).length -1 by omega];exact G2
   obtain⟨md,FN⟩:∃md,md=(ag x).length -(ag y).length+1:=⟨_,rfl⟩;obtain⟨f,aA⟩:∃f,f=1000000000 / (qy+1):=⟨_,rfl⟩;obtain⟨f1,f2,ph,F9,F8⟩:=al8 PV k' aA;obtain⟨jQ,oC⟩:∃jQ,jQ=y*f:=⟨_,rfl⟩;rw[<-oC] at ph F9 F8;have PM:0<jQ:=by rw[oC];exact kp I f1
   have At:=n6 (x:=x) (bF _);refine aa 0xdc930c21ce0450e757 ?_;rw[show(qy:Int)+1=((qy+1:Nat):Int) by omega];refine aa 0x604f ?_;rw[show IntKind.u64.wrap ((1000000000:Int).tdiv ((qy+1:Nat):Int))=(f:Int) from by rw[aA];exact sy (x:=1000000000) (d:=qy+1) bm];refine aa 0x6508439 ?_;rw[show((ag x).length:Int)+1=(((ag x).length+1:Nat):Int) by omega];refine br (G:=XB (size:=(ag x).length+1) di I I I (by rw[ff];exact Mc At I)) (h:=?_);rintro v' m' ae hle ⟨uy,rA,rfl,rfl,GD,QX,HK,rfl⟩;refine aa 0x210e702 ?_;refine br (G:=XB (size:=(ag y).length) eN (bF _) I I (by rw[<-oC];exact ph)) (h:=?_);rintro v' m' ae hle ⟨zA,l3,rfl,rfl,XJ,Ds,vv,rfl⟩;refine aa 0x302 ?_;refine aB.hy rfl fun O3=>?_;rw[<-oC] at vv;have J3:=cJ.row (J:=J.add zA (bW .u32 l3,96)) (k:=.u32) (l:=l3) (n:=(ag y).length) (cap:=(ag y).length) I (bF _) (jD I) (af.gC _ _ _);rw[cM (show l3.length<=(ag y).length by omega)] at J3;refine aa 0x6309439 ?_;refine' W.step rfl (.of (pG rfl rfl rfl rfl rfl (eB rfl) ?aN ?ab ?ad fun IC=>?_));case aN=>exact cC
   case ab=>exact cC
   case ad=>exact cC
   rw[show(((ag x).length:Int) -((ag y).length:Int)+1).toNat=md by omega,zero_num];refine aa 0xbeaf810c250e702 ?_;refine aB.mN (.swap _ _ _) ?_;refine c8 [(12,.int .i64 (((md):Int) -1)),(4,_),(8,_),(9,_),(10,_),(11,_)] ?_;refine a' ?_;refine' aB.bA (fun(bE:Nat×(List Nat)×(List Nat))=>match bE with|(k,ul,q)=>⟨[(12,.int .i64 ((k:Int) -1))],[et .u32 96 uy ul,et .u32 96 IC q],(J.add zA (bW .u32 l3,96)),k<=md/\ul.length=(ag x).length+1/\dG ul/\q.length=md/\dG q/\aI (ul.drop k)<jQ/\x*f=aI ul+1000000000 ^ k*(jQ*aI (q.drop k)),k⟩) ⟨md,rA,List.replicate md 0⟩ ?hs ?bb
   case hs=>exact⟨bF _,GD,QX,mA,Dr,by rw[FN];exact aqb GD HK f1 At wV iX F8,by rw[oW (by rw[mA];exact bF _),HK];rfl⟩
   case bb=>
    rintro⟨k,ul,q⟩ hinv;try simp only at hinv
    obtain⟨hk,u2,bu,bI,FR,nW,b1⟩:=hinv;refine aa 0x17c1039 ?_;refine If (fun B0=>?_) fun B0=>?_
    ·obtain⟨j,rfl⟩:∃j,k=j+1:=⟨k -1,I⟩;obtain⟨hq,vm,ek,rfl,N0,wy⟩:=ZV (l:=ul) (j:=j) (n:=(ag y).length+1) I;subst N0;have Pd:dG hq:=fun z aG=>bu z (og _ (og _ aG));have Pe:dG ek:=fun z aG=>bu z (iI _ aG);obtain⟨PQ,rW,Pf⟩:=aro bu wy ph nW;refine aa 0x31842108439d5f57 ?_;refine' W.step rfl (Exec.val rfl rfl (aaD rfl rfl (eB rfl) rfl rfl ?aN ?ab ?ad ?aL ?a6) ?_);case aN=>exact cC
     case ab=>exact cC
     case ad=>exact cC
     case aL=>exact cC
     case a6=>exact cC
     rw[show 0+(((hq.length+1:Nat):Int) -1).toNat*1=hq.length by omega,show(((hq.length+1:Nat):Int) -1+((ag y).length:Int)+1 -(((hq.length+1:Nat):Int) -1)).toNat=n+3 by omega,show(((hq.length+1:Nat):Int) -1).toNat=hq.length by omega];refine eT V.k2 ?_;refine' W.step rfl (Exec.call rfl rfl rfl rfl rfl rfl rfl (bl:=[et .u32 96 uy (hq++vm++ek)]) (c2:=[et .u32 96 IC q]) (.refl _) trivial (akT (n:=n) J3 I Ds I Pf I I I I (fun v1 ab=>F9 _ Ds XJ vv v1 (by rw[show(ag y).length -1=n+1 by omega];exact ab)) (by rw[vv];exact PQ)) ?_);rintro v' m' ae hle ⟨AZ,rfl,rfl,PO,PR,Ge,Po,rfl⟩;refine eT V.c7 ?_;refine' iK ?hs ?_;case hs=>exact k3 hq.length I
     refine kr ?_;have Jw:x*f=aI (hq++AZ++ek)+1000000000 ^ hq.length*(jQ*aI ((q.set hq.length (aI vm / aI l3)).drop hq.length)):=by
        rw[aq0 I,cH jQ,rJ jQ];refine arq (n:=n+3) I PO rW (by rw[Ge,vv]) (by rw[vv]) b1
     have OB:aI ((hq++AZ++ek).drop hq.length)<jQ:=by
        rw[my,LZ,oW (bF _),kE,sR,g5,tW,rW,jk,ik,Ge,vv];exact fz _ PM
     refine aa 0x1810c39 ?_;refine eH ⟨hq.length,hq++AZ++ek,q.set hq.length (aI vm / aI l3)⟩ ?_;exact⟨I,by rw[eY,eY] at u2 ⊢;omega,Dq (Dq Pd PR) Pe,by rw[g6];exact bI,yP FR Po,OB,Jw⟩
    ·obtain rfl:k=0:=I
     rw[zu,h',g5] at b1;rw[g5] at nW;obtain⟨f3,f4⟩:=xm (cS:=x*f) (V:=jQ) (g:=aI q) (by rw[dp (aI q) jQ];omega) (by rw[cR,h',dp (aI q) jQ];omega);obtain⟨s1,s2⟩:=Nf (N:=x) (d:=y) f1;rw[<-oC,f3] at s1;rw[<-oC,f4,show x*f -aI q*jQ=aI ul by rw[dp (aI q)];omega] at s2;obtain⟨J2,_⟩:=aqZ (n:=(ag y).length) bu I (zt nW ph);refine aa 0x10e757 ?_;refine' W.step rfl (Exec.val rfl rfl (Bj rfl rfl (eB rfl) rfl ?aN ?ab ?ad) ?_);case aN=>exact cC
     case ab=>exact cC
     case ad=>first|assumption|exact jD cC
     refine' W.step rfl (Exec.call rfl rfl rfl rfl rfl rfl rfl (bl:=[et .u32 96 uy ul]) (c2:=[et .u32 96 IC q]) (.refl _) trivial (Ko (l:=ul) (n:=(ag y).length) bu I I I) ?_);rintro v' m' ae hle ⟨P8,rfl,aiO,Aw,rfl,rfl⟩;refine W.ed rfl fun O2 N'=>?_;rw[J2] at Aw;have PS:cD _ (.slice (some ⟨uy,0,none⟩) P8 ((ag x).length+1)) (aI ul):=cD.row Aw I I (jD I) N';refine aa 0x1c1 ?_;refine br (G:=ZO PS (by rw[<-Aw,dY];omega) f1 I) (h:=?_);rintro v' m' fe cq ⟨_,rfl,wr,rfl,pj⟩;refine aa 0x73811ce1 ?_;refine' W.step rfl (Exec.call rfl rfl rfl rfl rfl rfl rfl (bl:=[et .u32 96 IC q]) (c2:=[]) (.refl _) trivial (Ko (l:=q) FR I (bF _) I) ?_);rintro v' m' ae hle ⟨akJ,rfl,OX,PZ,rfl,rfl⟩;refine aa 0xc0841 ?_;refine aB.hy rfl fun FK=>?_;refine aa 0x357 ?_;refine bo ?_;first
        |exact⟨aM,rfl,_,_,rfl,by rw[rG b9];exact cD.nil,by rw[nD b9];exact PN⟩
        |(have c:=B0
          exact⟨((O3.trans O2).trans cq).trans FK,rfl,_,_,rfl,cD.row (by rw[PZ,<-bI,cM (bF _),s1]) I OX (jD I) (af.gC _ _ _),by rw[<-s2];exact pj.mono FK⟩)
        |(have c:=j'
          exact⟨aM.trans a9,rfl,_,_,rfl,qa.mono a9,pj⟩)
end
end
end Go.Opn
namespace Go.Opn
noncomputable section
theorem agI{A B:Nat}{w x y z:Int}(al:w*z -x*y=1\/w*z -x*y=-1):Nat.gcd (w*A+x*B).natAbs (y*A+z*B).natAbs=Nat.gcd A B:=by
 have akD:z*(w*A+x*B) -x*(y*A+z*B)=(w*z -x*y)*A:=by
  rw[mW,mW,mX]
  have aw:z*(w*(A:Int))=w*z*A:=by ac_rfl
  have aR:z*(x*(B:Int))=x*(z*B):=by ac_rfl
  have cf:x*(y*(A:Int))=x*y*A:=by ac_rfl
  omega
 have akE:w*(y*A+z*B) -y*(w*A+x*B)=(w*z -x*y)*B:=by
  rw[mW,mW,mX]
  have aw:w*(z*(B:Int))=w*z*B:=by ac_rfl
  have aR:w*(y*(A:Int))=y*(w*A):=by ac_rfl
  have cf:y*(x*(B:Int))=x*y*B:=by ac_rfl
  omega
 generalize cw:w*(A:Int)+x*B=P at*
 generalize fY:y*(A:Int)+z*B=R at*
 refine L8 (D' ?_ ?_) (D' ?_ ?_)
 ·have ab:((Nat.gcd P.natAbs R.natAbs:Nat):Int) ∣ P:=rC.2 (kG _ _)
  have ad:((Nat.gcd P.natAbs R.natAbs:Nat):Int) ∣ R:=rC.2 (m0 _ _)
  have aL:=LM (oS (b:=z) ab) (oS (b:=x) ad)
  rw[akD] at aL
  refine ug.1 ?_
  rcases al with d|d
  ·rw[d,rD] at aL;exact aL
  ·rw[d,sK,rD] at aL;exact(Int.dvd_neg).1 aL
 ·have ab:((Nat.gcd P.natAbs R.natAbs:Nat):Int) ∣ P:=rC.2 (kG _ _)
  have ad:((Nat.gcd P.natAbs R.natAbs:Nat):Int) ∣ R:=rC.2 (m0 _ _)
  have aL:=LM (oS (b:=w) ad) (oS (b:=y) ab)
  rw[akE] at aL
  refine ug.1 ?_
  rcases al with d|d
  ·rw[d,rD] at aL;exact aL
  ·rw[d,sK,rD] at aL;exact(Int.dvd_neg).1 aL
 ·have ab:((Nat.gcd A B:Nat):Int) ∣ (A:Int):=ug.2 (kG _ _)
  have ad:((Nat.gcd A B:Nat):Int) ∣ (B:Int):=ug.2 (m0 _ _)
  refine rC.1 ?_
  rw[<-cw]
  exact LL (oS ab) (oS ad)
 ·have ab:((Nat.gcd A B:Nat):Int) ∣ (A:Int):=ug.2 (kG _ _)
  have ad:((Nat.gcd A B:Nat):Int) ∣ (B:Int):=ug.2 (m0 _ _)
  refine rC.1 ?_
  rw[<-fY]
  exact LL (oS ab) (oS ad)
theorem KH{t K α:Int}(h:t<=0)(ab:α<=K):t*K<=t*α:=by
 have:=km (show 0<=-t by omega) (show 0<=K -α by omega)
 rw[sK,BE] at this
 omega
theorem KC{t α:Int}(h:0<=t)(ab:0<=α):0<=t*α:=km h ab
structure oV (c0 gi A B:Int) (a b w x y z:Int) (e:Bool):Prop where
 aF:a=w*c0+x*gi
 ai:b=y*c0+z*gi
 Rv:if e then w<=0/\0<=x/\0<=y/\z<=0 else 0<=w/\x<=0/\y<=0/\0<=z
 B8:w*z -x*y=if e then -1 else 1
 d':0<=a+w
 ej:0<=a+x
 eD:0<=b+y
 gA:0<=b+z
 top:a+w<=c0+1
 RN:a+x<=c0+1
 iC:(w=1/\x=0/\y=0/\z=1/\e=false)\/(b+y<a+w/\b+z<a+x/\w*A+x*B<=B)
structure vF (c0 gi A B:Int):Prop where
 xY:gi<=c0
 yJ:0<=gi
 ex:∃K α β:Int,0<K/\A=c0*K+α/\B=gi*K+β/\0<=α/\α<K/\0<=β/\β<K
theorem oV.start{c0 gi A B:Int}(h:vF c0 gi A B):oV c0 gi A B c0 gi 1 0 0 1 false:=
 ⟨I,I,by simp,by simp,by have:=h.xY;have:=h.yJ;omega,by have:=h.xY;have:=h.yJ;omega,by have:=h.yJ;omega,by have:=h.yJ;omega,I,I,.inl ⟨rfl,rfl,rfl,rfl,rfl⟩⟩
theorem oV.desc{c0 gi A B a b w x y z:Int}{e:Bool}(h:oV c0 gi A B a b w x y z e)(a4:vF c0 gi A B)(ab:b+y<a+w)(ad:b+z<a+x):0<=y*A+z*B/\y*A+z*B<w*A+x*B:=by
 obtain⟨K,α,β,hD,rfl,rfl,Cx,ym,ox,iP⟩:=a4.ex
 have hs:=h.Rv
 have aw:∀u v:Int,u*(c0*K+α)+v*(gi*K+β)=(u*c0+v*gi)*K+(u*α+v*β):=fun u v=>by
  rw[mW,mW,qA,<-jT,<-jT];omega
 rw[aw,aw,<-h.aF,<-h.ai]
 have eD:=h.eD
 have gA:=h.gA
 have ez:a*K -b*K=(a -b)*K:=(mX _ _ _).symm
 cases e with
 |false=>
  obtain⟨s1,s2,fQ,k6⟩:0<=w/\x<=0/\y<=0/\0<=z:=hs
  have f1:=KH fQ (uf ym)
  have f2:=KC k6 ox
  have f3:=km eD (uf hD)
  have f4:=KC (show 0<=w -y by omega) Cx
  have f5:=KH (show x -z<=0 by omega) (uf iP)
  have f6:=BD (show 0<(a+x) -(b+z) by omega) hD
  rw[qA] at f3
  rw[mX] at f4 f5
  rw[mX] at f5
  rw[mX,qA,qA] at f6
  omega
 |true=>
  obtain⟨s1,s2,fQ,k6⟩:w<=0/\0<=x/\0<=y/\z<=0:=hs
  have f1:=KH k6 (uf iP)
  have f2:=KC fQ Cx
  have f3:=km gA (uf hD)
  have f4:=KC (show 0<=x -z by omega) ox
  have f5:=KH (show w -y<=0 by omega) (uf ym)
  have f6:=BD (show 0<(a+w) -(b+y) by omega) hD
  rw[qA] at f3
  rw[mX] at f4 f5
  rw[mX] at f5
  rw[mX,qA,qA] at f6
  omega
theorem oV.next{c0 gi A B a b w x y z q:Int}{e:Bool}(h:oV c0 gi A B a b w x y z e)(a4:vF c0 gi A B)(ab:q*(b+y)<=a+w)(ad:a+w<(q+1)*(b+y))(aL:q*(b+z)<=a+x)(a6:a+x<(q+1)*(b+z))(bI:0<=q):
 oV c0 gi A B b (a -q*b) y z (w -q*y) (x -q*z) (!e):=by
 have aF:=h.aF
 have ai:=h.ai
 have eD:=h.eD
 have gA:=h.gA
 have aJ:=h.top
 have CR:=h.RN
 have iV:=a4.xY
 have fZ:=a4.yJ
 rw[mW] at ab aL
 rw[qA,rD,mW] at ad a6
 have dn:(b+y<=c0+1/\b+z<=c0+1)/\y*A+z*B<=B:=by
  rcases h.iC with⟨cX,cW,eR,hH,_⟩|⟨cX,cW,eR⟩
  ·subst cX;subst cW;subst eR;subst hH
   rw[xP,rD,LV] at ai
   refine⟨I,by rw[xP,rD,LV];exact LN _⟩
  ·have:=(h.desc a4 cX cW).2
   exact⟨I,I⟩
 refine⟨ai,?_,?_,?_,eD,gA,I,I,dn.1.1,dn.1.2,.inr ⟨I,I,dn.2⟩⟩
 ·rw[aF,ai,mX,mX,mW,jT,jT];omega
 ·have hs:=h.Rv
  cases e with
  |false=>
   obtain⟨s1,s2,fQ,k6⟩:0<=w/\x<=0/\y<=0/\0<=z:=hs
   show y<=0/\0<=z/\0<=w -q*y/\x -q*z<=0
   have f1:=km bI (show 0<=-y by omega)
   have f2:=km bI k6
   rw[H6] at f1
   omega
  |true=>
   obtain⟨s1,s2,fQ,k6⟩:w<=0/\0<=x/\0<=y/\z<=0:=hs
   show 0<=y/\z<=0/\w -q*y<=0/\0<=x -q*z
   have f1:=km bI (show 0<=-z by omega)
   have f2:=km bI fQ
   rw[H6] at f1
   omega
 ·have al:=h.B8
  have aw:y*(x -q*z) -z*(w -q*y)=-(w*z -x*y):=by
   rw[BE,BE]
   have bY:y*(q*z)=z*(q*y):=by ac_rfl
   have bZ:y*x=x*y:=j5 _ _
   have cz:z*w=w*z:=j5 _ _
   omega
  rw[aw,al]
  cases e<;>simp
theorem oV.jW{c0 gi A B a b w x y z q:Int}{e:Bool}(h:oV c0 gi A B a b w x y z e)(a4:vF c0 gi A B)(ab:q*(b+y)<=a+w)(aL:q*(b+z)<=a+x)(bI:0<=q)(fb:0<b+y)(fX:0<b+z):-c0<=q*y/\q*y<=c0/\-c0<=q*z/\q*z<=c0/\0<=q*b/\q*b<=c0+1+c0/\0<=b/\0<=a:=by
 have hs:=h.Rv
 have al:=h.B8
 have d':=h.d'
 have ej:=h.ej
 have eD:=h.eD
 have gA:=h.gA
 have aJ:=h.top
 have iV:=a4.xY
 have aK:q<=a+w:=by
  have:=vC (show 1<=b+y by omega) bI
  omega
 have aH:q<=a+x:=by
  have:=vC (show 1<=b+z by omega) bI
  omega
 rw[mW] at ab
 --c0 and gi by sA aut numbers
 have aU:z*a -x*b=(w*z -x*y)*c0:=by
  rw[h.aF,h.ai,mW,mW,mX]
  have bY:z*(w*c0)=w*z*c0:=by ac_rfl
  have bZ:z*(x*gi)=x*(z*gi):=by ac_rfl
  have cz:x*(y*c0)=x*y*c0:=by ac_rfl
  omega
 have aQ:w*b -y*a=(w*z -x*y)*gi:=by
  rw[h.aF,h.ai,mW,mW,mX]
  have bY:w*(z*gi)=w*z*gi:=by ac_rfl
  have bZ:w*(y*c0)=y*(w*c0):=by ac_rfl
  have cz:y*(x*gi)=x*y*gi:=by ac_rfl
  omega
 rw[al] at aU aQ
 cases e with
 |false=>
  obtain⟨s1,s2,fQ,k6⟩:0<=w/\x<=0/\y<=0/\0<=z:=hs
  have aU:z*a -x*b=1*c0:=aU
  have aQ:w*b -y*a=1*gi:=aQ
  rw[rD] at aU aQ
  have fZ:0<=b:=I
  have ahU:0<=a:=I
  have FX:q<=a:=I
  have f1:=km (show 0<=-x by omega) fZ
  have f2:=km s1 fZ
  have f3:=vC FX k6
  have f4:=vC FX (show 0<=-y by omega)
  have f5:=km bI k6
  have f6:=km bI (show 0<=-y by omega)
  have f7:=km bI fZ
  rw[sK] at f1
  rw[sK,sK] at f4
  rw[H6] at f6
  rw[j5 z q] at f3
  rw[j5 y q] at f4
  omega
 |true=>
  obtain⟨s1,s2,fQ,k6⟩:w<=0/\0<=x/\0<=y/\z<=0:=hs
  have aU:z*a -x*b=-1*c0:=aU
  have aQ:w*b -y*a=-1*gi:=aQ
  rw[sK,rD] at aU aQ
  have fZ:0<=b:=I
  have ahU:0<=a:=I
  have FX:q<=a:=I
  have f1:=km s2 fZ
  have f2:=km (show 0<=-w by omega) fZ
  have f3:=vC FX (show 0<=-z by omega)
  have f4:=vC FX fQ
  have f5:=km bI (show 0<=-z by omega)
  have f6:=km bI fQ
  have f7:=km bI fZ
  rw[sK] at f2
  rw[sK,sK] at f3
  rw[H6] at f5
  rw[j5 z q] at f3
  rw[j5 y q] at f4
  omega
theorem oV.out{c0 gi a b w x y z:Int}{A B:Nat}{e:Bool}(h:oV c0 gi A B a b w x y z e)(a4:vF c0 gi A B)(U:x≠0):
 ∃P R:Nat,w*A+x*B=(P:Int)/\y*A+z*B=(R:Int)/\R<P/\P<=B/\Nat.gcd P R=Nat.gcd A B:=by
 rcases h.iC with⟨_,cW,_⟩|⟨cX,cW,eR⟩
 ·exact absurd cW U
 ·obtain⟨d1,d2⟩:=h.desc a4 cX cW
  have ax:=agI (A:=A) (B:=B) (w:=w) (x:=x) (y:=y) (z:=z) (by rw[h.B8];cases e<;>simp)
  exact⟨(w*A+x*B).natAbs,(y*A+z*B).natAbs,I,I,I,I,ax⟩
theorem aah{n d:Int}(az:0<=n)(al:0<d):n.tdiv d*d<=n/\n<(n.tdiv d+1)*d/\0<=n.tdiv d:=by
 rw[Int.tdiv_eq_ediv_of_nonneg az]
 have ab:=Int.ediv_mul_le n (show d≠0 by omega)
 have ad:=Int.lt_ediv_add_one_mul_self n al
 exact⟨ab,ad,Int.ediv_nonneg az (uf al)⟩
theorem Xc{z m:Nat}(h:(ag z).length<=m+3):((ag z).getD (m+2) 0*1000000000+(ag z).getD (m+1) 0)*1000000000+(ag z).getD m 0=z / 1000000000 ^ m:=by
 have aw:=vu (ag z) (m+2)
 rw[cM (show(ag z).length<=m+2+1 by omega),vu (ag z) (m+1),vu (ag z) m,e1] at aw
 have ab:=lB (vi (i:=m) (hx z))
 have ad:1000000000 ^ ((ag z).take m).length<=1000000000 ^ m:=nE bm (by rw[dY];omega)
 rw[ff 1000000000 (m+1),ff 1000000000 m] at aw
 obtain⟨p,ao⟩:∃p,p=1000000000 ^ m:=⟨_,rfl⟩
 rw[<-ao] at aw ad ⊢
 have rb:0<p:=by rw[ao];exact um bm
 have a7:p*1000000000*1000000000*(ag z).getD (m+2) 0=p*((ag z).getD (m+2) 0*1000000000*1000000000):=by ac_rfl
 have bc:p*1000000000*(ag z).getD (m+1) 0=p*((ag z).getD (m+1) 0*1000000000):=by ac_rfl
 rw[a7,bc] at aw
 have aR:z=p*(((ag z).getD (m+2) 0*1000000000+(ag z).getD (m+1) 0)*1000000000+(ag z).getD m 0)+aI ((ag z).take m):=by
  rw[cH,cR,cH]
  omega
 conv=>rhs;rw[aR]
 rw[Tc rb,rG (show aI ((ag z).take m)<p by omega)]
 exact(ik _).symm
theorem akY{T t0 l2 D L:Nat}(cK:D*l2=L)(a4:0<L):T*l2+t0*l2 / L=(T*L+t0) / D:=by
 have aJ:0<l2:=uk fun h=>by rw[h,jk] at cK;omega
 rw[<-Iu _ D aJ,cK,cR,show T*L*l2=L*(T*l2) by ac_rfl,Tc a4]
theorem akX{t2 t1 t0 l2 D:Nat}(cK:D*l2=1000000000):(t2*1000000000+t1)*l2+t0*l2 / 1000000000=((t2*1000000000+t1)*1000000000+t0) / D:=akY cK bm
theorem akW{A B m D t2:Nat}(Fe:B<=A)(cK:0<D):vF ((A / 1000000000 ^ m / D:Nat):Int) ((B / 1000000000 ^ m / D:Nat):Int) A B:=by
 have rb:0<1000000000 ^ m:=um bm
 rw[abL,abL]
 generalize hD:1000000000 ^ m*D=K
 have yj:0<K:=by rw[<-hD];exact kp rb cK
 refine⟨by exact_mod_cast S7 Fe,nz _,(K:Int),((A % K:Nat):Int),((B % K:Nat):Int),I,?_,?_,nz _,?_,nz _,?_⟩
 ·have:=lI A K
  rw[dp] at this
  exact_mod_cast this.symm
 ·have:=lI B K
  rw[dp] at this
  exact_mod_cast this.symm
 ·exact_mod_cast fz A yj
 ·exact_mod_cast fz B yj
end
end Go.Opn
namespace Go.Opn
noncomputable section
open Go.Cre Go.RowKit Go.Proofs
section
variable {K:dy}{B:c5}{o:Oper}{n:Nat}{ds:dJ}{l:List (Nat×Value)}{m:aO}{J:af}
theorem ans{x y z w:Operand}{a b c d v:Value}{S:aV}{H:an}(aj:Sat ⟨n,ds,l⟩ S)(FT:o.op.operands.toList=[x,y,z,w])(U:bx l x=some a)(au:bx l y=some b)(aG:bx l z=some c)(hw:bx l w=some d)(aF:plain a=true)(ai:plain b=true)(aD:plain c=true)(al:plain d=true)(he:e0 K.P (execOp (px S.T H) o)=some (.value v))(ar:plain v=true):fl K.P S.T H o=some (.val v H):=by
 unfold fl;rw[FT];have:fy S.T H [x,y,z,w]=some [a,b,c,d]:=by simp only[fy];rw[c6 aj H U,c6 aj H au,c6 aj H aG,c6 aj H hw]
 rw[this];simp only[BG,SJ,aF,ai,aD,al,vy,b4,he,ar]
theorem aqN{c:Call}{x y z w:Operand}{k:IntKind}{a b d e:Int}(ah:o.op=.call c)(aD:c.callee=.builtin .max)(hZ:c.args.toList=[x,y,z,w])(U:bx l x=some (.int k a))(au:bx l y=some (.int k b))(aG:bx l z=some (.int k d))(hw:bx l w=some (.int k e)):cO K B o n ds l m J (.int k (max (max (max a b) d) e)):=by
 intro call aE S H aj av;rw[zS ah aD];have nf:c.args=#[x,y,z,w]:=by rw[<-Ss];exact hZ
 have:fl K.P S.T H o=some (.val (.int k (max (max (max a b) d) e)) H):=by
  refine ans aj ?_ U au aG hw rfl rfl rfl rfl ?_ rfl
  ·rw[ah]
   show(Call.operands c).toList=_;simp[Call.operands,aD,nf]
  ·unfold execOp;simp only[ah]
   have aq:e0 K.P (resolve (px S.T H) c o.type)=some {target:=.builtin .max c.argTypes o.type (c.args.map fun|.const _=>true|_=>false),args:=#[.int k a,.int k b,.int k d,.int k e]}:=by
        unfold resolve;simp only[aD,nf];show some _=some _;simp[hN aj H U,hN aj H au,hN aj H aG,hN aj H hw];exact⟨by cases x<;>rfl,by cases y<;>rfl,by cases z<;>rfl,by cases w<;>rfl⟩
   rw[gM aq];show e0 K.P ((Builtin.max_ c.argTypes o.type #[.int k a,.int k b,.int k d,.int k e]) >>= fun v=>pure (Next.value v))=_;have:e0 K.P (Builtin.max_ c.argTypes o.type #[.int k a,.int k b,.int k d,.int k e])=some (.int k (max (max (max a b) d) e)):=by
        have aw:∀p q:Int,(if q>p then q else p)=max p q:=fun p q=>by split<;>omega
        rw[<-aw,<-aw,<-aw];have cT:∀p q:Int,(if q>p then Value.int k q else Value.int k p)=Value.int k (if q>p then q else p):=fun p q=>by split<;>rfl
        simp[Builtin.max_];try (first|rfl|(split<;>split<;>split<;>first|rfl|(simp_all;done)|omega))
   rw[gM this];rfl
 unfold pY;rw[m6 aj H (vs:=[.int k a,.int k b,.int k d,.int k e]) (by rw[hZ];simp only[hC,U,au,aG,hw])];exact this
end
section
variable {Q:cZ Tryz.prog}{g0:Nat}{J:af}
theorem Qc{b:Option Addr}{c cu k z:Nat}{u':Int}(hk:u'=(k:Int))(aG:cD J (.slice b (ag z).length c) z)(aL:J cu=some ([.slice b (ag z).length c],45))(XI:(ag z).length<=200000):Fn (aT Q g0) 162 [.int .i64 u',.pointer (some ⟨cu,0,none⟩)] [] J (fun u m' ae=>u=.int .u64 (((ag z).getD k 0:Nat):Int)/\m'=[]/\J=ae):=by
 subst hk;have eG:=aG;have VJ:=td (hx z) k;refine Fn.b8 (b7 Tryz.func162) rfl rfl fun H=>?_;refine aa 0x2f821521ce059 ?_;refine If (fun fB=>?_) fun fB=>?_
 ·obtain⟨sZ,er,nL,ex,rfl,th,kx⟩:=eG.at (oE I);obtain⟨p,ao,yM,bA⟩:=kx k I;have e:=hP ao;refine aa 0x357c09c930539 ?_;refine bo ?_;exact⟨by rw[e];rfl,rfl,rfl⟩
 ·have e:=lm (l:=ag z) (i:=k) I;refine aa 0x6af816757 ?_;refine bo ?_;exact⟨by rw[e];rfl,rfl,rfl⟩
theorem Xb{v:Value}{ee fh z m l2 D X:Nat}(aG:cD J v z)(fX:J ee=some ([.int .i64 ((m+3:Nat):Int)],3))(na:J fh=some ([.int .u64 (l2:Int)],120))(XI:(ag z).length<=m+3)(hm:m<=100000)(cK:D*l2=1000000000)(dr:X=z / 1000000000 ^ m / D)(wz:X<1000000000000000000):
 Fn (aT Q g0) 161 [v,.pointer (some ⟨ee,0,none⟩),.pointer (some ⟨fh,0,none⟩)] [] J (fun u m' ae=>J.le ae/\m'=[]/\u=.int .i64 (X:Int)):=by
 have eG:=aG;obtain⟨bs,bp,rfl,aK⟩:=aG.bQ;obtain⟨t2,CR⟩:∃t,t=(ag z).getD (m+2) 0:=⟨_,rfl⟩;obtain⟨t1,pf⟩:∃t,t=(ag z).getD (m+1) 0:=⟨_,rfl⟩;obtain⟨t0,r9⟩:∃t,t=(ag z).getD m 0:=⟨_,rfl⟩;have du:=td (hx z) (m+2);have dL:=td (hx z) (m+1);have l0:=td (hx z) m;rw[<-CR] at du;rw[<-pf] at dL;rw[<-r9] at l0;have FH:=Xc XI;rw[<-CR,<-pf,<-r9] at FH;have b9:=akX (t2:=t2) (t1:=t1) (t0:=t0) cK;rw[FH,<-dr] at b9;obtain⟨abW,Jq⟩:∃P,P=(t2*1000000000+t1)*l2:=⟨_,rfl⟩;obtain⟨BP,wq⟩:∃P,P=t0*l2:=⟨_,rfl⟩;rw[<-Jq,<-wq] at b9;have tx:l2<=1000000000:=by
  have:1*l2<=D*l2:=eK _ (uk fun h=>by rw[h,jA] at cK;omega);omega
 have as1:BP<=1000000000*1000000000:=by rw[wq];exact rI I tx
 have ahD:((t2:Int)*1000000000+(t1:Int))*(l2:Int)=(abW:Int):=by rw[<-vd Jq];rw[xN,hc];rfl
 have ahE:(t0:Int)*(l2:Int)=(BP:Int):=vd wq;refine Fn.b8 (b7 Tryz.func161) rfl rfl fun H=>?_;refine rg ?_;refine gZ fun cu=>?_;refine W.ed rfl fun cq N9=>?_;have fX:=cq _ _ fX;have na:=cq _ _ na;have PX:=eG.mono cq;refine aa 0x30296702 ?_;have Wu:eJ 8 (Value.func (.func 162) #[] #[.pointer (some ⟨cu,0,none⟩)]) (Value.func (.func 162) #[] #[.pointer (some ⟨cu,0,none⟩)])=true:=by simp[eJ,addrEq,NL,ks]
 refine a' ?_;refine aB.draw rfl (by kernel_rfl) (aX:=[.val 0,.val 1,.val 2,.val 5,.val 6,.val 7,.val 10,.val 12,.val 13,.val 14,.val 16,.bD 3,.val 4,.ca [16,14,13,12,10,7,6,5],.bD 8,.val 9,.val 11,.ca [16,14,13,12,10,4],.bD 15,.val 17,.val 18,.val 19,.val 20,.val 21,.ca [16,11,10,9,4]]) (by kernel_rfl) ?_;refine aa 0xf24690a46908d21 ?_;refine' bh.dV rfl rfl rfl rfl rfl rfl rfl rfl rfl dt (Qc (k:=m+2) I PX N9 I) ?_;rintro v' m' ae hle ⟨rfl,rfl,rfl⟩;rw[<-CR];refine aa 0x3a3 ?_;refine' bh.dV rfl rfl rfl rfl rfl rfl rfl rfl rfl (cF (fun _ e=>by have e:=(Ib e).1;injection e with _ e;omega) dt) (Qc (k:=m+1) I PX N9 I) ?_;rintro v' m' ae hle ⟨rfl,rfl,rfl⟩;rw[<-pf];refine aa 0x7463 ?_;refine' bh.dV rfl rfl rfl rfl rfl rfl rfl rfl rfl (cF (fun _ e=>by have e:=(Ib e).1;injection e with _ e;omega) (cF (fun _ e=>by have e:=(Ib e).1;injection e with _ e;omega) dt)) (Qc (k:=m) I PX N9 I) ?_;rintro v' m' ae hle ⟨rfl,rfl,rfl⟩;rw[<-r9];refine aa 0x7e ?_;rw[ahE];refine xM rfl V.EV ?_;rw[show IntKind.u64.wrap ((BP:Int).tdiv 1000000000)=((BP / 1000000000:Nat):Int) from sy (d:=1000000000) I];refine xM rfl V.hI ?_;rw[show((t2:Int)*1000000000+(t1:Int))*(l2:Int)+((BP / 1000000000:Nat):Int)=(X:Int) by rw[ahD];omega];refine aa 0x357c744e ?_;refine bo ?_;exact⟨cq,rfl,rfl⟩
end
theorem anD{j:Nat}(h:j<=9):10 ^ (9 -j)*10 ^ j=1000000000:=by rw[<-pN,xT h]
theorem oV.ak8{c0 gi A B a b w x y z:Int}{e:Bool}(h:oV c0 gi A B a b w x y z e)(a4:vF c0 gi A B):b+y<=c0+1/\b+z<=c0+1:=by
 have ab:=h.top;have ad:=h.RN;have aL:=a4.xY;rcases h.iC with⟨cX,cW,eR,hH,_⟩|⟨cX,cW,_⟩
 ·have ai:=h.ai
  subst eR;subst hH;rw[xP,rD,LV] at ai;omega
 ·omega
theorem alA{z HY c5:List Nat}{i d IF IM:Nat}{x y c c':Int}(ak:i<z.length)(aF:HY.getD i 0=IF)(ai:c5.getD i 0=IM)(h:(aI (z.take i):Int)+((1000000000 ^ i:Nat):Int)*c=x*(aI (HY.take i):Int)+y*(aI (c5.take i):Int))(e:(d:Int)+1000000000*c'=x*(IF:Int)+c+y*(IM:Int)):
 (aI ((z.set i d).take (i+1)):Int)+((1000000000 ^ (i+1):Nat):Int)*c'=x*(aI (HY.take (i+1)):Int)+y*(aI (c5.take (i+1)):Int):=by
 rw[aaG ak,vu HY,vu c5,aF,ai,ff];simp only[xN,hc];generalize ((1000000000 ^ i:Nat):Int)=p at*;have aw:=b6 (p*·) e;simp only[mW] at aw;rw[mW,mW];have bY:p*((1000000000:Nat):Int)*c'=p*(1000000000*c'):=jT _ _ _;have bZ:x*(p*(IF:Int))=p*(x*IF):=by ac_rfl
 have cz:y*(p*(IM:Int))=p*(y*IM):=by ac_rfl
 rw[bY,bZ,cz];omega
section
variable {Q:cZ Tryz.prog}{g0:Nat}{J:af}
theorem akV{v w:Value}{x y m:Nat}(U:cD J v x)(au:cD J w y)(VZ:(ag x).length=m+3)(hm:m<=99997)(C1:y<=x):
 Fn (aT Q g0) 140 [v,w] [] J (fun u m' ae=>J.le ae/\m'=[]/\∃X Y:Nat,u=.tuple #[.int .i64 (X:Int),.int .i64 (Y:Int)]/\X<1000000000000000000/\vF (X:Int) (Y:Int) (x:Int) (y:Int)):=by
 have di:=U;have eN:=au;obtain⟨bs,bp,rfl,aK⟩:=U.bQ;obtain⟨bM,bN,rfl,aH⟩:=au.bQ;have aiV:=w2 C1;obtain⟨sZ,er,nL,ex,rfl,th,kx⟩:=di.at (oE I);obtain⟨t,aJ,GX,lt⟩:=kx (m+2) I;have GX:nth nL (er+(((m+3:Nat):Int) -1).toNat*1)=some (.int .u32 (t:Int)):=by rw[show(((m+3:Nat):Int) -1).toNat=m+2 by omega];exact GX
 have r9:t≠0:=Dc x t (by rw[sM,VZ];exact aJ);rw[VZ] at di ⊢;refine Fn.b8 (b7 Tryz.func140) rfl rfl fun H=>?_;refine aa 0x1439c0859 ?_;refine gn fun ee=>?_;refine aa 0x671c ?_;refine gn fun fh=>?_;refine aa 0xd5f1c ?_;refine dN [0,1,6,7] ?_;refine a' ?_;refine' aB.bA (fun(bE:Nat×Nat)=>match bE with|(j,T)=>⟨[],[(fh,.row [.int .u64 (T:Int)] 120),(ee,.row [.int .i64 ((m+3:Nat):Int)] 3)],J,T=10 ^ j/\j<=8/\T<=100000000/\t*T<1000000000,9 -j⟩) ⟨0,1⟩ ?hs ?bb
 case hs=>exact⟨rfl,by decide,by decide,I⟩
 case bb=>
  rintro⟨j,T⟩ hinv;try simp only at hinv
  obtain⟨b1,aY,ahN,Wo⟩:=hinv;obtain⟨P,cw⟩:∃P,P=t*T:=⟨_,rfl⟩;have Vd:(t:Int)*(T:Int)=(P:Int):=vd cw;rw[<-cw] at Wo;have as3:t*(T*10)=P*10:=by rw[cw,e4]
  refine a' ?_;refine aB.draw rfl (by kernel_rfl) (aX:=[.val 0,.val 1,.val 2,.val 3,.val 4,.val 5,.val 6,.val 7,.val 8,.val 9]) (by kernel_rfl) ?_;refine aa 0xbe0831a5c930d21 ?_;refine If (fun hM=>?_) fun hM=>?_
  ·have as5:T*10<1000000000:=by
    have:1*(T*10)<=t*(T*10):=eK _ I;omega
   have VP:j+1<=8:=by
    apply qF
    intro q;have ab:10 ^ 9<=10 ^ (j+1):=nE bm I;rw[ff 10 j,<-b1] at ab;omega
   have ahO:T*10<=100000000:=by
    have ab:10 ^ (j+1)<=10 ^ 8:=nE bm VP;rw[ff 10 j,<-b1] at ab;omega
   refine aa 0xd39d5f57 ?_;rw[show(T:Int)*10=((T*10:Nat):Int) by omega];refine aa 0x31c ?_;refine eH ⟨j+1,T*10⟩ ?_;exact⟨by rw[b1,ff],VP,ahO,I⟩
  ·refine aa 0x357 ?_;obtain⟨D,cK⟩:∃D,D=10 ^ (9 -j):=⟨_,rfl⟩;have N1:D*T=1000000000:=by rw[cK,b1];exact anD I
   have tf:0<D:=by rw[cK];exact um bm
   have FH:=Xc (z:=x) (m:=m) I;rw[hP aJ] at FH;have ajK:t<D:=Ec (a:=T) (by rw[N1,<-cw];exact Wo);have dL:=td (hx x) (m+1);have l0:=td (hx x) m;have wz:x / 1000000000 ^ m / D<1000000000000000000:=(mB tf).2 (by
    rw[<-FH,dp];have:=eK 1000000000000000000 (show t+1<=D from ajK);omega)
   have Vm:y / 1000000000 ^ m / D<=x / 1000000000 ^ m / D:=S7 (S7 C1);refine aB.hy rfl fun OY=>?_;refine aB.hy rfl fun JM=>?_;have na:=JM _ _ (af.gC J fh ([.int .u64 (T:Int)],120));have fX:=af.gC (J.add fh ([.int .u64 (T:Int)],120)) ee ([.int .i64 ((m+3:Nat):Int)],3);refine aa 0x439c0a59 ?_;refine br (G:=Xb ((di.mono OY).mono JM) fX na I I N1 rfl wz) (h:=?_);rintro v' m' bi hle ⟨aM,rfl,rfl⟩;refine aa 0x21 ?_;refine br (G:=Xb (((eN.mono OY).mono JM).mono aM) (aM _ _ fX) (aM _ _ na) I I N1 rfl I) (h:=?_);rintro v' m' de hle ⟨a9,rfl,rfl⟩;refine aa 0x1abe042 ?_;refine bo ?_;exact⟨((OY.trans JM).trans aM).trans a9,rfl,_,_,rfl,wz,akW (t2:=0) C1 tf⟩
theorem apM{X Y A B:Nat}(dr:X<1000000000000000000)(a4:vF (X:Int) (Y:Int) (A:Int) (B:Int)):Fn (aT Q g0) 139 [.int .i64 (X:Int),.int .i64 (Y:Int)] [] J (fun u m' ae=>(∃w x y z:Int,u=.tuple #[.int .i64 w,.int .i64 x,.int .i64 y,.int .i64 z]/\(-1000000000<w/\w<1000000000/\-1000000000<x/\x<1000000000/\-1000000000<y/\y<1000000000/\-1000000000<z/\z<1000000000)/\(x≠0->∃P R:Nat,w*A+x*B=(P:Int)/\y*A+z*B=(R:Int)/\R<P/\P<=B/\Nat.gcd P R=Nat.gcd A B))/\m'=[]/\J=ae):=by
 have iV:=a4.xY;have ra:=a4.yJ;refine Fn.b8 (b7 Tryz.func139) rfl rfl fun H=>?_;refine aa 0xc08421670210859 ?_;refine dN [0,1,4,5,6,7] ?_;refine a' ?_;refine' aB.lk 6 (fun(bE:(Int)×(Int)×(Int)×(Int))=>match bE with|(w,x,y,z)=>⟨[(4,.int .i64 w),(5,.int .i64 x),(6,.int .i64 y),(7,.int .i64 z)],[],J,(-1000000000<w/\w<1000000000/\-1000000000<x/\x<1000000000/\-1000000000<y/\y<1000000000/\-1000000000<z/\z<1000000000)/\(x≠0->∃P R:Nat,w*A+x*B=(P:Int)/\y*A+z*B=(R:Int)/\R<P/\P<=B/\Nat.gcd P R=Nat.gcd A B)⟩) ?vY ?v8
 case vY=>
  refine aB.block ?_;refine c8 [(0,.int .i64 (X)),(1,.int .i64 (Y)),(4,.int .i64 (1)),(5,.int .i64 (0)),(6,.int .i64 (0)),(7,.int .i64 (1))] ?_;refine a' ?_;refine' aB.bA (fun(bE:Int×Int×Int×Int×Int×Int×Bool)=>match bE with|(a,b,w,x,y,z,e)=>⟨[(0,.int .i64 a),(1,.int .i64 b),(4,.int .i64 w),(5,.int .i64 x),(6,.int .i64 y),(7,.int .i64 z)],[],J,oV X Y A B a b w x y z e/\(-1000000000<w/\w<1000000000/\-1000000000<x/\x<1000000000/\-1000000000<y/\y<1000000000/\-1000000000<z/\z<1000000000),(b+y).toNat⟩) ⟨X,Y,1,0,0,1,false⟩ ?hs ?bb
  case hs=>exact⟨oV.start a4,by decide⟩
  case bb=>
   rintro⟨a,b,w,x,y,z,e⟩ hinv;try simp only at hinv
   obtain⟨hD,wB⟩:=hinv;have d':=hD.d';have ej:=hD.ej;have eD:=hD.eD;have gA:=hD.gA;have pf:=hD.top;have CR:=hD.RN;obtain⟨mf,ni⟩:=hD.ak8 a4;refine dN [0,1,4,5,6,7] ?_;refine a' ?_;refine' aB.fD 0 [(20,.bool (decide ((b+y≠0/\b+z≠0))))] ?nN ?nO;case nN=>
    refine aa 0x241843a ?_;refine fs 15 (fun NU=>?_) fun NU=>?_
    ·refine aa 0x30820c21 ?_;refine dO (dS ?_);first|omega|(simp_all;done)|(simp_all;omega)
    ·refine aa 0x308def7b ?_;refine dO (dS ?_);first|omega|(simp_all;done)|(simp_all;omega)
   case nO=>
    refine a' ?_;refine If (fun hM=>?_) fun hM=>?_
    ·obtain⟨s1,s2,fQ⟩:=aah d' (show 0<b+y by omega);obtain⟨k6,qq,ZA⟩:=aah ej (show 0<b+z by omega);obtain⟨aK,nY⟩:∃q,q=(a+w).tdiv (b+y):=⟨_,rfl⟩;obtain⟨aH,p7⟩:∃q,q=(a+x).tdiv (b+z):=⟨_,rfl⟩;rw[<-nY] at s1 s2 fQ;rw[<-p7] at k6 qq ZA;have auv:aK<=a+w:=by
       have:=vC (show 1<=b+y by omega) fQ;omega
     have auz:aH<=a+x:=by
       have:=vC (show 1<=b+z by omega) ZA;omega
     refine aa 0x78c2118439d5f57 ?_;rw[show IntKind.i64.wrap ((a+w).tdiv (b+y))=aK from by rw[<-nY];exact wrap_i64 I I];refine aa 0x3c6108c210e702 ?_;rw[show IntKind.i64.wrap ((a+x).tdiv (b+z))=aH from by rw[<-p7];exact wrap_i64 I I];refine aa 0x5f04 ?_;refine If (fun ED=>?_) fun ED=>?_
     ·refine aa 0x357 ?_;refine fW ⟨w,x,y,z⟩ ?_;exact⟨I,fun U=>hD.out a4 U⟩
     ·obtain rfl:aK=aH:=by first|omega|(simp at ED;exact ED)
      obtain⟨cL,eA,lU,sj,vc,GF,Qn,Qo⟩:=hD.jW a4 s1 k6 fQ I I;have atf:a -aK*b+(w -aK*y)<b+y:=by
        rw[mW] at s1;rw[qA,rD,mW] at s2;omega
      refine aa 0x439c08431842118c210e757 ?_;refine' W.step rfl (Exec.val rfl rfl (xC rfl rfl ?hw) ?_);case hw=>first|exact wrap_i64 I I|exact wrap_u8 I I|exact wrap_u64 I I|exact wrap_u32 I I|rfl
      refine aa 0x21 ?_;refine' W.step rfl (Exec.val rfl rfl (xC rfl rfl ?hw) ?_);case hw=>first|exact wrap_i64 I I|exact wrap_u8 I I|exact wrap_u64 I I|exact wrap_u32 I I|rfl
      refine' W.step rfl (Exec.val rfl rfl (aqN rfl rfl rfl rfl rfl rfl rfl) ?_);refine aa 0x5f04 ?_;refine If (fun rO=>?_) fun rO=>?_
      ·refine aa 0x357 ?_;refine fW ⟨w,x,y,z⟩ ?_;exact⟨I,fun U=>hD.out a4 U⟩
      ·refine aa 0x30210c6108439c0842104210e757 ?_;refine eH ⟨b,a -aK*b,y,z,w -aK*y,x -aK*z,!e⟩ ?_ (hk:=by exact(show(a -aK*b+(w -aK*y)).toNat<(b+y).toNat by omega));exact⟨hD.next a4 s1 s2 k6 qq fQ,I⟩
    ·refine aa 0x357 ?_;refine fW ⟨w,x,y,z⟩ ?_;exact⟨I,fun U=>hD.out a4 U⟩
 case v8=>
  rintro⟨w,x,y,z⟩ hinv;try simp only at hinv
  obtain⟨wB,lO⟩:=hinv;refine aa 0xd5f021084108439 ?_;refine'⟨.inr rfl,rfl,_,[],.tmp rfl (.tmp rfl (.tmp rfl (.tmp rfl .nil))),kF _,⟨⟨_,_,_,_,rfl,wB,lO⟩,rfl,rfl⟩⟩
end
end
end Go.Opn
