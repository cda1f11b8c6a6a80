/- A part of the proof of TableLosses. -/
import Derived.Test.YtjbbbehaciogcaaGreatDoorCax
import Derived.Test.YtjbbbehaciogcaaGreatDoorCal
set_option maxRecDepth 100000
set_option maxHeartbeats 8000000
set_option linter.unusedVariables false
set_option linter.unusedSimpArgs false
namespace Go.Opn
noncomputable section
open Go.Cre Go.RowKit Go.Proofs
abbrev Pd(J:aj)(x:Nat):Value->aN->aj->Prop:=fun u m' af=>J.le af/\m'=[]/\∃w,u=.tuple #[w,.bool (decide ((ag x).length<=1024))]/\((ag x).length<=1024->cS af w x)
theorem asB{E x:List Nat}{i r a d:Nat}(aF:x[i]?=some a)(h:a5 (x.drop (i+1))=d*a5 E+r):
 a5 (x.drop i)=d*a5 ((r*18446744073709551616+a) / d::E)+(r*18446744073709551616+a) % d:=by
 rw[F6 aF,h];show _=d*((r*18446744073709551616+a) / d+18446744073709551616*a5 E)+_;have e:=mT (r*18446744073709551616+a) d;rw[cL,cL];have aS:18446744073709551616*(d*a5 E)=d*(18446744073709551616*a5 E):=rE _ _ _;omega
theorem asz{x E tl:List Nat}{i a:Nat}(h:x[i]?=some a):(x.take (i+1)++(E++tl))[i]?=some a:=by
 have ak:=(ff.1 h).1;rw[DF (by rw[eA];omega),jY,aV I,h]
theorem asA{x E tl:List Nat}{i a y:Nat}(h:x[i]?=some a):(x.take (i+1)++(E++tl)).set i y=x.take i++((y::E)++tl):=by
 have ak:=(ff.1 h).1;rw[afR _ _ (by rw[eA];omega),lD,h,Wt,Wd _ _ (by rw[eA];omega)];rw[eA,show i -min i x.length=0 by omega,List.set_cons_zero];simp
theorem Qq(n:Nat):decide ((n:Int)<=1024)=decide (n<=1024):=pX.2 I
theorem aqu{L:List Nat}{x Y:Nat}(h:aK L+1000000000 ^ L.length*Y=x)(jj:Y≠0):L.length<(ag x).length:=by
 apply O3
 intro q;have ad:=ly (hR x);rw[g'] at ad;have ae:1000000000 ^ (ag x).length<=1000000000 ^ L.length:=mV bI q;have aD:1000000000 ^ L.length*1<=1000000000 ^ L.length*Y:=hI _ I;omega
section
variable {Q:c7 Tryz.prog}{g0:Nat}{J:aj}
theorem avU{a n:Nat}{l r:List Nat}(ah:okW l)(aE:n<=l.length)(gm:n<1000000):
 Fn (aU Q g0) 117 [.slice (some ⟨a,0,none⟩) n cO] [tm .u64 129 a l r] J (fun u m' af=>∃k,u=.slice (some ⟨a,0,none⟩) k cO/\k<=n/\l.take k=aO (a5 (l.take n))/\m'=[tm .u64 129 a l r]/\J=af):=by
 have rY:(l.take n).length=n:=by rw[eA];omega
 have fin:∀k:Nat,k<=n->(∀j y,k<=j->(l.take n)[j]?=some y->y=0)->(∀y,0<k->(l.take n)[k -1]?=some y->y≠0)->l.take k=aO (a5 (l.take n)):=fun k hk ad ae=>by
  rw[<-aeq (th ah) (by rw[rY];exact hk) ad ae,su,g6 hk]
 refine Fn.b5 (b2 Tryz.func117) rfl rfl fun H=>?_;refine U 0x357c08a1ce059 ?_;refine c3 [(3,.int .i64 ((n):Int)),(0,_)] ?_;refine a2 ?_;refine' az.kv (fun(k:Nat)=>⟨[(3,.int .i64 (k:Int))],k<=n/\∀j y,k<=j->(l.take n)[j]?=some y->y=0,k⟩) (n) ?hs ?a7;case hs=>exact⟨bU _,fun j y ad ae=>by have:=(ff.1 ae).1;omega⟩
 case a7=>
  rintro k hinv;try simp only at hinv
  obtain⟨hk,aM⟩:=hinv;refine U 0x9039 ?_;refine c0 8 (fun Rc=>?_) fun Rc=>?_
  ·obtain⟨x,aa⟩:∃x,l[k -1]?=some x:=⟨_,ey I⟩;have e7:(l.take n)[k -1]?=some x:=by rw[jY,aV I];exact aa
   have aE:nth (cj .u64 l) (0+((k:Int) -1).toNat*1)=some (.int .u64 (x:Int)):=r9 aa I;refine U 0x17c208a30c21 ?_;refine If (fun fV=>?_) fun fV=>?_
   ·refine U 0x1810c39d5f57 ?_;refine kx (k -1) ?_;exact⟨I,fun j y ad ae=>by
     by_cases q:k<=j
     ·exact aM j y q ae
     ·obtain rfl:j=k -1:=I
      rw[e7] at ae;injection ae with ae;omega⟩
   ·refine U 0x10e757 ?_;refine' W.step rfl (Exec.val rfl rfl (Ve rfl rfl rfl (eW rfl) ?hm ?aR ?ad) ?_);case hm=>repeat first|exact .head _|refine ki _ ?_
    case aR=>exact ck
    case ad=>exact ck
    refine U 0xd5f02 ?_;refine ja ?_
    exact⟨k,by rw[gG];rfl,hk,fin k hk aM (fun y ad ae=>by rw[e7] at ae;injection ae with ae;omega),rfl,rfl⟩
  ·refine U 0x439d5f57c237bdef7b ?_;refine' W.step rfl (Exec.val rfl rfl (Ve rfl rfl rfl (eW rfl) ?hm ?aR ?ad) ?_);case hm=>repeat first|exact .head _|refine ki _ ?_
   case aR=>exact ck
   case ad=>exact ck
   refine U 0xd5f02 ?_;refine ja ?_
   exact⟨k,by rw[gG];rfl,hk,fin k hk aM (fun y ad ae=>by omega),rfl,rfl⟩
theorem awZ{v:Value}(h:cJ J v 0):Fn (aU Q g0) 118 [v] [] J (fun u m' af=>J=af/\m'=[]/\∃b c,u=.slice b 0 c/\addrEq b b=true):=by
 have aR:=h;obtain⟨b,n,c,rfl,k6,aE,ao⟩:=h.bN;obtain rfl:=aE.iA rfl;have aR:c9 .u64 J _ (aO 0):=aR;rw[sk] at aR;obtain⟨hb,n6⟩:=aR;refine Fn.b5 (b2 Tryz.func118) rfl rfl fun H=>?_;refine U 0x1ce059 ?_;refine eZ V.UJ ?_;refine ns ?_;refine If (fun ej=>?_) fun ej=>?_
 ·refine U 0x1abe059 ?_;refine bp ?_
  exact⟨rfl,rfl,none,0,rfl,rfl⟩
 ·refine I2 ?_;refine mr fun dw=>?_;refine eZ V.kK ?_;refine' W.step rfl (.of (tt rfl rfl rfl rfl rfl rfl (eW rfl) (Vc Q g0) (fun i q=>by cases q) ?eT ?hm ?aa ?dT ?dX ?aq fun ae3 aq4 Md Te=>?_));case eT=>exact .jH _
  case hm=>exact .refl _
  case aa=>exact n6.rd
  case dT=>exact rfl
  case dX=>exact rfl
  case aq=>exact(show 0+0<=1000000 by decide)
  obtain⟨tN,tU,rfl,Uv⟩:=Md.BB;refine U 0xd5f02 ?_;refine bp ?_
  exact⟨rfl,rfl,tN,tU,rfl,Uv⟩
theorem aw0{v:Value}{x:Nat}(h:cJ J v x)(h8:x≠0)(g4:(aO x).length<=100000):Fn (aU Q g0) 118 [v] [] J (fun u m' af=>J=af/\∃a r tl,u=.slice (some ⟨a,0,none⟩) (aO x).length cO/\m'=[tm .u64 129 a (aO x++tl) r]/\okW tl):=by
 have aR:=h;obtain⟨b,c,rfl,k6⟩:=h.bA;obtain⟨a,off,cells,e,rfl,fY,av⟩:=aR.at h8;have aq:=Nb h8;refine Fn.b5 (b2 Tryz.func118) rfl rfl fun H=>?_;refine U 0x1ce059 ?_;refine eZ V.UJ ?_;refine ns ?_;refine If (fun ej=>?_) fun ej=>?_
 ·exfalso;cases ej
 ·refine I2 ?_;refine mr fun dw=>?_;refine eZ V.kK ?_;refine' W.step rfl (.of (tt rfl rfl rfl rfl rfl rfl (eW rfl) (Vc Q g0) (fun i q=>by cases q) ?eT ?hm ?aa ?dT ?dX ?aq fun ae3 aq4 Md Te=>?_));case eT=>exact .jH _
  case hm=>exact .refl _
  case aa=>exact c9.rd aR
  case dT=>exact(show(cj .u64 (aO x)).length=(aO x).length*1 by rw[r8,ha])
  case dX=>exact CO _
  case aq=>exact(show 0+(aO x).length<=1000000 by omega)
  rw[j2,kj] at Md;obtain⟨ac,ac2,rfl,rfl⟩:=Md.ab' (Te.1 Dq) (Te.2 CI) I;refine U 0xd5f02 ?_;refine'⟨.inr rfl,rfl,_,_,.tmp rfl .nil,.cons_cons _ (i' _),⟨rfl,ac,ac2,[],rfl,by rw[hi],Jw⟩⟩
theorem avI{v:Value}(h:cJ J v 0):Fn (aU Q g0) 90 [v] [] J (Pd J 0):=by
 have aR:=h;obtain⟨b,n,c,rfl,k6,aE,ao⟩:=h.bN;obtain rfl:=aE.iA rfl;refine Fn.b5 (b2 Tryz.func90) rfl rfl fun H=>?_;refine U 0x2f821439c0859 ?_;refine If (fun kn=>?_) fun kn=>?_
 ·exfalso;omega
 ·refine U 0xe757 ?_;refine bC (G:=awZ aR) (h:=?_);rintro v' m' af hle ⟨rfl,rfl,tN,tU,rfl,Uv⟩;refine U 0x5f042873fbeaf816702 ?_;refine If (fun kV=>?_) fun kV=>?_
  ·exfalso;omega
  ·refine U 0x481ce0450e757 ?_;refine c0 51 (fun Q9=>?_) fun Q9=>?_
   ·exfalso;omega
   ·refine U 0x357c084428439d5f57c237bdef7b ?_;refine bp ?_;exact⟨aj.le.refl _,rfl,_,by rw[lR];rfl,fun _=>by unfold cS;rw[lR];exact c9.nil⟩
theorem avJ{v:Value}{x:Nat}(h:cJ J v x)(h8:x≠0)(g4:(aO x).length<=100000):Fn (aU Q g0) 90 [v] [] J (Pd J x):=by
 have aR:=h;obtain⟨b,c,rfl,k6⟩:=h.bA;refine Fn.b5 (b2 Tryz.func90) rfl rfl fun H=>?_;refine U 0x2f821439c0859 ?_;refine If (fun kn=>?_) fun kn=>?_
 ·refine U 0x357c0859 ?_;refine bp ?_
  exact⟨aj.le.refl _,rfl,_,by rw[fW (by have:=ae6 (x:=x) I;omega)];rfl,fun q=>by have:=ae6 (x:=x) I;omega⟩
 ·have abk:(aO x).length<=479:=I
  have aAd:=aqw abk;refine U 0xe757 ?_;refine bC (G:=aw0 aR h8 g4) (h:=?_);rintro v' m' af hle ⟨rfl,ac,jR,avH,rfl,rfl,arY⟩;refine U 0x6af816702 ?_;refine c3 [(4,.slice (some ⟨ac,0,none⟩) ((aO x).length) cO),(5,(.slice none 0 0))] ?_;refine a2 ?_;refine' az.bH (fun(bK:Nat×Nat×(List Nat)×(List Nat)×(List Nat)×Value×aN)=>match bK with|(Y,k,tl,r,L,o,bc)=>⟨[(4,.slice (some ⟨ac,0,none⟩) k cO),(5,o)],bc++[tm .u64 129 ac (aO Y++tl) r],J,k=(aO Y).length/\okW tl/\(aO Y).length<=479/\aK L+1000000000 ^ L.length*Y=x/\dU L/\Acc 78 1 o L.length (cj .u32 L) bc/\(Y=0->L=[]\/∃l a b,L=l++[a,b]/\¬(a=0/\b=0))/\L.length<=1440,Y⟩) ⟨x,(aO x).length,avH,jR,[],.slice none 0 0,[]⟩ ?hs ?a7
  case hs=>exact⟨rfl,arY,abk,by rw[show aK []=0 from rfl,DG,zo,jb,j2],fun z aM=>(by cases aM),.nil,fun q=>absurd q h8,c5 _⟩
  case a7=>
   rintro⟨Y,k,tl,r,L,o,bc⟩ hinv;try simp only at hinv
   obtain⟨hk,an',BV,k4,ZI,eT,Ii,ayY⟩:=hinv;subst hk;refine U 0x2f821439 ?_;refine If (fun kV=>?_) fun kV=>?_
   ·have x4:Y≠0:=nL I;have Rv:=aqu k4 x4;have ay':=n9 Y;refine U 0xbeaf810ca1ce059d5f57 ?_;refine az.ri (m':=tm .u64 129 ac ((aO Y).take (aO Y).length++([]++tl)) r::bc) (by rw[cU (bU _),kj];exact(zm _ bc).symm) ?_;refine c3 [(7,.int .i64 ((((aO Y).length):Int) -1)),(6,.int .u64 ((0):Int)),(4,_),(5,_)] ?_;refine a2 ?_;refine' az.bH (fun(bK:Nat×Nat×(List Nat)×(List Nat))=>match bK with|(i,pv,E,c2)=>⟨[(7,.int .i64 ((i:Int) -1)),(6,.int .u64 (pv:Int))],tm .u64 129 ac ((aO Y).take i++(E++tl)) c2::bc,J,i<=(aO Y).length/\pv<1000000000000000000/\E.length+i=(aO Y).length/\okW E/\a5 ((aO Y).drop i)=1000000000000000000*a5 E+pv,i⟩) ⟨(aO Y).length,0,[],r⟩ ?hs ?a7
    case hs=>exact⟨bU _,by decide,j2 _,Jw,by rw[oi (bU _)];rfl⟩
    case a7=>
     rintro⟨i,pv,E,c2⟩ hinv;try simp only at hinv
     obtain⟨ak,SJ,YH,uz,Zf⟩:=hinv;refine U 0x17c1039 ?_;refine If (fun o5=>?_) fun o5=>?_
     ·obtain⟨a,aF,la⟩:=Aw (n9 Y) (i:=i -1) I;have TR:nth (cj .u64 ((aO Y).take i++(E++tl))) (0+((i:Int) -1).toNat*1)=some (.int .u64 (a:Int)):=r9 (i:=i -1) (by have:=asz (E:=E) (tl:=tl) aF;rwa [show i -1+1=i by omega] at this) I;have r1:(pv*18446744073709551616+a) / 1000000000000000000<18446744073709551616:=I
      have sa:∀y:Nat,gS (0+((i:Int) -1).toNat*1) (cj .u64 ((aO Y).take i++(E++tl))) [.int .u64 (y:Int)]=some (cj .u64 ((aO Y).take (i -1)++((y::E)++tl))):=fun y=>by
       have:=asA (E:=E) (tl:=tl) (y:=y) aF;rw[show i -1+1=i by omega] at this;rw[<-this];exact mf (i -1) (by rw[eX,eA];omega) I
      refine U 0x5182108439d5f57 ?_;refine bC (G:=Qr (d:=1000000000000000000) SJ la bI) (h:=?_);rintro v' m' af hle ⟨rfl,rfl,rfl⟩;refine U 0x31ce1 ?_;refine' W.step rfl (.of (Vs rfl rfl rfl rfl (u2 rfl) rfl rfl rfl ?ad ?hs ?aM ?aw ?_));case aw=>exact .refl _
      case hs=>exact sa _
      case ad=>rfl
      case aM=>exact c5 _
      refine U 0x60430e702 ?_;refine dN ⟨i -1,(pv*18446744073709551616+a) % 1000000000000000000,(pv*18446744073709551616+a) / 1000000000000000000::E,[]⟩ ?_;exact⟨I,gA _ bI,by rw[kR];omega,fun z aM=>by rcases gj.1 aM with rfl|aM;exact r1;exact uz z aM,asB aF (by rw[show i -1+1=i by omega];exact Zf)⟩
     ·obtain rfl:i=0:=I
      rw[gO,kd] at Zf;have YX:Y / 1000000000000000000=a5 E:=I
      have SJ:pv=Y % 1000000000000000000:=I
      have uz:okW (E++tl):=Jv uz an';refine U 0xe757 ?_;refine' W.step rfl (Exec.call rfl rfl rfl rfl rfl rfl rfl (bm:=[tm .u64 129 ac (E++tl) c2]) (cN:=bc) (.refl _) trivial (avU (l:=E++tl) (n:=(aO Y).length) uz (by rw[eX];omega) I) ?_);rintro v' m' af hle ⟨aT,rfl,azr,aM,rfl,rfl⟩;rw[List.take_left' (show E.length=(aO Y).length by omega),<-YX] at aM;have rW:aT=(aO (Y / 1000000000000000000)).length:=by(rw[<-aM,eA,eX];omega)
      refine U 0x302 ?_;rw[show E++tl=aO (Y / 1000000000000000000)++(E++tl).drop aT by rw[<-aM,Gp]];refine U 0x78439 ?_;rw[show(pv:Int).tmod 1000000000=((pv % 1000000000:Nat):Int) from rfl];refine U 0x3c2e ?_;rw[show IntKind.u64.wrap ((pv:Int).tdiv 1000000000)=((pv / 1000000000:Nat):Int) from tp (d:=1000000000) I];refine eZ V.lH ?_;refine mr fun axR=>?_;refine' W.step rfl (.of (afa rfl rfl rfl rfl rfl rfl (eW rfl) (wX Q g0) (fun i q=>by cases q) ?eT ?hm ?aa ?dT ?dX ?aq fun awT aq2 amY=>?_));case eT=>exact eT
      case hm=>exact DI (l₁:=[_,_])
      case aa=>exact mW.own (cells:=cj .u32 [pv % 1000000000,pv / 1000000000]) (.head _) rfl
      case dT=>exact rfl
      case dX=>exact CO _
      case aq=>exact(show L.length+2<=1000000 by omega)
      refine U 0x302 ?_;refine dN ⟨Y / 1000000000000000000,aT,(E++tl).drop aT,c2,L++[pv % 1000000000,pv / 1000000000],awT,aq2⟩ ?_ (hm:=.append (.refl _) (.cons _ (.refl _)));exact⟨rW,fun z aM=>uz z (afO aM),cX (jN (tC _ _)) BV,avL k4 SJ,CR ZI (fun z aM=>by simp at aM;omega),by rw[CN,eX];exact amY,fun q=>.inr ⟨L,_,_,rfl,fun⟨aL,aG⟩=>by omega⟩,by rw[eX];show L.length+2<=1440;omega⟩
   ·have x4:Y=0:=jD fun q=>Kh q I;subst x4;rw[js,iD] at k4;obtain⟨ag4,co,rfl,aAW⟩:=eT.BB;have p8:=avK ZI k4 (Ii rfl);refine U 0x357 ?_;refine eT.qv (.refl _) fun gi cR n6=>?_;have jy:c9 .u32 gi (.slice ag4 L.length co) L:=⟨_,n6⟩;refine U 0x12073811439 ?_;refine c0 51 (fun Q9=>?_) fun Q9=>?_
    ·obtain⟨ax2,JA,aio,ayy,rfl,ayT,e6⟩:=jy.at I;obtain⟨y,ap,kM⟩:=e6 (L.length -1) I;have kM:nth aio (JA+((L.length:Int) -1).toNat*1)=some (.int .u32 (y:Int)):=by rw[show((L.length:Int) -1).toNat=L.length -1 by omega];exact kM
     refine U 0x17c208a30c21 ?_;refine If (fun D9=>?_) fun D9=>?_
     ·have e8:y=0:=I
      have aS:L.take (L.length -1)=ag x:=by
       rcases p8 with⟨aW,aT⟩|⟨aW,aT⟩
       ·exact absurd e8 (aW y (by rw[rC];exact ap))
       ·exact aT
      have cl:L.length -1=(ag x).length:=by rw[<-aS,eA];omega
      refine U 0x18439 ?_;refine' W.step rfl (.of (Vr rfl rfl rfl rfl (eW rfl) ?av ?hk rfl rfl ?aR ?ad ?ae fun aBe S3=>?_));case av=>assumption
      case hk=>exact ck
      case aR=>exact ck
      case ad=>exact ck
      case ae=>exact ck
      obtain⟨tN,tU,rfl,_⟩:=S3.inv;have Hl:((L.length:Int) -1 -0).toNat=L.length -1:=I
      have q7:fR gi 78 1 (.slice tN (L.length -1) tU) (L.length -1) (cj .u32 (L.take (L.length -1))):=by
       rw[Hl] at S3;have Qz:((cj .u32 L).drop ((0:Int).toNat*1)).take ((L.length -1)*1)=cj .u32 (L.take (L.length -1)):=by
        rw[show(0:Int).toNat*1=0 from rfl,gO,ha];unfold cj;rw[DH]
       rw[<-Qz];exact S3
      rw[Hl];refine U 0xd5f02110a10e702 ?_;refine bp ?_
      exact⟨cR,rfl,_,by rw[Qq,cl];rfl,fun _=>⟨78,by rw[<-cl,<-aS];exact q7⟩⟩
     ·have e8:y≠0:=I
      have aS:L=ag x:=by
       rcases p8 with⟨aW,aT⟩|⟨aW,aT⟩
       ·exact aT
       ·rw[rC,ap] at aW
        injection aW with aW
        exact absurd aW e8
      refine U 0xd5f02110a10e757 ?_;refine bp ?_
      exact⟨cR,rfl,_,by rw[Qq,aS];rfl,fun _=>by rw[aS] at jy;exact jy⟩
    ·have aS:L=ag x:=by
       have Ru:L=[]:=oj I;rcases p8 with⟨aW,aT⟩|⟨aW,aT⟩
       ·exact aT
       ·rw[Ru] at aW;cases aW
     refine U 0x357c084428439d5f57c237bdef7b ?_;refine bp ?_
     exact⟨cR,rfl,_,by rw[Qq,aS];rfl,fun _=>by rw[aS] at jy;exact jy⟩
end
def hh{α:Type}(sz:Nat)(R:Nat->α->List Value->Prop)(cells:List Value)(xs:List α):Prop:=cells.length=xs.length*sz/\∀i x,xs[i]?=some x->R i x ((cells.drop (i*sz)).take sz)
theorem hh.app{α:Type}{sz:Nat}{R:Nat->α->List Value->Prop}{cells new:List Value}{xs:List α}{x:α}(h:hh sz R cells xs)(aa:R xs.length x new)(aE:new.length=sz):hh sz R (cells++new) (xs++[x]):=by
 refine⟨by rw[eX,eX,h.1,aE,zl,c6,jb],fun i y ap=>?_⟩;by_cases q:i<xs.length
 ·rw[DF q] at ap
  have hs:i*sz+sz<=xs.length*sz:=by rw[<-o2];exact fq _ q
  rw[afI (by rw[h.1];omega),afT (by rw[jZ,h.1];omega)];exact h.2 i y ap
 ·rw[A0 I] at ap
  have aR:i=xs.length:=by
   have:=(ff.1 ap).1;rw[zl] at this;omega
  subst aR;rw[zq] at ap;injection ap with ap;subst ap
  rw[List.drop_left' (by rw[h.1]),cU I];exact aa
theorem hh.mono{α:Type}{sz:Nat}{R R':Nat->α->List Value->Prop}{cells:List Value}{xs:List α}(h:hh sz R cells xs)(c1:∀i x cs,R i x cs->R' i x cs):hh sz R' cells xs:=⟨h.1,fun i x aa=>c1 _ _ _ (h.2 i x aa)⟩
structure f' (J:aj) (r:bx) (v1 v2:Value):Prop where
 n:cS J v1 r.z.natAbs
 d:cS J v2 r.d
theorem f'.mono{J af:aj}(hle:J.le af){r:bx}{v1 v2:Value}(h:f' J r v1 v2):f' af r v1 v2:=⟨h.n.mono hle,h.d.mono hle⟩
def pR(J:aj)(r:bx)(cs:List Value):Prop:=∃v1 v2,cs=ko r v1 v2/\f' J r v1 v2
def lA(J:aj)(r:bx)(cs:List Value):Prop:=∃v1 v2,cs=ko r v1 v2/\gh J r v1 v2
theorem pR.mono{J af:aj}(hle:J.le af){r:bx}{cs:List Value}(h:pR J r cs):pR af r cs:=by
 obtain⟨v1,v2,ad,ae⟩:=h;exact⟨v1,v2,ad,ae.mono hle⟩
theorem lA.mono{J af:aj}(hle:J.le af){r:bx}{cs:List Value}(h:lA J r cs):lA af r cs:=by
 obtain⟨v1,v2,ad,ae⟩:=h;exact⟨v1,v2,ad,ae.mono hle⟩
theorem adM{d z rest new:List Value}{off:Nat}(ah:off=d.length)(aM:z.length=new.length):gS off (d++(z++rest)) new=some (d++(new++rest)):=by
 subst ah;rw[y3 _ _ _ (by rw[eX,eX];omega),Wg,lB];congr 3
 rw[<-lB,afI (by rw[eX];omega),rB (by rw[eX];omega),kj]
structure KP (k:Nat) (r:bx):Prop where
 n:(ag r.z.natAbs).length<=k
 d:(ag r.d).length<=k
theorem CF(x:Nat):(aO x).length<=(ag x).length:=by
 refine Jj ?_;have ad:=ly (hR x);rw[g'] at ad;exact iM ad (O9 bI _)
theorem KP.d'{k:Nat}{r:bx}(h:KP k r):h2 k r:=⟨cX (CF _) h.n,cX (CF _) h.d⟩
abbrev nY(r:bx):Bool:=decide ((ag r.z.natAbs).length<=1024)&&decide ((ag r.d).length<=1024)
section
variable {Q:c7 Tryz.prog}{g0:Nat}{J:aj}
theorem aef{v:Value}{x:Nat}(h:cJ J v x)(g4:(aO x).length<=100000):Fn (aU Q g0) 90 [v] [] J (Pd J x):=by
 by_cases q:x=0
 ·subst q;exact avI h
 ·exact avJ h q g4
theorem atr{r:bx}{v1 v2:Value}(ao:gh J r v1 v2)(fr:h2 30000 r)(l8:r.d≠0):Fn (aU Q g0) 53 [dm r v1 v2] [] J (fun u m' af=>J.le af/\m'=[]/\((nY r=true/\∃v1 v2,u=.tuple #[dm r v1 v2,.bool true]/\f' af r v1 v2)\/(nY r=false/\u=.tuple #[.agg #[.bool false,.slice none 0 0,.slice none 0 0],.bool false]))):=by
 have cT:=ao;have TF:=fr.n;have TE:=fr.d;obtain⟨a',b1,bb,rfl,aL,ix,ks⟩:=ao.n.bN;obtain⟨bf,df,br,rfl,aG,nu,jA⟩:=ao.d.bN;refine Fn.b5 (b2 Tryz.func53) rfl rfl fun H=>?_;refine rg ?_;refine eQ fun ba=>?_;refine fa fun bd=>?_;refine U 0xa6e702 ?_;refine bC (G:=aef cT.n I) (h:=?_);rintro v' m' bu aY ⟨_,rfl,bl,rfl,Cn⟩;refine U 0x5f110e70211ce1 ?_;refine If (fun fc=>?_) fun fc=>?_
 ·have GS:¬(ag r.z.natAbs).length<=1024:=by simpa using fc
  refine U 0x6af817219 ?_;refine bp ?_
  exact⟨aY,rfl,.inr ⟨by simp[nY,GS],rfl⟩⟩
 ·have GS:(ag r.z.natAbs).length<=1024:=by simpa using fc
  have hr:=Cn GS;obtain⟨bV,ef,cc,rfl,bt⟩:=hr.bN;refine U 0x5e757 ?_;refine bC (G:=rI (cT.mono aY) l8) (h:=?_);rintro v' m' cZ bG ⟨_,rfl,mB⟩;have yk:=mB;obtain⟨dx,e9,ej,rfl,du,_,_⟩:=mB.bN;refine bC (G:=aef yk I) (h:=?_);rintro v' m' gi cR ⟨_,rfl,gq,rfl,MJ⟩;refine U 0x5f110e70211ce1 ?_;refine If (fun ms=>?_) fun ms=>?_
  ·have Lh:¬(ag r.d).length<=1024:=by simpa using ms
   refine U 0x6af817219 ?_;refine bp ?_
   exact⟨(aY.trans bG).trans cR,rfl,.inr ⟨by simp[nY,GS,Lh],rfl⟩⟩
  ·have Lh:(ag r.d).length<=1024:=by simpa using ms
   have lP:=MJ Lh;obtain⟨fs,hv,gl,rfl,fU⟩:=lP.bN;refine U 0x1abe05c8042a6e757 ?_;refine bp ?_
   exact⟨(aY.trans bG).trans cR,rfl,.inl ⟨by simp[nY,GS,Lh],_,_,rfl,(hr.mono bG).mono cR,lP⟩⟩
theorem alg{r:bx}{v1 v2:Value}(ao:f' J r v1 v2)(I7:KP 10000 r)(iQ:r.hG):Fn (aU Q g0) 99 [dm r v1 v2] [] J (pS J r):=by
 have cT:=ao;have rd:=iQ.1;have ec:=I7.n;have dA:=I7.d;have ib:=I7.d'.d;obtain⟨a',b1,bb,rfl,aL⟩:=ao.n.bN;obtain⟨bf,df,br,rfl,aG⟩:=ao.d.bN;refine Fn.b5 (b2 Tryz.func99) rfl rfl fun H=>?_;refine rg ?_;refine eQ fun ba=>?_;refine fa fun bd=>?_;refine ns ?_;refine az.draw rfl (by kernel_rfl) (a1:=[.val 0,.val 1,.val 2,.val 3,.val 5,.val 6,.bE 4,.b9 [6,5,1,0],.bE 7,.b9 [1,0],.bE 8,.bE 9]) (by kernel_rfl) ?_;refine U 0x794d5354d ?_;refine' bz.dE rfl rfl rfl rfl rfl rfl rfl rfl rfl dF (Ym cT.n I) ?_;rintro v' m' bu aY ⟨_,rfl,hr⟩;have Cn:=hr;obtain⟨bV,ef,cc,rfl,bt,_,_⟩:=hr.bN;refine bz.b9 fD ?_;refine' bz.dE rfl rfl rfl rfl rfl rfl rfl rfl rfl (dj (fun _ aF=>kk.hs aY (cT.n.pz (cT.mono aY).d aY (KI aF).1) rfl) dF) (Ym (cT.mono aY).d I) ?_;rintro v' m' cZ bG ⟨_,rfl,mB⟩;have yk:=mB;obtain⟨dx,e9,ej,rfl,du,_,_⟩:=mB.bN;refine bz.b9 fD ?_;refine' bz.dE rfl rfl rfl rfl rfl rfl rfl rfl rfl (dj (eC rfl) (dj (eC rfl) dF)) (Ja (r:=r) (Cn.mono bG) yk (fun _=>rfl) (Ly iQ) (j1 rd) I) ?_;rintro v' m' gi cR ⟨_,rfl,dW,fi,rfl,bM⟩;have ch:=bM;obtain⟨fs,hv,gl,rfl,fU,_,_⟩:=bM.n.bN;obtain⟨fb,fe,eo,rfl,ih,_,_⟩:=bM.d.bN;refine U 0x1abe39e ?_;refine bp ?_;exact⟨(aY.trans bG).trans cR,rfl,_,_,rfl,ch⟩
theorem list_fn{rs:List bx}{b:Option Addr}{c:Nat}(h:dD J 37 3 (pR J) (.slice b rs.length c) rs)(aq:rs.length<=1000)(ai:∀r∈rs,r.hG/\KP 10000 r):
 Fn (aU Q g0) 72 [.slice b rs.length c] [] J (fun u m' af=>J.le af/\m'=[]/\∃b' c',u=.slice b' rs.length c'/\dD af 63 3 (lA af) (.slice b' rs.length c') rs):=by
 have k6:addrEq b b=true:=h.addr;obtain⟨_,eU⟩:=h.at;refine Fn.b5 (b2 Tryz.func72) rfl rfl fun H=>?_;refine U 0xa1ce059 ?_;refine' W.step rfl (.of (nf rfl rfl rfl rfl rfl (eW rfl) ?aR ?ad ?ae fun hn=>?_));case aR=>exact ck
 case ad=>exact ck
 case ae=>exact ck
 refine U 0x302 ?_;rw[gG];refine U 0x6af809439 ?_;refine c3 [(11,.int .i64 ((0):Int)),(3,_),(9,_),(10,_)] ?_;refine a2 ?_;refine' az.bH (fun(bK:Nat×(List Value)×aj)=>match bK with|(i,d,cq)=>⟨[(11,.int .i64 (i:Int))],[(hn,.row (d++fM [.bool false,.slice none 0 0,.slice none 0 0] (rs.length -i)) 63)],cq,i<=rs.length/\J.le cq/\hh 3 (fun _=>lA cq) d (rs.take i),rs.length -i⟩) ⟨0,[],J⟩ ?hs ?a7
 case hs=>exact⟨c5 _,aj.le.refl _,rfl,fun i x h=>by cases h⟩
 case a7=>
  rintro⟨i,d,cq⟩ hinv;try simp only at hinv
  obtain⟨ak,cA,iv⟩:=hinv;refine U 0xbe099 ?_;refine If (fun j3=>?_) fun j3=>?_
  ·obtain⟨a,off,cells,bD,rfl,l6,hD⟩:=eU I;obtain⟨r,cs,ao,g3,mx,v1,v2,rfl,c1⟩:=hD i I I;rw[gG] at ao;have l6:=cA _ _ l6;obtain⟨iQ,I7⟩:=ai r (et ao);have p2:=c1;obtain⟨a',b1,bb,rfl,aL⟩:=c1.n.bN;obtain⟨bf,df,br,rfl,aG⟩:=c1.d.bN;have pe:d.length=i*3:=by rw[iv.1,eA,g6 ak]
   refine U 0x61839d5f57 ?_;refine fa fun dw=>?_;refine U 0x3021ce382 ?_;refine bC (G:=alg (p2.mono cA) I7 iQ) (h:=?_);rintro v' m' bu aY ⟨_,rfl,dW,fi,rfl,bM⟩;have ch:=bM;obtain⟨fb,fe,eo,rfl,ih,_,_⟩:=bM.n.bN;obtain⟨iq,mG,fC,rfl,mK,_,_⟩:=bM.d.bN;refine eZ V.dz ?_;refine' iN ?hs ?_;case hs=>exact(by rw[show rs.length -i=(rs.length -(i+1))+1 by omega,AS];exact adM (by rw[pe];omega) rfl)
   refine nS ?_;have ur:hh 3 (fun _=>lA bu) (d++ko r (.slice fb fe eo) (.slice iq mG fC)) (rs.take (i+1)):=by
    rw[lD,ao];exact(iv.mono fun _ _ _ q=>q.mono aY).app ⟨_,_,rfl,ch⟩ rfl
   rw[<-lB];refine U 0xc0479 ?_;refine dN ⟨i+1,d++ko r (.slice fb fe eo) (.slice iq mG fC),bu⟩ ?_ (hm:=.cons _ (.refl _));exact⟨I,cA.trans aY,ur⟩
  ·refine U 0x357 ?_;obtain rfl:i=rs.length:=I
   refine az.ri (m':=[(hn,.row d 63)]) (by show List.Perm _ [(hn,dI.row (d++fM [.bool false,.slice none 0 0,.slice none 0 0] (rs.length -rs.length)) 63)];rw[zq,Ks,hi]) ?_;refine az.ie rfl fun bG=>?_;rw[pM] at iv;refine U 0x357c0839 ?_;refine bp ?_;refine⟨cA.trans bG,rfl,some ⟨hn,0,none⟩,rs.length,rfl,d,fR.row (aj.iE _ _ _) (by rw[gO,cU (by rw[iv.1];exact bU _)]) iv.1 (fun _=>⟨bU _,mU aq bI⟩) (fun _=>rfl),fun j x aa=>(iv.2 j x aa).mono bG⟩
end
end
end Go.Opn
namespace Go.Opn
noncomputable section
def gT(sa b6:Nat):List Nat->List Nat->Nat
 |p::ps,q::dO=>((p:Int)*b6 -(q:Int)*sa).natAbs+gT sa b6 ps dO
 |_,_=>0
theorem Vi{sa b6:Nat}:∀{ps dO:List Nat},gT sa b6 ps dO<=ps.sum*b6+dO.sum*sa
 |[],_=>by show 0<=_;omega
 |_::_,[]=>by show 0<=_;omega
 |p::ps,q::dO=>by
  have aP:=Vi (sa:=sa) (b6:=b6) (ps:=ps) (dO:=dO);show _+gT sa b6 ps dO<=_;rw[vo,vo,c6,c6];have:((p:Int)*b6 -(q:Int)*sa).natAbs<=p*b6+q*sa:=by
   have ax:((p*b6:Nat):Int)=(p:Int)*b6:=gY _ _;have aS:((q*sa:Nat):Int)=(q:Int)*sa:=gY _ _;omega
  omega
end
end Go.Opn
namespace Go.Opn
noncomputable section
open Go.Cre Go.RowKit Go.Proofs
theorem tg{X d:Nat}(au:0<d):¬(bk (X:Int) d).z<0:=fun h=>by
 have:=(Nq (z:=(X:Int)) au).2.1.1 h;omega
theorem zP{n d k:Nat}(au:0<d)(ad:(aO n).length<=k)(ae:(aO d).length<=k):h2 k (bk (n:Int) d):=alj au (by rw[iC];exact ad) ae
theorem avo{l:List Nat}{i x:Nat}(h:l[i]?=some x):(l.take (i+1)).sum=(l.take i).sum+x:=by
 rw[lD,h];simp
theorem N4{l:List Nat}:∀{i:Nat},(l.take i).sum<=l.sum:=by
 induction l with
 |nil=>intro i;simp
 |cons a l aP=>
  intro i;cases i with
  |zero=>simp
  |succ i=>rw[DK,vo,vo];have:=aP (i:=i);omega
section
variable {Q:c7 Tryz.prog}{g0:Nat}{J:aj}
theorem WH{r s:bx}{x y:Bool}{v1 v2 bl b7:Value}(aa:x=decide (r.z<0))(ap:y=decide (s.z<0))(ao:gh J r v1 v2)(hs:gh J s bl b7)(iQ:r.hG)(cs:s.hG){k j:Nat}(fr:h2 k r)(e5:h2 j s)(hk:k<=30000)(aX:j<=30000):Fn (aU Q g0) 48 [.agg #[.bool x,v1,v2],.agg #[.bool y,bl,b7]] [] J (pS J (bk (r.z*s.d+s.z*r.d) (r.d*s.d))):=by
 subst aa;subst ap;exact Po ao hs iQ cs fr e5 hk aX
theorem ajd{r s:bx}{x:Bool}{v1 v2 bl b7:Value}(aa:x=decide (r.z<0))(ao:gh J r v1 v2)(hs:gh J s bl b7)(iQ:r.hG)(cs:s.hG)(sz:0<s.z){k j:Nat}(fr:h2 k r)(e5:h2 j s)(hk:k<=30000)(aX:j<=30000):Fn (aU Q g0) 51 [.agg #[.bool x,v1,v2],dm s bl b7] [] J (pS J (bk (r.z*s.d) (r.d*s.z.natAbs))):=by
 subst aa;exact ajc ao hs iQ cs sz fr e5 hk aX
theorem avS{ps:List Nat}{s:Nat}{b:Option Addr}{c:Nat}(h:dD J 63 3 (lA J) (.slice b ps.length c) (ps.map fun p:Nat=>bk (p:Int) s))(hs:0<s)(r2:(aO s).length<=10000)(aw:(aO ps.sum).length<=10000)(aq:ps.length<=1000):
 Fn (aU Q g0) 73 [.slice b ps.length c] [] J (pS J (bk (ps.sum:Int) s)):=by
 have k6:addrEq b b=true:=h.addr;obtain⟨rY,eU⟩:=h.at;rw[j0] at eU;have oM:bk ((0:Nat):Int) s=⟨0,1⟩:=yJ hs;refine Fn.b5 (b2 Tryz.func73) rfl rfl fun H=>?_;refine rg ?_;refine fa fun bd=>?_;refine Jo ?_;refine fa fun cm=>?_;refine U 0xd5f0128738 ?_;refine c3 [(8,.int .i64 ((0):Int)),(2,_),(3,_),(6,_),(7,_)] ?_;refine a2 ?_;refine' az.bH (fun(bK:Nat×Value×Value×aj)=>match bK with|(i,bl,b7,cq)=>⟨[(8,.int .i64 (i:Int))],[(cm,.row [.bool false,bl,b7] 63),(bd,.row [.bool false,.slice none 0 0,.slice none 0 0] 63)],cq,i<=ps.length/\J.le cq/\gh cq (bk (((ps.take i).sum:Nat):Int) s) bl b7,ps.length -i⟩) ⟨0,.slice none 0 0,.slice none 0 0,J⟩ ?hs ?a7
 case hs=>exact⟨c5 _,aj.le.refl _,by rw[fO,Wf,oM];exact⟨cJ.nil,cJ.nil⟩⟩
 case a7=>
  rintro⟨i,bl,b7,cq⟩ hinv;try simp only at hinv
  obtain⟨ak,cA,bM⟩:=hinv;have kH:=bM;obtain⟨bV,ef,cc,rfl,bt,_,_⟩:=bM.n.bN;obtain⟨dx,e9,ej,rfl,du,_,_⟩:=bM.d.bN;refine U 0xbe099 ?_;refine If (fun ep=>?_) fun ep=>?_
  ·obtain⟨a,off,cells,bD,rfl,l6,hD⟩:=eU I;obtain⟨r,cs,ao,g3,mx,v1,v2,rfl,c1⟩:=hD i I I;rw[gG,lC] at ao;obtain⟨p,Ch,rfl⟩:=xe.1 ao;have l6:=cA _ _ l6;have p2:=c1.mono cA;obtain⟨a',b1,bb,rfl,aL,_,_⟩:=c1.n.bN;obtain⟨bf,df,br,rfl,aG,_,_⟩:=c1.d.bN;have dB:=avo Ch;have m7:=N4 (l:=ps) (i:=i+1);have hz:=zP (n:=(ps.take i).sum) hs (cX (jN N4) aw) r2;have l1:=zP (n:=p) hs (cX (jN (show p<=ps.sum by omega)) aw) r2;have og:=tg (X:=(ps.take i).sum) hs;have AQ:=tg (X:=p) hs;have AR:=tg (X:=(ps.take (i+1)).sum) hs;have Kl:=T1 (X:=(((ps.take i).sum:Nat):Int)) (Y:=(p:Int)) hs;rw[<-so,<-dB] at Kl;refine U 0x30d9d5f57 ?_;refine fa fun dw=>?_;refine U 0xc6671c ?_;refine bC (G:=WH (by rw[fW og]) rfl kH p2 (me hs) (me hs) hz l1 I I) (h:=?_);rintro v' m' bu aY ⟨_,rfl,dW,fi,rfl,ch⟩;rw[Kl] at ch;have jy:=ch;obtain⟨fs,hv,gl,rfl,fU,_,_⟩:=ch.n.bN;obtain⟨fb,fe,eo,rfl,ih,_,_⟩:=ch.d.bN;rw[Kl];refine U 0x31c ?_;rw[fW AR];refine U 0xc0479 ?_;refine dN ⟨i+1,.slice fs hv gl,.slice fb fe eo,bu⟩ ?_ (hm:=.cons _ (.refl _));exact⟨I,cA.trans aY,jy⟩
  ·obtain rfl:i=ps.length:=I
   rw[pM] at kH;have og:=tg (X:=ps.sum) hs;refine U 0xd5f1c66757 ?_;refine bp ?_;exact⟨cA,rfl,_,_,by rw[show dm (bk (ps.sum:Int) s) (.slice bV ef cc) (.slice dx e9 ej)=.agg #[.bool (decide ((bk (ps.sum:Int) s).z<0)),.slice bV ef cc,.slice dx e9 ej] from rfl,fW og];rfl,kH⟩
end
theorem Jc:∀{l:List Nat} {x:Nat},x∈l->x<=l.sum
 |a::l,x,h=>by
  rw[vo];rcases gj.1 h with rfl|h
  ·omega
  ·have:=Jc h;omega
theorem Vj{sa b6:Nat}:∀{ps dO:List Nat} {i p q:Nat},ps[i]?=some p->dO[i]?=some q->gT sa b6 (ps.take (i+1)) (dO.take (i+1))=gT sa b6 (ps.take i) (dO.take i)+((p:Int)*b6 -(q:Int)*sa).natAbs
 |[],_,i,_,_,h,_=>by cases i<;>cases h
 |_::_,[],i,_,_,_,h=>by cases i<;>cases h
 |a::ps,b::dO,0,p,q,ad,ae=>by
  injection ad with ad;injection ae with ae;subst ad;subst ae
  show((a:Int)*b6 -(b:Int)*sa).natAbs+gT sa b6 [] []=gT sa b6 [] []+_;show _+0=0+_;omega
 |a::ps,b::dO,i+1,p,q,ad,ae=>by
  have aP:=Vj (sa:=sa) (b6:=b6) (ps:=ps) (dO:=dO) (i:=i) ad ae;show((a:Int)*b6 -(b:Int)*sa).natAbs+gT sa b6 (ps.take (i+1)) (dO.take (i+1))=((a:Int)*b6 -(b:Int)*sa).natAbs+gT sa b6 (ps.take i) (dO.take i)+_;rw[aP];omega
theorem aeZ{sa b6:Nat}{ps dO:List Nat}{i:Nat}:gT sa b6 (ps.take i) (dO.take i)<=ps.sum*b6+dO.sum*sa:=
 cX Vi (Nat.add_le_add (fq _ N4) (fq _ N4))
section
variable {Q:c7 Tryz.prog}{g0:Nat}{J:aj}
theorem awK{ps dO:List Nat}{sa b6:Nat}{b b':Option Addr}{c c':Nat}(h:dD J 63 3 (lA J) (.slice b ps.length c) (ps.map fun p:Nat=>bk (p:Int) sa))(hd:dD J 63 3 (lA J) (.slice b' dO.length c') (dO.map fun p:Nat=>bk (p:Int) b6))(yf:0<sa)(qf:0<b6)(aF:(aO sa).length<=3000)(ai:(aO b6).length<=3000)(aw:ps.sum=sa)(bQ:dO.sum=b6)(aq:ps.length<=1000)(l9:ps.length=dO.length):
 Fn (aU Q g0) 22 [.slice b ps.length c,.slice b' dO.length c'] [] J (pS J (bk (gT sa b6 ps dO:Int) (sa*b6*2))):=by
 have k6:addrEq b b=true:=h.addr;have NN:addrEq b' b'=true:=hd.addr;obtain⟨_,eU⟩:=h.at;obtain⟨_,H2⟩:=hd.at;rw[j0] at eU H2;have cp:0<sa*b6:=jr yf qf;have zQ:=yF aF ai;have oM:bk ((0:Nat):Int) (sa*b6)=⟨0,1⟩:=yJ cp;have Ez:(aO (sa*b6+sa*b6)).length<=6001:=abN zQ zQ;have kt:∀i,(aO (gT sa b6 (ps.take i) (dO.take i))).length<=6001:=fun i=>by
  have:=aeZ (sa:=sa) (b6:=b6) (ps:=ps) (dO:=dO) (i:=i);rw[aw,bQ,dP b6 sa] at this;exact cX (jN this) Ez
 refine Fn.b5 (b2 Tryz.func22) rfl rfl fun H=>?_;refine rg ?_;refine fa fun cQ=>?_;refine Jo ?_;refine fa fun dw=>?_;refine U 0xd5f0128738 ?_;refine c3 [(10,.int .i64 ((0):Int)),(1,_),(4,_),(5,_),(8,_),(9,_)] ?_;refine a2 ?_;refine' az.bH (fun(bK:Nat×Value×Value×aj)=>match bK with|(i,bl,b7,cq)=>⟨[(10,.int .i64 (i:Int))],[(dw,.row [.bool false,bl,b7] 63),(cQ,.row [.bool false,.slice none 0 0,.slice none 0 0] 63)],cq,i<=ps.length/\J.le cq/\gh cq (bk ((gT sa b6 (ps.take i) (dO.take i):Nat):Int) (sa*b6)) bl b7,ps.length -i⟩) ⟨0,.slice none 0 0,.slice none 0 0,J⟩ ?hs ?a7
 case hs=>exact⟨c5 _,aj.le.refl _,by rw[fO,fO];show gh J (bk ((0:Nat):Int) (sa*b6)) _ _;rw[oM];exact⟨cJ.nil,cJ.nil⟩⟩
 case a7=>
  rintro⟨i,bl,b7,cq⟩ hinv;try simp only at hinv
  obtain⟨ak,cA,bM⟩:=hinv;have kH:=bM;obtain⟨bV,ef,cc,rfl,bt,_,_⟩:=bM.n.bN;obtain⟨dx,e9,ej,rfl,du,_,_⟩:=bM.d.bN;refine U 0xbe099 ?_;refine If (fun kn=>?_) fun kn=>?_
  ·obtain⟨a,off,cells,bD,rfl,l6,hD⟩:=eU I;obtain⟨r,cs,ao,g3,mx,v1,v2,rfl,c1⟩:=hD i I I;rw[gG,lC] at ao;obtain⟨p,Ch,rfl⟩:=xe.1 ao;have l6:=cA _ _ l6;have p2:=c1.mono cA;obtain⟨a',b1,bb,rfl,aL,_,_⟩:=c1.n.bN;obtain⟨bf,df,br,rfl,aG,_,_⟩:=c1.d.bN;obtain⟨b0,gw,cells',aS,rfl,HV,R6⟩:=H2 I;obtain⟨cv,cG,IB,anc,anQ,av8,av9,rfl,BR⟩:=R6 i I I;rw[gG,lC] at IB;obtain⟨q,IA,rfl⟩:=xe.1 IB;have HV:=cA _ _ HV;have HY:=BR.mono cA;obtain⟨fs,hv,gl,rfl,fU,_,_⟩:=BR.n.bN;obtain⟨fb,fe,eo,rfl,ih,_,_⟩:=BR.d.bN;have Ci:=cX (Jc (et Ch)) (DN aw);have SF:=cX (Jc (et IA)) (DN bQ);have dB:=Vj (sa:=sa) (b6:=b6) Ch IA;have zZ:(aO ((p:Int)*b6+-(q:Int)*sa).natAbs).length<=6001:=by
    refine cX (jN ?_) (kt (i+1));rw[dB,oY,<-KF];omega
   have dW:=zP (n:=p) yf (cX (jN Ci) aF) aF;have Ki:=zP (n:=q) qf (cX (jN SF) ai) ai;have Dm:=zP (n:=gT sa b6 (ps.take i) (dO.take i)) cp (kt i) (show _<=6001 by omega);have ae':=zP (n:=((p:Int)*b6+-(q:Int)*sa).natAbs) cp zZ (show _<=6001 by omega);have hz:=tg (X:=gT sa b6 (ps.take i) (dO.take i)) cp;have iX:=tg (X:=gT sa b6 (ps.take (i+1)) (dO.take (i+1))) cp;have l1:bk ((bk (p:Int) sa).z*(bk (q:Int) b6).d+-(bk (q:Int) b6).z*(bk (p:Int) sa).d) ((bk (p:Int) sa).d*(bk (q:Int) b6).d)=bk ((p:Int)*b6+-(q:Int)*sa) (sa*b6):=by
    have aW:=ab8 (X:=(q:Int)) qf;have aT:=Nn (X:=(p:Int)) (Y:=-(q:Int)) yf qf;rw[<-aW] at aT;exact aT
   have tu:=ab6 (X:=(p:Int)*b6+-(q:Int)*sa) cp;have og:=T1 (X:=(gT sa b6 (ps.take i) (dO.take i):Int)) (Y:=(((p:Int)*b6+-(q:Int)*sa).natAbs:Int)) cp;have AQ:(gT sa b6 (ps.take i) (dO.take i):Int)+(((p:Int)*b6+-(q:Int)*sa).natAbs:Int)=(gT sa b6 (ps.take (i+1)) (dO.take (i+1)):Int):=by
    rw[dB,so,oY,<-KF]
   rw[AQ] at og;have wo:eg 8 (.agg #[.bool false,.slice bV ef cc,.slice dx e9 ej]) (.agg #[.bool false,.slice bV ef cc,.slice dx e9 ej])=true:=by simp[eg,je,bt,du,m0]
   refine U 0x61839d5f57 ?_;refine fa fun eP=>?_;refine U 0xbe382 ?_;refine az.draw rfl (by kernel_rfl) (a1:=[.val 0,.val 1,.val 2,.val 3,.val 4,.val 5,.bE 6,.b9 [0],.bE 7,.b9 [0],.bE 8,.bE 9]) (by kernel_rfl) ?_;refine U 0x1860858c ?_;refine dl rfl (G:=avk p2 HY (me yf) (me qf) dW Ki I I) (h:=?_);rintro v' m' bu aY ⟨_,rfl,e',fj,rfl,ch⟩;rw[l1] at ch;have lh:=ch;obtain⟨iq,mG,fC,rfl,mK,_,_⟩:=ch.n.bN;obtain⟨km,m9,hq,rfl,oS,_,_⟩:=ch.d.bN;rw[l1];refine ct.b9 fD ?_;refine dl rfl (G:=agp lh) (h:=?_);rintro v' m' af hle ⟨rfl,rfl,rfl⟩;rw[tu];refine ct.b9 fD ?_;refine dl rfl (G:=WH (r:=bk (gT sa b6 (ps.take i) (dO.take i):Int) (sa*b6)) (by rw[fW hz]) rfl (kH.mono aY) (s:=bk (((p:Int)*b6+-(q:Int)*sa).natAbs:Int) (sa*b6)) (by rw[<-tu];exact⟨lh.n,lh.d⟩) (me cp) (me cp) Dm ae' I I) (h:=?_);rintro v' m' gi cR ⟨_,rfl,e',fj,rfl,e1⟩;rw[og] at e1;have jy:=e1;obtain⟨ir,qo,ep,rfl,oT,_,_⟩:=e1.n.bN;obtain⟨kT,tf,dp,rfl,oa,_,_⟩:=e1.d.bN;rw[og];refine U 0x31c ?_;rw[fW iX];refine U 0xc0479 ?_;refine dN ⟨i+1,.slice ir qo ep,.slice kT tf dp,gi⟩ ?_ (hm:=.cons _ (.refl _));exact⟨I,((cA.trans aY).trans cR),jy⟩
  ·obtain rfl:i=ps.length:=I
   have Z9:=kt ps.length;rw[pM,show dO.take ps.length=dO from cU I] at kH Z9;have og:=tg (X:=gT sa b6 ps dO) cp;have Dm:=zP (n:=gT sa b6 ps dO) cp Z9 (show _<=6001 by omega);have wo:eg 8 (.agg #[.bool false,.slice bV ef cc,.slice dx e9 ej]) (.agg #[.bool false,.slice bV ef cc,.slice dx e9 ej])=true:=by simp[eg,je,bt,du,m0]
   refine U 0x5f57 ?_;refine az.draw rfl (by kernel_rfl) (a1:=[.val 0,.bE 1,.b9 [0],.bE 2,.bE 3]) (by kernel_rfl) ?_;refine zi rfl V.Ts ?_;refine dl rfl (G:=Tj (n:=2) bI) (h:=?_);rintro v' m' bu aY ⟨_,rfl,e',fj,rfl,ch⟩;have lh:=ch;obtain⟨iq,mG,fC,rfl,mK,_,_⟩:=ch.n.bN;obtain⟨km,m9,hq,rfl,oS,_,_⟩:=ch.d.bN;refine ct.b9 fD ?_;refine dl rfl (G:=ajd (r:=bk (gT sa b6 ps dO:Int) (sa*b6)) (by rw[fW og]) (kH.mono aY) lh (me cp) ⟨by decide,by decide⟩ bI Dm (h2.mk (k:=1) (yG bI) (yG bI)) I I) (h:=?_);rintro v' m' cZ bG ⟨_,rfl,e',fj,rfl,e1⟩;have jy:=e1;obtain⟨ir,qo,ep,rfl,oT,_,_⟩:=e1.n.bN;obtain⟨kT,tf,dp,rfl,oa,_,_⟩:=e1.d.bN;refine U 0xd5f1c ?_;refine bp ?_;have e:bk ((bk (gT sa b6 ps dO:Int) (sa*b6)).z*((1:Nat):Int)) ((bk (gT sa b6 ps dO:Int) (sa*b6)).d*2)=bk (gT sa b6 ps dO:Int) (sa*b6*2):=ab7 cp;exact⟨(cA.trans aY).trans bG,rfl,_,_,HB e,jy.cast e⟩
end
def qC:List Nat:=[0,1,56,2,57,49,28,3,61,58,42,50,38,29,17,4,62,47,59,36,45,43,51,22,53,39,33,30,24,18,12,5,63,55,48,27,60,41,37,16,46,35,44,21,52,32,23,11,54,26,40,15,34,20,31,10,25,14,19,9,13,8,7,6]
theorem U':∀{x:Nat},x≠0->∃k o,x=2 ^ k*o/\o % 2=1:=by
 intro x;induction x using Nat.strongRecOn with
 |_ x aP=>
  intro h;rcases O4 x with q|q
  ·obtain⟨k,o,ad,ae⟩:=aP (x / 2) I I
   refine⟨k+1,o,?_,ae⟩;rw[fP,dP (2 ^ k) 2,fy,<-ad];omega
  ·exact⟨0,x,by rw[zo,jb],q⟩
theorem J9{x k o:Nat}(he:x=2 ^ k*o)(ah:o % 2=1)(aa:x<18446744073709551616):k<64/\o<18446744073709551616:=by
 have ad:1<=o:=I
 have ae:2 ^ k*1<=2 ^ k*o:=hI _ ad;have aD:1*o<=2 ^ k*o:=fq _ (l3 k);refine⟨?_,I⟩;apply O3
 intro q;have:2 ^ 64<=2 ^ k:=mV bI q;omega
theorem aqL{x k o:Nat}(he:x=2 ^ k*o)(ah:o % 2=1)(aa:x<18446744073709551616):x &&& (18446744073709551616 -x)=2 ^ k:=by
 obtain⟨hk,Mx⟩:=J9 he ah aa;have hs:2 ^ (64 -k)*2 ^ k=18446744073709551616:=xv I;have oI:o<2 ^ (64 -k):=O2 (a:=2 ^ k) (by rw[hs,dP,<-he];exact aa);have aS:18446744073709551616 -x=(2 ^ (64 -k) -o)*2 ^ k:=by rw[Nat.sub_mul,hs,he,dP o]
 have ax:o &&& (2 ^ (64 -k) -o)=1:=by
  refine af1 fun i=>?_;rw[Nat.testBit_and];obtain⟨m,hm⟩:∃m,o=2*m+1:=⟨o / 2,I⟩;have ad:=Nat.testBit_two_pow_sub_succ (x:=2*m) (n:=64 -k) I i;rw[show 2*m+1=o from hm.symm] at ad;rw[ad];cases i with
  |zero=>
   have ae:Nat.testBit (2*m) 0=false:=by rw[Nat.testBit_zero];simp
   have aD:Nat.testBit o 0=true:=by rw[Nat.testBit_zero,ah];rfl
   rw[ae,aD];have:0<64 -k:=I
   simp[this]
  |succ i=>
   have ae:Nat.testBit (2*m) (i+1)=Nat.testBit o (i+1):=by
        rw[Wq,Wq];congr 1
        omega
   rw[ae,Wq 1];show(Nat.testBit o (i+1)&&(_&&!Nat.testBit o (i+1)))=Nat.testBit 0 i;rw[Nat.zero_testBit];cases Nat.testBit o (i+1)<;>simp
 have cl:x=o*2 ^ k:=by rw[he,dP]
 rw[aS];conv=>lhs;rw[cl]
 rw[<-Wp,<-Wp,<-Nat.shiftLeft_and_distrib,ax,Wp,jb]
def MT(k:Nat):Nat:=(2 ^ k*285870213051353865 % 18446744073709551616) / 288230376151711744
theorem apJ:∀k,k<64->MT k<64/\qC[MT k]?=some k:=by decide+kernel
theorem agG{a b:Nat}(aF:a<18446744073709551616)(ai:b<18446744073709551616):IntKind.u64.wrap ((BitVec.ofInt IntKind.u64.bits (a:Int) &&& BitVec.ofInt IntKind.u64.bits (b:Int)).toNat:Int)=((a &&& b:Nat):Int):=by
 have e:(BitVec.ofInt 64 (a:Int) &&& BitVec.ofInt 64 (b:Int)).toNat=a &&& b:=by
  rw[BitVec.toNat_and];have ad:(BitVec.ofInt 64 (a:Int)).toNat=a:=by rw[BitVec.toNat_ofInt];omega
  have ae:(BitVec.ofInt 64 (b:Int)).toNat=b:=by rw[BitVec.toNat_ofInt];omega
  rw[ad,ae]
 show IntKind.u64.wrap ((BitVec.ofInt 64 (a:Int) &&& BitVec.ofInt 64 (b:Int)).toNat:Int)=_;rw[e];exact Vp (mU Nat.and_le_left aF)
theorem ark{x:Nat}(aR:x≠0)(h:x<18446744073709551616):IntKind.u64.wrap (-(x:Int))=((18446744073709551616 -x:Nat):Int):=by
 rw[Vo];omega
theorem auv{x:Nat}:(x:Int).fdiv (2 ^ ((58:Int).toNat))=((x / 288230376151711744:Nat):Int):=JZ (q:=58)
theorem Nu{a k:Nat}(aF:a % 2=1):Nat.Coprime a (2 ^ k):=Nat.Coprime.pow_right _ (by
 show Nat.gcd a 2=1;rw[pO,DM,aF];rfl)
theorem Nt{d a:Nat}(h:d ∣ a)(aF:a % 2=1):d % 2=1:=by
 obtain⟨c,rfl⟩:=h;rcases O4 d with k|k
 ·rw[Nat.mul_mod,k,jE] at aF;cases aF
 ·exact k
theorem alv{a b k o:Nat}(aF:a % 2=1)(he:b=2 ^ k*o):Nat.gcd a o=Nat.gcd a b:=by
 rw[he];exact(Nat.Coprime.gcd_mul_left_cancel_right _ (Nu (k:=k) aF).symm).symm
theorem alt{x y aU eF t o:Nat}(Cp:x=2 ^ aU*eF)(Cs:eF % 2=1)(he:x ||| y=2 ^ t*o)(ah:o % 2=1):Nat.gcd x y=Nat.gcd eF y*2 ^ t:=by
 have hm:∀k,2 ^ k ∣ x ||| y↔2 ^ k ∣ x/\2 ^ k ∣ y:=fun k=>by
  rw[Wl,Nat.or_mod_two_pow,Nat.or_eq_zero_iff,<-Wl,<-Wl]
 obtain⟨⟨dV,e7⟩,⟨ng,Ae⟩⟩:=(hm t).1 ⟨o,he⟩;have an9:dV % 2=1\/ng % 2=1:=by
  rcases O4 dV with k|k
  ·rcases O4 ng with j|j
   ·exfalso
    obtain⟨c,aC⟩:=af0 k;obtain⟨d,au⟩:=af0 j;obtain⟨w,hw⟩:=(hm (t+1)).2 ⟨⟨c,by rw[e7,aC,fP,fy]⟩,⟨d,by rw[Ae,au,fP,fy]⟩⟩;rw[he,fP,fy] at hw;have:=Nat.eq_of_mul_eq_mul_left (vr bI) hw;omega
   ·exact .inr j
  ·exact .inl k
 have x7:Nat.gcd dV ng % 2=1:=by
  rcases an9 with k|k
  ·exact Nt (lE _ _) k
  ·exact Nt (nQ _ _) k
 have ad:Nat.gcd x y=2 ^ t*Nat.gcd dV ng:=by rw[e7,Ae,Nat.gcd_mul_left]
 have ae:Nat.gcd eF y=Nat.gcd dV ng:=by
  refine OW (Gr ?_ ?_) (Gr ?_ ?_)
  ·have aW:=Nt (lE eF y) Cs
   have aT:Nat.gcd eF y ∣ 2 ^ t*dV:=by rw[<-e7];exact KR (lE _ _) ⟨2 ^ aU,by rw[dP];exact Cp⟩
   exact(Nu aW).dvd_of_dvd_mul_left aT
  ·have aW:=Nt (lE eF y) Cs
   have aT:Nat.gcd eF y ∣ 2 ^ t*ng:=by rw[<-Ae];exact nQ _ _
   exact(Nu aW).dvd_of_dvd_mul_left aT
  ·have aT:Nat.gcd dV ng ∣ 2 ^ aU*eF:=by rw[<-Cp,e7];exact KR (lE _ _) ⟨2 ^ t,dP _ _⟩
   exact(Nu x7).dvd_of_dvd_mul_left aT
  ·rw[Ae];exact KR (nQ _ _) ⟨2 ^ t,dP _ _⟩
 rw[ad,ae,dP]
section
variable {Q:c7 Tryz.prog}{g0:Nat}{J:aj}
theorem Va{x k o:Nat}{e:TypeId}(cB:J 2=some (cj .u8 qC,e))(ay:Nat.blt 2 (aU Q g0).g0=true)(he:x=2 ^ k*o)(ah:o % 2=1)(aa:x<18446744073709551616):Fn (aU Q g0) 138 [.int .u64 (x:Int)] [] J (fun u m' af=>u=.int .i64 ((k:Nat):Int)/\m'=[]/\J=af):=by
 obtain⟨hk,_⟩:=J9 he ah aa;have h8:x≠0:=by rw[he];exact Nat.mul_ne_zero (j1 (l3 k)) I
 obtain⟨ad,ae⟩:=apJ k hk;have aq:=aqL he ah aa;have aE:nth (cj .u8 qC) (0+((MT k:Nat):Int).toNat*1)=some (.int .u8 ((k:Nat):Int)):=r9 ae I;refine Fn.b5 (b2 Tryz.func138) rfl rfl fun H=>?_;refine U 0xbe081ce059 ?_;refine If (fun ej=>?_) fun ej=>?_
 ·exfalso;omega
 ·refine U 0x10e757 ?_;refine' W.step rfl (Exec.val rfl rfl (F4 rfl rfl ?hw) ?_);case hw=>exact ark h8 aa
  refine eZ V.o4 ?_;rw[agG aa I,aq];refine eZ V.iz ?_;rw[show((2 ^ k:Nat):Int)*285870213051353865=((2 ^ k*285870213051353865:Nat):Int) by rw[gY];rfl,Oq];refine eZ V.o4 ?_;rw[auv,show 2 ^ k*285870213051353865 % 18446744073709551616 / 288230376151711744=MT k from rfl];refine' W.step rfl (Exec.val rfl rfl (awm rfl ?ay ?fY rfl (ad3 rfl) ?aR ?ad) ?_);case fY=>assumption
  case ay=>assumption
  case aR=>exact ck
  case ad=>exact ck
  refine U 0x357c09c9 ?_;refine bp ?_;exact⟨rfl,rfl,rfl⟩
theorem PO{x y:Nat}{e:TypeId}(cB:J 2=some (cj .u8 qC,e))(ay:Nat.blt 2 (aU Q g0).g0=true)(aa:x<18446744073709551616)(ap:y<18446744073709551616):Fn (aU Q g0) 123 [.int .u64 (x:Int),.int .u64 (y:Int)] [] J (fun u m' af=>u=.int .u64 (Nat.gcd x y:Nat)/\m'=[]/\J=af):=by
 refine Fn.b5 (b2 Tryz.func123) rfl rfl fun H=>?_;refine U 0xbe081ce059 ?_;refine If (fun fC=>?_) fun fC=>?_
 ·have dC:x=0:=I
  have Ta:Nat.gcd x y=y:=by rw[dC,OZ]
  refine U 0x357c0839 ?_;refine bp ?_
  exact⟨by rw[Ta];rfl,rfl,rfl⟩
 ·have dC:x≠0:=I
  refine U 0x5f040e757 ?_;refine If (fun dp=>?_) fun dp=>?_
  ·have e8:y=0:=I
   have hr:Nat.gcd x y=x:=by rw[e8,Gs]
   refine U 0x357c0839 ?_;refine bp ?_
   exact⟨by rw[hr];rfl,rfl,rfl⟩
  ·have e8:y≠0:=I
   have ZK:x ||| y<18446744073709551616:=O8 (n:=64) aa ap
   obtain⟨t,o,SS,wk⟩:=U' (x:=x ||| y) (fun q=>dC (Nat.or_eq_zero_iff.1 q).1);obtain⟨ap1,eF,Cp,Cs⟩:=U' dC;have j6:=alt Cp Cs SS wk;obtain⟨aA8,_⟩:=J9 SS wk ZK;obtain⟨aBk,axh⟩:=J9 Cp Cs aa;have wa:Nat.gcd x y<=x:=KT (tE dC) (lE _ _);have SQ:x / 2 ^ ap1=eF:=by rw[Cp,xc _ (l3 _)]
   refine U 0x2810e757 ?_;rw[JI aa ap];refine bC (G:=Va cB ay SS wk ZK) (h:=?_);rintro v' m' af hle ⟨rfl,rfl,rfl⟩;refine U 0x10e702 ?_;refine bC (G:=Va cB ay Cp Cs aa) (h:=?_);rintro v' m' af hle ⟨rfl,rfl,rfl⟩;refine U 0x6054 ?_;rw[y1,SQ];refine U 0x357 ?_;refine c3 [(0,.int .u64 ((eF):Int)),(1,.int .u64 ((y):Int)),(5,_)] ?_;refine a2 ?_;refine' az.kv (fun(bK:Nat×Nat)=>match bK with|(a,b)=>⟨[(0,.int .u64 (a:Int)),(1,.int .u64 (b:Int))],a % 2=1/\a<18446744073709551616/\b<18446744073709551616/\Nat.gcd a b=Nat.gcd eF y,a+b⟩) ⟨eF,y⟩ ?hs ?a7
   case hs=>exact⟨Cs,axh,ap,rfl⟩
   case a7=>
    rintro⟨a,b⟩ hinv;try simp only at hinv
    obtain⟨aF,zV,j5,jk⟩:=hinv;refine U 0x17c1039 ?_;refine If (fun o5=>?_) fun o5=>?_
    ·have gL:b≠0:=I
     obtain⟨apO,jO,zW,RN⟩:=U' gL;obtain⟨PQ,ax7⟩:=J9 zW RN j5;have qf:b / 2 ^ apO=jO:=by rw[zW,xc _ (l3 _)]
     have azK:jO<=b:=by rw[<-qf];exact tC _ _
     have RO:Nat.gcd a jO=Nat.gcd eF y:=by rw[alv aF zW];exact jk
     have ix:jO<=a->Nat.gcd jO (a -jO)=Nat.gcd eF y:=fun h=>by
        rw[af3 h,pO];exact RO
     have nu:a<=jO->Nat.gcd a (jO -a)=Nat.gcd eF y:=fun h=>by
        rw[af3 h];exact RO
     refine U 0x439d5f57 ?_;refine bC (G:=Va cB ay zW RN j5) (h:=?_);rintro v' m' af hle ⟨rfl,rfl,rfl⟩;refine U 0x6054 ?_;rw[y1,qf];refine U 0x2f820439 ?_;refine If (fun GU=>?_) fun GU=>?_
     ·refine U 0xc08610e70210439 ?_;refine kx ⟨jO,a -jO⟩ ?_;exact⟨RN,I,I,ix I⟩
     ·refine U 0xc08610e757 ?_;refine kx ⟨a,jO -a⟩ ?_;exact⟨aF,I,I,nu I⟩
    ·have gL:b=0:=I
     have Mb:IntKind.u64.wrap ((a:Int)*2 ^ ((t:Int)).toNat)=((Nat.gcd x y:Nat):Int):=by
        rw[gL,Gs] at jk;rw[AB,j6,jk,<-j6,sw I]
     refine U 0x357c0a810e757 ?_;refine bp ?_
     exact⟨by rw[Mb];rfl,rfl,rfl⟩
end
end
end Go.Opn
