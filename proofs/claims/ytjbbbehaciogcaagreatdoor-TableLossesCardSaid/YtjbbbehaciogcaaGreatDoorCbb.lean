/- A part of the proof of TableLosses. -/
import Derived.Test.YtjbbbehaciogcaaGreatDoorCba
set_option maxRecDepth 100000
set_option maxHeartbeats 8000000
set_option linter.unusedVariables false
set_option linter.unusedSimpArgs false
namespace Go.Opn
noncomputable section
open Go.Cre Go.RowKit Go.Proofs
def A3(J:aj)(v:Value)(x:Nat):Prop:=fR J 78 1 v (ag x).length (cj .u32 (ag x))
theorem A3.gM{J:aj}{v:Value}{x:Nat}(h:A3 J v x):cS J v x:=⟨_,h⟩
theorem A3.mono{J af:aj}(hle:J.le af){v:Value}{x:Nat}(h:A3 J v x):A3 af v x:=fR.mono hle h
abbrev pT(J:aj)(x:Nat):Value->aN->aj->Prop:=fun u m' af=>J.le af/\m'=[]/\A3 af u x
section
variable {Q:c7 Tryz.prog}{g0:Nat}{J:aj}
theorem J5{v:Value}{l:List Nat}(h:fR J 78 1 v l.length (cj .u32 l))(ah:dU l)(aq:l.length<=200000):Fn (aU Q g0) 96 [v] [] J (fun u m' af=>m'=[]/\J=af/\A3 J u (aK l)):=by
 obtain⟨b,c,rfl,_⟩:=h.inv;refine Fn.b5 (b2 Tryz.func96) rfl rfl fun H=>?_;refine U 0x1abe059 ?_;refine c3 [(0,.slice (b) (l.length) (c))] ?_;refine a2 ?_;refine' az.kv (fun(bK:Nat×(Option Addr)×Nat)=>match bK with|(k,mZ,jg)=>⟨[(0,.slice mZ k jg)],k<=l.length/\fR J 78 1 (.slice mZ k jg) k ((cj .u32 l).take k)/\∀j y,k<=j->l[j]?=some y->y=0,k⟩) ⟨l.length,b,c⟩ ?hs ?a7
 case hs=>exact⟨bU _,by rw[cU (by rw[r8];exact bU _)];exact h,fun j y ad ae=>by have:=(ff.1 ae).1;omega⟩
 case a7=>
  rintro⟨k,mZ,jg⟩ hinv;try simp only at hinv
  obtain⟨hk,al,aM⟩:=hinv;refine U 0x121439 ?_;refine c0 6 (fun g2=>?_) fun g2=>?_
  ·obtain⟨x,aa⟩:∃x,l[k -1]?=some x:=⟨_,ey I⟩;obtain⟨_,_,bl,_,_,b7⟩:=al.inv;obtain⟨a,off,cells,bD,aL,fY,av⟩:=b7 I;injection bl with bl _ _
   subst bl;subst aL;have aE:nth cells (off+((k:Int) -1).toNat*1)=some (.int .u32 (x:Int)):=by
    rw[show((k:Int) -1).toNat*1=k -1 by omega,av (k -1) I,jY,aV I,Ns aa]
   refine U 0x2f84112619421 ?_;refine If (fun fc=>?_) fun fc=>?_
   ·refine U 0x328439d5f57 ?_;refine' W.step rfl (.of (Vr rfl rfl rfl rfl (eW rfl) ?av ?hk rfl rfl ?aR ?ad ?ae fun aBc IM=>?_));case av=>assumption
    case hk=>exact ck
    case aR=>exact ck
    case ad=>exact ck
    case ae=>exact ck
    refine U 0x302 ?_;obtain⟨ir,ep,rfl,_⟩:=IM.inv;have Hl:((k:Int) -1 -0).toNat=k -1:=I
    have q7:fR J 78 1 (.slice ir (k -1) ep) (k -1) ((cj .u32 l).take (k -1)):=by
      rw[Hl] at IM;have Qz:(((cj .u32 l).take k).drop ((0:Int).toNat*1)).take ((k -1)*1)=(cj .u32 l).take (k -1):=by rw[show(0:Int).toNat*1=0 from rfl,gO,su,ha,g6 I]
      rw[<-Qz];exact IM
    rw[Hl];refine kx ⟨k -1,ir,ep⟩ ?_;exact⟨I,q7,fun j y ad ae=>by
       by_cases q:k<=j
       ·exact aM j y q ae
       ·obtain rfl:j=k -1:=I
        rw[aa] at ae;injection ae with ae;omega⟩
   ·refine U 0xd5f020e757 ?_;refine bp ?_
    exact⟨rfl,rfl,by
      show fR J 78 1 _ (ag (aK l)).length (cj .u32 (ag (aK l)));rw[<-J6 ah hk aM fun y ad ae=>by rw[aa] at ae;injection ae with ae;omega];rw[eA,g6 hk];unfold cj;rw[DH];exact al⟩
  ·refine U 0x6af81073abeaf846f7bdef7b ?_;refine bp ?_
   exact⟨rfl,rfl,by
      show fR J 78 1 _ (ag (aK l)).length (cj .u32 (ag (aK l)));rw[<-J6 ah hk aM fun y ad ae=>by omega];rw[eA,g6 hk];unfold cj;rw[DH];exact al⟩
end
theorem Jz:1<cO:=by decide
theorem ar3{x:Nat}:[x].length<=200000:=by rw[zl];decide
section
variable {Q:c7 Tryz.prog}{g0:Nat}{J:aj}
theorem Uh{v w:Value}{x y:Nat}(ad:cS J v x)(ae:cS J w y)(aq:(ag x).length<=200000):Fn (aU Q g0) 65 [v,w] [] J (fun u m' af=>u=.int .i64 (l4 x y)/\m'=[]/\J=af):=by
 have ad:c9 .u32 J v (ag x):=ad;have ae:c9 .u32 J w (ag y):=ae;obtain⟨a',bb,rfl⟩:=ad.form;obtain⟨bf,br,rfl⟩:=ae.form;refine Fn.b5 (b2 Tryz.func65) rfl rfl fun H=>?_;refine U 0x5f04284a1ce059 ?_;refine If (fun dp=>?_) fun dp=>?_
 ·refine U 0xbe08509439 ?_;refine If (fun fV=>?_) fun fV=>?_
  ·refine U 0x1abe059 ?_;refine bp ?_
   exact⟨by rw[zF (Fo I)];rfl,rfl,rfl⟩
  ·refine U 0x6af816757 ?_;refine bp ?_
   exact⟨by rw[zG (Fo I)];rfl,rfl,rfl⟩
 ·refine U 0x357c08650e757 ?_;refine c3 [(5,.int .i64 ((((ag x).length):Int) -1)),(0,_),(1,_)] ?_;refine a2 ?_;refine' az.kv (fun(k:Nat)=>⟨[(5,.int .i64 ((k:Int) -1))],k<=(ag x).length/\(ag x).drop k=(ag y).drop k,k⟩) ((ag x).length) ?hs ?a7;case hs=>exact⟨bU _,by rw[rB I,rB I]⟩
  case a7=>
   rintro k hinv;try simp only at hinv
   obtain⟨hk,au⟩:=hinv;refine U 0x17c1039 ?_;refine If (fun hC=>?_) fun hC=>?_
   ·obtain⟨a,o,bC,e,rfl,fY,av⟩:=ad.at I;obtain⟨b0,o',zD,bD,rfl,BN,wm⟩:=ae.at I;obtain⟨p,aw,jI⟩:=av (k -1) I;obtain⟨q,bQ,sZ⟩:=wm (k -1) I;have jI:nth bC (o+((k:Int) -1).toNat*1)=some (.int .u32 (p:Int)):=by rw[show((k:Int) -1).toNat=k -1 by omega];exact jI
    have sZ:nth zD (o'+((k:Int) -1).toNat*1)=some (.int .u32 (q:Int)):=by rw[show((k:Int) -1).toNat=k -1 by omega];exact sZ
    refine U 0x17d5f57 ?_;refine az.draw rfl (by kernel_rfl) (a1:=[.val 0,.val 1,.val 2,.val 3,.val 4,.val 5,.val 6,.val 7,.val 8]) (by kernel_rfl) ?_;refine U 0x5f044982149821 ?_;refine If (fun o6=>?_) fun o6=>?_
    ·refine U 0x1abe059 ?_;refine bp ?_
     exact⟨by rw[zF (M0 aw bQ (by rw[show k -1+1=k by omega];exact au) I)];rfl,rfl,rfl⟩
    ·refine U 0x5f57 ?_;refine az.draw rfl (by kernel_rfl) (a1:=[.val 0,.val 1,.val 2,.val 3,.val 4,.val 5,.val 6,.val 7,.val 8]) (by kernel_rfl) ?_;refine U 0x5f044982149821 ?_;refine If (fun vI=>?_) fun vI=>?_
     ·refine U 0x1abe059 ?_;refine bp ?_
      exact⟨by rw[zG (M0 bQ aw (by rw[show k -1+1=k by omega];exact au.symm) I)];rfl,rfl,rfl⟩
     ·refine U 0x60430e757 ?_;refine kx (k -1) ?_;exact⟨I,by rw[drop_cons (i:=k -1) aw,drop_cons (i:=k -1) bQ,show k -1+1=k by omega,au];congr 1;omega⟩
   ·refine U 0x6af816757 ?_;refine bp ?_
    exact⟨by
     obtain rfl:k=0:=I
     rw[G0 (show x=y by rw[<-g' x,<-g' y];exact cC aK au)];rfl,rfl,rfl⟩
theorem UT{x:Nat}(aa:x<1000000000):Fn (aU Q g0) 121 [.int .u32 (x:Int)] [] J (pT J x):=by
 refine Fn.b5 (b2 Tryz.func121) rfl rfl fun H=>?_;refine U 0x1ce059 ?_;refine mr fun cQ=>?_;refine W.ei rfl fun aY HT=>?_;refine bC (G:=J5 (l:=[x]) (.row HT rfl rfl (fun _=>⟨bU _,Jz⟩) (fun q=>absurd q (Gt Jz))) (fun z aM=>by rw[A2.1 aM];exact aa) ar3) (h:=?_);rintro v' m' af hle ⟨rfl,rfl,a9⟩;rw[Kc] at a9;refine U 0xd5f02 ?_;refine bp ?_;exact⟨aY,rfl,a9⟩
end
theorem avl{x y i c:Nat}{out:List Nat}(ah:dU out)(h:aK out+1000000000 ^ i*c=aK ((ag x).take i)+aK ((ag y).take i))(ad:(ag x).length<=i)(ae:(ag y).length<=i)(aC:c=0)(aE:∀z,out.getLast?=some z->z≠0):out=ag (x+y):=by
 rw[aC,js,iD,F5 ad,F5 ae,g',g'] at h;rw[<-h];exact qQ ⟨ah,aE⟩
theorem avn{x y i c:Nat}{out:List Nat}(aq:out.length=i)(h:aK out+1000000000 ^ i*c=aK ((ag x).take i)+aK ((ag y).take i)){s:Nat}(hs:s=c+(ag x).getD i 0+(ag y).getD i 0):aK (out++[s % 1000000000])+1000000000 ^ (i+1)*(s / 1000000000)=aK ((ag x).take (i+1))+aK ((ag y).take (i+1)):=by
 rw[Kd,wZ,wZ,aq];have e:1000000000 ^ i*s=1000000000 ^ i*(s % 1000000000)+1000000000 ^ (i+1)*(s / 1000000000):=by
  conv=>lhs;rw[<-zn s 1000000000]
  rw[cL,fP,fy]
 have aS:1000000000 ^ i*s=1000000000 ^ i*c+1000000000 ^ i*(ag x).getD i 0+1000000000 ^ i*(ag y).getD i 0:=by rw[hs,cL,cL]
 omega
theorem avm{x y i c s:Nat}(hs:s=c+(ag x).getD i 0+(ag y).getD i 0)(x7:i<(ag x).length\/i<(ag y).length\/0<c)(ad:(ag x).length<=i+1)(ae:(ag y).length<=i+1)(aC:s / 1000000000=0):s % 1000000000≠0:=by
 have hm:s % 1000000000=s:=sw I;rw[hm];have aa:∀z:Nat,i<(ag z).length->(ag z).length<=i+1->(ag z).getD i 0≠0:=fun z p q=>by
  have e:(ag z).length -1=i:=I
  refine Fl z _ ?_;rw[rC,e,nP,ey p];rfl
 rcases x7 with q|q|q
 ·have:=aa x q ad;omega
 ·have:=aa y q ae;omega
 ·omega
theorem ap6:∀z:Nat,([]:List Nat).getLast?=some z->z≠0:=fun z aM=>(by cases aM)
theorem W.asX{K:dR}{B:dv}{m fo bc:aN}{J:aj}{ops rest:List Oper}{bq:Option (List PanicEntry)->ca->aN->aj->Prop}{E:ca}{e:TypeId}{sz k:Nat}{v:Value}{cells:List Value}(h:Acc e sz v k cells bc)(hm:m=bc++fo)(hk:∀af,J.le af->fR af e sz v k cells->W K B ops rest E fo af bq):W K B ops rest E m J bq:=by
 subst hm;cases h with
 |nil=>exact hk J (aj.le.refl _) .nil
 |jH a=>exact hk J (aj.le.refl _) (.jH _ _ _ bI)
 |@opn a k cells rest z aq aM=>exact W.ei rfl fun ad ae=>hk _ ad (.row ae (by rw[gO,cU I]) aq (fun q=>absurd rfl q) (fun _=>rfl))
 |@cap a k C cells full el ad ae aD a6=>exact W.ei rfl fun eM fH=>hk _ eM (.row fH ae (by rw[<-ae,eA,ad,g6 (fq _ aD)]) (fun _=>⟨aD,a6⟩) (fun q=>absurd q (Gt a6)))
theorem gX.qv{K:dR}{B:dv}{m:aN}{J:aj}{cw:Exit->ca->aN->aj->Prop}{c:Code}{e:TypeId}{sz k:Nat}{v:Value}{cells:List Value}{bc fo:aN}{E:ca}(h:gX e sz v k cells bc)(hm:m.Perm (bc++fo))(hk:∀af,J.le af->fR af e sz v k cells->az K B c E fo af cw):az K B c E m J cw:=by
 rcases h with⟨h,_,_⟩|⟨a,full,rest,rfl,rfl,aD,a6,eM⟩
 ·exact Acc.qv h hm hk
 ·refine az.ri hm.symm ?_
  refine az.ie (x:=(full,e)) rfl fun hle=>?_;exact hk _ hle (.row (aj.iE _ _ _) (by rw[gO];exact a6) (by rw[<-a6,eA];omega) (fun q=>absurd rfl q) (fun _=>rfl))
section
variable {Q:c7 Tryz.prog}{g0:Nat}{J:aj}
theorem asO{v w:Value}{x y:Nat}(ad:cS J v x)(ae:cS J w y)(wc:(ag x).length<=200000)(qa:(ag y).length<=200000):Fn (aU Q g0) 64 [v,w] [] J (pT J (x+y)):=by
 have ad:c9 .u32 J v (ag x):=ad;have ae:c9 .u32 J w (ag y):=ae;obtain⟨a',bb,rfl⟩:=ad.form;obtain⟨bf,br,rfl⟩:=ae.form;refine Fn.b5 (b2 Tryz.func64) rfl rfl fun H=>?_;refine U 0x357c0b3816702ce059 ?_;refine c3 [(7,.int .i64 ((0):Int)),(6,.int .u32 ((0):Int)),(5,(.slice none 0 0)),(0,_),(1,_)] ?_;refine a2 ?_;refine' az.bH (fun(bK:Nat×Nat×(List Nat)×Value×aN)=>match bK with|(i,c,out,oe,bc)=>⟨[(7,.int .i64 (i:Int)),(6,.int .u32 (c:Int)),(5,oe)],bc,J,i<=200001/\out.length=i/\c<2/\dU out/\aK out+1000000000 ^ i*c=aK ((ag x).take i)+aK ((ag y).take i)/\(((ag x).length<=i/\(ag y).length<=i/\c=0)->∀z,out.getLast?=some z->z≠0)/\(i=200001->c=0)/\Acc 78 1 oe out.length (cj .u32 out) bc,200001 -i⟩) ⟨0,0,[],.slice none 0 0,[]⟩ ?hs ?a7
 case hs=>exact⟨c5 _,rfl,by decide,Nx,by rw[fO,fO];rfl,fun _=>ap6,fun q=>absurd q bI,.nil⟩
 case a7=>
  rintro⟨i,c,out,oe,bc⟩ hinv;try simp only at hinv
  obtain⟨ak,hQ,aC,bn,av,Ii,ayC,eT⟩:=hinv;refine c4 [0,1,5,6,7] ?_;refine a2 ?_;refine' az.en 0 [(21,.bool (decide ((i<(ag x).length\/i<(ag y).length\/0<c))))] ?Bl ?Bq;case Bl=>
   refine U 0x242843a ?_;refine c0 12 (fun LQ=>?_) fun LQ=>?_
   ·refine U 0x308dec28def7b ?_;refine di (dk ?_);omega
   ·refine U 0x2821421 ?_;refine c0 18 (fun alX=>?_) fun alX=>?_
    ·refine U 0xc237b ?_;refine di (dk ?_);omega
    ·refine U 0xc2081 ?_;refine di (dk ?_);omega
  case Bq=>
   refine a2 ?_;refine If (fun o5=>?_) fun o5=>?_
   ·obtain⟨s,hs⟩:∃s,s=c+(ag x).getD i 0+(ag y).getD i 0:=⟨_,rfl⟩;have aL:=ud (hR x) i;have aG:=ud (hR y) i;refine U 0x30428439d5f57 ?_;refine c4 [6,27,0,1,5,7] ?_;refine a2 ?_;refine' az.en 2 [(6,.int .u32 ((c+(ag x).getD i 0:Nat):Int))] ?ah9 ?ajr;case ah9=>
     refine If (fun jv=>?_) fun jv=>?_
     ·obtain⟨a,o,bC,e,rfl,fY,ln⟩:=ad.at I;obtain⟨p,aw,jI⟩:=ln i I;have bt:=kp aw;refine U 0x1810d2608439 ?_;refine'⟨⟨_,rfl,⟨?fe,rfl,rfl,rfl,rfl,trivial⟩⟩,iZ _,rfl⟩;case fe=>(exact cC some (cC (Value.int .u32) (by rw[kp aw];omega)))
     ·refine hx ?_;refine'⟨⟨_,rfl,⟨?fe,rfl,rfl,rfl,rfl,trivial⟩⟩,iZ _,rfl⟩;case fe=>(exact cC some (cC (Value.int .u32) (by rw[p0 (l:=ag x) I];omega)))
    case ajr=>
     refine U 0x30428439 ?_;refine c4 [6,37,0,1,5,7] ?_;refine a2 ?_;refine' az.en 2 [(6,.int .u32 (s:Int))] ?Qd ?Qv;case Qd=>
      refine If (fun vH=>?_) fun vH=>?_
      ·obtain⟨a,o,bC,e,rfl,fY,ln⟩:=ae.at I;obtain⟨p,aw,jI⟩:=ln i I;have bt:=kp aw;refine U 0x1810d2608439 ?_;refine'⟨⟨_,rfl,⟨?fe,rfl,rfl,rfl,rfl,trivial⟩⟩,iZ _,rfl⟩;case fe=>(exact cC some (cC (Value.int .u32) (by rw[hs,kp aw];omega)))
      ·refine hx ?_;refine'⟨⟨_,rfl,⟨?fe,rfl,rfl,rfl,rfl,trivial⟩⟩,iZ _,rfl⟩;case fe=>(exact cC some (cC (Value.int .u32) (by rw[hs,p0 (l:=ag y) I];omega)))
     case Qv=>
      refine U 0x78439 ?_;rw[show((s:Int).tmod 1000000000)=((s % 1000000000:Nat):Int) from(KE s 1000000000).symm];refine mr fun axS=>?_;refine' W.step rfl (.of (tt rfl rfl rfl rfl rfl rfl (eW rfl) (wX Q g0) (fun i q=>by cases q) ?eT ?hm ?aa ?dT ?dX ?aq fun Vl TO amZ azZ=>?_));case eT=>exact eT
      case hm=>exact(zm _ bc).symm
      case aa=>exact yV
      case dT=>rfl
      case dX=>rfl
      case aq=>exact(show out.length+1<=1000000 by omega)
      refine U 0x604f0e702 ?_;rw[show((s:Int).tdiv 1000000000)=((s / 1000000000:Nat):Int) from(DC s 1000000000).symm,show IntKind.u32.wrap ((s / 1000000000:Nat):Int)=((s / 1000000000:Nat):Int) from wrap_u32 I I];have RF:Acc 78 1 Vl (out++[s % 1000000000]).length (cj .u32 (out++[s % 1000000000])) TO:=by
       rw[CN,eX];exact amZ
      have a7:i+1<=200001/\(out++[s % 1000000000]).length=i+1/\s / 1000000000<2/\dU (out++[s % 1000000000])/\aK (out++[s % 1000000000])+1000000000 ^ (i+1)*(s / 1000000000)=aK ((ag x).take (i+1))+aK ((ag y).take (i+1))/\(((ag x).length<=i+1/\(ag y).length<=i+1/\s / 1000000000=0)->∀z,(out++[s % 1000000000]).getLast?=some z->z≠0)/\(i+1=200001->s / 1000000000=0)/\Acc 78 1 Vl (out++[s % 1000000000]).length (cj .u32 (out++[s % 1000000000])) TO:=by
       refine⟨I,by rw[eX,hQ];rfl,I,CR bn fun z aM=>by rw[A2.1 aM];exact gA _ bI,avn hQ av hs,fun⟨aW,aT,bo⟩ z aM=>?_,fun q=>?_,RF⟩
       ·rw[KL,OO] at aM
        injection aM with aM
        rw[<-aM];exact avm hs o5 aW aT bo
       ·have aW:=p0 (l:=ag x) (i:=i) I
        have aT:=p0 (l:=ag y) (i:=i) I;omega
      refine U 0x1810c39 ?_;refine dN ⟨i+1,s / 1000000000,out++[s % 1000000000],Vl,TO⟩ ?_ (hm:=st _ _);exact a7
   ·refine Acc.qv eT (.of_eq (hi bc).symm) fun bu aY al=>?_;have e:=avl (x:=x) (y:=y) bn av I I I (Ii ⟨I,I,I⟩);rw[e] at al;refine U 0xd5f020e757 ?_;refine bp ?_;exact⟨aY,rfl,al⟩
end
theorem ai9{x y i b b' d:Nat}{out:List Nat}(aq:out.length=i)(h:aK ((ag x).take i)+1000000000 ^ i*b=aK out+aK ((ag y).take i))(au:d+b+(ag y).getD i 0=(ag x).getD i 0+1000000000*b'):aK ((ag x).take (i+1))+1000000000 ^ (i+1)*b'=aK (out++[d])+aK ((ag y).take (i+1)):=by
 rw[Kd,wZ,wZ,aq];have e:1000000000 ^ i*d+1000000000 ^ i*b+1000000000 ^ i*(ag y).getD i 0=1000000000 ^ i*(ag x).getD i 0+1000000000 ^ (i+1)*b':=by
  rw[fP,fy,<-cL,<-cL,<-cL,au]
 omega
theorem ai8{x y b:Nat}{out:List Nat}(eN:y<=x)(bn:dU out)(aq:out.length=(ag x).length)(h:aK ((ag x).take (ag x).length)+1000000000 ^ (ag x).length*b=aK out+aK ((ag y).take (ag x).length))(ai:b<2):aK out=x -y:=by
 have hlen:(ag y).length<=(ag x).length:=by
  rcases hH (ag x).length (ag y).length with q|q
  ·have:=oN (x:=x) (bU _)
   have ad:=aeL (hR x) (Bk y) q;rw[g',g'] at ad;omega
  ·exact q
 rw[F5 (bU _),F5 hlen,g',g'] at h;have ae:=ly bn;rw[aq] at ae;rcases(show b=0\/b=1 by omega) with rfl|rfl
 ·rw[js] at h;omega
 ·rw[ha] at h;omega
section
variable {Q:c7 Tryz.prog}{g0:Nat}{J:aj}
theorem avV{v:Value}{l:List Nat}{bc:aN}(h:gX 78 1 v l.length (cj .u32 l) bc)(ah:dU l)(aq:l.length<=200000):Fn (aU Q g0) 96 [v] bc J (fun u m' af=>m'=bc/\J=af/\gX 78 1 u (ag (aK l)).length (cj .u32 (ag (aK l))) bc):=by
 have anw:∃b c,v=.slice b l.length c:=by
  rcases h.form with⟨b,aL,aG,_⟩|⟨a,full,rest,aL,_⟩
  ·exact⟨_,_,by rw[aG];exact aL⟩
  ·exact⟨_,_,aL⟩
 obtain⟨b,c,rfl⟩:=anw;have mz:=h.row;refine Fn.b5 (b2 Tryz.func96) rfl rfl fun H=>?_;refine U 0x1abe059 ?_;refine c3 [(0,.slice b (l.length) c)] ?_;refine a2 ?_;refine' az.kv (fun(k:Nat)=>⟨[(0,.slice b k c)],k<=l.length/\∀j y,k<=j->l[j]?=some y->y=0,k⟩) (l.length) ?hs ?a7;case hs=>exact⟨bU _,fun j y ad ae=>by have:=(ff.1 ae).1;omega⟩
 case a7=>
  rintro k hinv;try simp only at hinv
  obtain⟨hk,aM⟩:=hinv;refine U 0x121439 ?_;refine c0 6 (fun g2=>?_) fun g2=>?_
  ·obtain⟨x,aa⟩:∃x,l[k -1]?=some x:=⟨_,ey I⟩;obtain⟨a,full,rest,bl,rfl,jz,EM⟩:=mz I;injection bl with bl _ gq
   subst bl;subst gq;have aE:nth full (0+((k:Int) -1).toNat*1)=some (.int .u32 (x:Int)):=by
    rw[ab9 jz I];exact r9 aa I
   refine U 0x2f84114619421 ?_;refine If (fun fc=>?_) fun fc=>?_
   ·refine U 0x328439d5f57 ?_;refine' W.step rfl (Exec.val rfl rfl (Ve rfl rfl rfl (eW rfl) ?hm ?aR ?ad) ?_);case hm=>repeat first|exact .head _|refine ki _ ?_
    case aR=>exact ck
    case ad=>exact ck
    refine U 0x302 ?_;rw[show((k:Int) -1).toNat=k -1 by omega];refine kx (k -1) ?_;exact⟨I,fun j y ad ae=>by
     by_cases q:k<=j
     ·exact aM j y q ae
     ·obtain rfl:j=k -1:=I
      rw[aa] at ae;injection ae with ae;omega⟩
   ·refine U 0xd5f020e757 ?_;refine ja ?_
    exact⟨rfl,rfl,by
      rw[<-J6 ah hk aM fun y ad ae=>by rw[aa] at ae;injection ae with ae;omega];rw[eA,g6 hk];obtain⟨_,_,_,bl,b7,nq⟩:=h.cut hk I;injection bl with bl
      injection bl with bl
      injection bl with bl
      subst bl;have e:(cj IntKind.u32 l).take (k*1)=cj .u32 (l.take k):=by rw[ha];unfold cj;rw[DH]
      rw[<-e];exact nq⟩
  ·refine U 0x6af81073abeaf846f7bdef7b ?_;refine ja ?_
   exact⟨rfl,rfl,by
      have Ie:k=0:=I
      subst Ie;rw[<-J6 ah hk aM fun y ad ae=>by omega];rw[fO];rcases jq l.length with q|q
      ·have e:l=[]:=oj q
       subst e;exact h
      ·obtain⟨a,full,rest,bl,b7,nq⟩:=h.cut hk q
       injection bl with bl _ gq
       subst bl;subst gq;exact nq⟩
theorem abu{v w:Value}{x y:Nat}(ad:cS J v x)(ae:cS J w y)(eN:y<=x)(aq:(ag x).length<=200000)(qa:(ag y).length<=200000):Fn (aU Q g0) 66 [v,w] [] J (fun u m' af=>J=af/\gX 78 1 u (ag (x -y)).length (cj .u32 (ag (x -y))) m'):=by
 have ad:c9 .u32 J v (ag x):=ad;have ae:c9 .u32 J w (ag y):=ae;obtain⟨a',bb,rfl⟩:=ad.form;obtain⟨bf,br,rfl⟩:=ae.form;refine Fn.b5 (b2 Tryz.func66) rfl rfl fun H=>?_;refine U 0x357c0b3816702ce059 ?_;refine c3 [(7,.int .i64 ((0):Int)),(6,.int .i64 ((0):Int)),(5,(.slice none 0 0)),(0,_),(1,_)] ?_;refine a2 ?_;refine' az.bH (fun(bK:Nat×Nat×(List Nat)×Value×aN)=>match bK with|(i,b,out,oe,bc)=>⟨[(7,.int .i64 (i:Int)),(6,.int .i64 (b:Int)),(5,oe)],bc,J,i<=(ag x).length/\out.length=i/\b<2/\dU out/\aK ((ag x).take i)+1000000000 ^ i*b=aK out+aK ((ag y).take i)/\gX 78 1 oe out.length (cj .u32 out) bc,(ag x).length -i⟩) ⟨0,0,[],.slice none 0 0,[]⟩ ?hs ?a7
 case hs=>exact⟨c5 _,rfl,by decide,Nx,by rw[fO,fO];rfl,.inl ⟨.nil,Dq,CI⟩⟩
 case a7=>
  rintro⟨i,b,out,oe,bc⟩ hinv;try simp only at hinv
  obtain⟨ak,hQ,aC,bn,av,eT⟩:=hinv;refine U 0x5f0428439 ?_;refine If (fun j3=>?_) fun j3=>?_
  ·obtain⟨a,o,bC,e,rfl,fY,ln⟩:=ad.at I;obtain⟨p,aw,jI⟩:=ln i I;have aL:=kp aw;have aG:=ud (hR y) i;have bt:=qp (hR x) aw;obtain⟨b',d,p4,am4,au⟩:∃b' d:Nat,d+b+(ag y).getD i 0=p+1000000000*b'/\b'<2/\d<1000000000:=by
    by_cases q:p<b+(ag y).getD i 0
    ·exact⟨1,p+1000000000 -b -(ag y).getD i 0,I,by decide,I⟩
    ·exact⟨0,p -b -(ag y).getD i 0,I,by decide,I⟩
   refine U 0xc10a10e702185c930439d5f57 ?_;refine c4 [8,25,0,1,5,7] ?_;refine a2 ?_;refine' az.en 2 [(8,.int .i64 ((p:Int) -b -((ag y).getD i 0:Nat)))] ?ah8 ?ajq;case ah8=>
    refine If (fun qO=>?_) fun qO=>?_
    ·obtain⟨b0,o',zD,bD,rfl,BN,S0⟩:=ae.at I;obtain⟨ic,EW,azG⟩:=S0 i I;have du:=kp EW;have fU:=qp (hR y) EW;refine U 0x3021b92608439 ?_;refine'⟨⟨_,rfl,⟨?m9,rfl,rfl,rfl,rfl,trivial⟩⟩,iZ _,rfl⟩;case m9=>(exact cC some (cC (Value.int .i64) (by have q:=kp EW;omega)))
    ·refine hx ?_;refine'⟨⟨_,rfl,⟨?m9,rfl,rfl,rfl,rfl,trivial⟩⟩,iZ _,rfl⟩;case m9=>(exact cC some (cC (Value.int .i64) (by have q:=p0 (l:=ag y) (i:=i) I;omega)))
   case ajq=>
    refine U 0x6081ce059 ?_;refine c4 [6,8,34,0,1,5,7] ?_;refine a2 ?_;refine' az.en 3 [(6,.int .i64 (b':Int)),(8,.int .i64 (d:Int))] ?aia ?ajt;case aia=>
     refine If (fun Be=>?_) fun Be=>?_
     ·refine U 0x30210c39 ?_;refine'⟨⟨_,rfl,⟨?fe,?m9,rfl,rfl,rfl,rfl,trivial⟩⟩,iZ _,rfl⟩;case fe=>exact cC some (cC (Value.int .i64) I)
      case m9=>exact cC some (cC (Value.int .i64) I)
     ·refine hx ?_;refine'⟨⟨_,rfl,⟨?fe,?m9,rfl,rfl,rfl,rfl,trivial⟩⟩,iZ _,rfl⟩;case fe=>exact cC some (cC (Value.int .i64) I)
      case m9=>exact cC some (cC (Value.int .i64) I)
    case ajt=>
     refine U 0x70439 ?_;refine mr fun axP=>?_;refine' W.step rfl (.of (Ot rfl rfl rfl rfl rfl rfl (eW rfl) (wX Q g0) (fun i q=>by cases q) ?eT ?hm ?aa ?dT ?dX ?aX ?aq fun Vk TN amW=>?_));case eT=>exact eT
     case hm=>exact(zm _ bc).symm
     case aa=>exact yV
     case dT=>rfl
     case dX=>rfl
     case aX=>exact Nat.one_pos
     case aq=>exact(show out.length+1<=1000000 by omega)
     refine U 0x302 ?_;have RF:gX 78 1 Vk (out++[d]).length (cj .u32 (out++[d])) TN:=by
        rw[CN,eX];exact amW
     have a7:i+1<=(ag x).length/\(out++[d]).length=i+1/\b'<2/\dU (out++[d])/\aK ((ag x).take (i+1))+1000000000 ^ (i+1)*b'=aK (out++[d])+aK ((ag y).take (i+1))/\gX 78 1 Vk (out++[d]).length (cj .u32 (out++[d])) TN:=
        ⟨I,by rw[eX,hQ];rfl,am4,CR bn fun z aM=>by rw[A2.1 aM];exact au,ai9 hQ av (by rw[aL];exact p4),RF⟩
     refine U 0x1810c39 ?_;refine dN ⟨i+1,b',out++[d],Vk,TN⟩ ?_ (hm:=st _ _);exact a7
  ·obtain rfl:i=(ag x).length:=I
   have Z8:=ai8 eN bn hQ av aC;refine U 0xe757 ?_;refine' W.step rfl (Exec.call rfl rfl rfl rfl rfl rfl rfl (bm:=bc) (cN:=[]) (.of_eq (hi bc)) trivial (avV eT bn I) ?_);rintro v' m' af hle ⟨rfl,rfl,nq⟩;rw[Z8] at nq;refine U 0xd5f02 ?_;refine ja ?_;exact⟨rfl,by rw[hi];exact nq⟩
end
theorem ara{V c i j p R Y q ed T acs:Nat}(cB:T=c+ed+p*q)(h:V+1000000000 ^ (i+j)*c=R+1000000000 ^ i*(p*Y))(hs:acs+1000000000 ^ (i+j)*ed=V+1000000000 ^ (i+j)*(T % 1000000000)):acs+1000000000 ^ (i+(j+1))*(T / 1000000000)=R+1000000000 ^ i*(p*(Y+1000000000 ^ j*q)):=by
 have e:1000000000 ^ (i+j)*T=1000000000 ^ (i+j)*(T % 1000000000)+1000000000 ^ (i+(j+1))*(T / 1000000000):=by
  conv=>lhs;rw[<-zn T 1000000000]
  rw[cL,<-DL i j 1,fP,fy]
 have aS:1000000000 ^ (i+j)*T=1000000000 ^ (i+j)*c+1000000000 ^ (i+j)*ed+1000000000 ^ (i+j)*(p*q):=by rw[cB,cL,cL]
 have cl:1000000000 ^ i*(p*(Y+1000000000 ^ j*q))=1000000000 ^ i*(p*Y)+1000000000 ^ (i+j)*(p*q):=by
  rw[cL,cL,o1,fy,rE p]
 omega
theorem adz{l:List Nat}{i n v:Nat}(h:∀j z:Nat,n<=j->l[j]?=some z->z=0)(ak:i<n):∀j z:Nat,n<=j->(l.set i v)[j]?=some z->z=0:=fun j z ad ae=>by
 rw[OM I] at ae;exact h j z ad ae
theorem M4{n:Nat}(h:n<1000000):n<cO:=A8 h bI
section
variable {Q:c7 Tryz.prog}{g0:Nat}{J:aj}
theorem u3{v w:Value}{x y:Nat}(ad:cS J v x)(ae:cS J w y)(wc:(ag x).length<=100000)(qa:(ag y).length<=100000):Fn (aU Q g0) 63 [v,w] [] J (pT J (x*y)):=by
 have ad:c9 .u32 J v (ag x):=ad;have ae:c9 .u32 J w (ag y):=ae;obtain⟨a',bb,rfl⟩:=ad.form;obtain⟨bf,br,rfl⟩:=ae.form;refine Fn.b5 (b2 Tryz.func63) rfl rfl fun H=>?_;refine U 0x3284a1ce059 ?_;refine' W.step rfl (.of (nf rfl rfl rfl rfl rfl (eW rfl) ?aR ?ad ?ae fun xk=>?_));case aR=>exact ck
 case ad=>exact ck
 case ae=>exact ck
 refine U 0x302 ?_;rw[show(((ag x).length:Int)+(ag y).length).toNat=(ag x).length+(ag y).length by omega,zero_num];refine U 0x1abe059 ?_;refine c3 [(6,.int .i64 ((0):Int)),(0,_),(1,_),(5,_)] ?_;refine a2 ?_;refine' az.bH (fun(bK:Nat×(List Nat))=>match bK with|(i,out)=>⟨[(6,.int .i64 (i:Int))],[eO .u32 78 xk out],J,i<=(ag x).length/\out.length=(ag x).length+(ag y).length/\dU out/\(∀j z:Nat,i+(ag y).length<=j->out[j]?=some z->z=0)/\aK out=aK ((ag x).take i)*y,(ag x).length -i⟩) ⟨0,List.replicate ((ag x).length+(ag y).length) 0⟩ ?hs ?a7
 case hs=>exact⟨c5 _,kE,FG,fun j z _ aM=>OK (et aM),by rw[aeM,fO];show 0=0*y;omega⟩
 case a7=>
  rintro⟨i,out⟩ hinv;try simp only at hinv
  obtain⟨ak,hQ,bn,aM,av⟩:=hinv;refine U 0x5f0428439 ?_;refine If (fun iO=>?_) fun iO=>?_
  ·obtain⟨a,o,bC,e,rfl,fY,ln⟩:=ad.at I;obtain⟨p,aw,jI⟩:=ln i I;have bt:=qp (hR x) aw;refine U 0xd5f02ce059d5f57 ?_;refine c3 [(8,.int .i64 ((0):Int)),(7,.int .u64 ((0):Int)),(0,_),(1,_),(5,_),(6,_)] ?_;refine a2 ?_;refine' az.bH (fun(bK:Nat×Nat×(List Nat))=>match bK with|(j,jg,mI)=>⟨[(8,.int .i64 (j:Int)),(7,.int .u64 (jg:Int))],[eO .u32 78 xk mI],J,j<=(ag y).length/\jg<1000000000/\mI.length=(ag x).length+(ag y).length/\dU mI/\(∀j z:Nat,i+(ag y).length<=j->mI[j]?=some z->z=0)/\aK mI+1000000000 ^ (i+j)*jg=aK ((ag x).take i)*y+1000000000 ^ i*(p*aK ((ag y).take j)),(ag y).length -j⟩) ⟨0,0,out⟩ ?hs ?a7
   case hs=>exact⟨c5 _,by decide,hQ,bn,aM,by rw[fO];show _=_+1000000000 ^ i*(p*0);rw[av,js,js,js]⟩
   case a7=>
    rintro⟨j,jg,mI⟩ hinv;try simp only at hinv
    obtain⟨aX,zX,Zz,Cf,hg,yi⟩:=hinv;refine U 0x5f0428439 ?_;refine If (fun sG=>?_) fun sG=>?_
    ·obtain⟨b0,o',zD,bD,rfl,BN,S0⟩:=ae.at I;obtain⟨q,bQ,sZ⟩:=S0 j I;have du:=qp (hR y) bQ;obtain⟨ed,hold⟩:∃ed,mI[i+j]?=some ed:=⟨_,ey I⟩;have fU:=qp Cf hold;have e6:nth (cj .u32 mI) (0+((i:Int)+(j:Int)).toNat*1)=some (.int .u32 (ed:Int)):=r9 hold I;have n3:p*q<=999999999*999999999:=sx I I;obtain⟨s,hs⟩:∃s,s=jg+ed+p*q:=⟨_,rfl⟩;have MC:(jg:Int)+(ed:Int)+(p:Int)*(q:Int)=(s:Int):=by rw[hs,so,so,gY]
     refine U 0x17d5f57 ?_;refine az.draw rfl (by kernel_rfl) (a1:=[.val 0,.val 1,.val 2,.val 3,.val 4,.val 5,.val 6,.val 7,.val 8,.val 9,.val 10,.val 11,.val 12,.val 13,.val 14,.val 15,.val 16,.val 17,.val 18,.val 19,.val 20,.bE 21]) (by kernel_rfl) ?_;refine U 0x60431b926085c930423724c308421 ?_;rw[MC];refine U 0x3c2308439 ?_;rw[show((s:Int).tmod 1000000000)=((s % 1000000000:Nat):Int) from(KE s 1000000000).symm];refine U 0xce ?_;refine' iN ?hs ?_;case hs=>exact mf (l:=mI) (x:=s % 1000000000) (i+j) I I
     refine U 0x30278738 ?_;rw[show((s:Int).tdiv 1000000000)=((s / 1000000000:Nat):Int) from(DC s 1000000000).symm,show IntKind.u64.wrap ((s / 1000000000:Nat):Int)=((s / 1000000000:Nat):Int) from wrap_u64 I I];have Z':=ara (p:=p) (R:=aK ((ag x).take i)*y) hs yi (aeK (y:=s % 1000000000) hold);rw[<-mj bQ] at Z';have aoH:j+1<=(ag y).length/\s / 1000000000<1000000000/\(mI.set (i+j) (s % 1000000000)).length=(ag x).length+(ag y).length/\dU (mI.set (i+j) (s % 1000000000))/\(∀k z:Nat,i+(ag y).length<=k->(mI.set (i+j) (s % 1000000000))[k]?=some z->z=0)/\aK (mI.set (i+j) (s % 1000000000))+1000000000 ^ (i+(j+1))*(s / 1000000000)=aK ((ag x).take i)*y+1000000000 ^ i*(p*aK ((ag y).take (j+1))):=⟨I,I,by rw[im];exact Zz,Ap Cf (gA _ bI),adz hg I,Z'⟩;refine U 0x1810c39 ?_;refine dN ⟨j+1,s / 1000000000,mI.set (i+j) (s % 1000000000)⟩ ?_;exact aoH
    ·obtain rfl:j=(ag y).length:=I
     obtain⟨ed,hold⟩:∃ed,mI[i+(ag y).length]?=some ed:=⟨_,ey I⟩;obtain rfl:=hg _ _ (bU _) hold;have a7:i+1<=(ag x).length/\(mI.set (i+(ag y).length) jg).length=(ag x).length+(ag y).length/\dU (mI.set (i+(ag y).length) jg)/\(∀k z:Nat,i+1+(ag y).length<=k->(mI.set (i+(ag y).length) jg)[k]?=some z->z=0)/\aK (mI.set (i+(ag y).length) jg)=aK ((ag x).take (i+1))*y:=⟨I,by rw[im];exact Zz,Ap Cf zX,adz (fun k z aW aT=>hg k z I aT) I,by
      have aW:=aeK (y:=jg) hold;rw[F5 (bU _),g'] at yi;rw[mj aw,c6,fy];omega⟩
     refine U 0x19c1194210e757 ?_;refine' iN ?hs ?_;case hs=>exact mf (l:=mI) (x:=jg) (i+(ag y).length) I I
     refine U 0x30218738 ?_;refine dN ⟨i+1,mI.set (i+(ag y).length) jg⟩ ?_;exact a7
  ·obtain rfl:i=(ag x).length:=I
   rw[F5 (bU _),g'] at av;have al:∀af,af xk=some (cj .u32 out,78)->fR af 78 1 (.slice (some ⟨xk,0,none⟩) ((ag x).length+(ag y).length) ((ag x).length+(ag y).length)) out.length (cj .u32 out):=fun af BN=>by
    rw[<-hQ];exact .row BN (by rw[gO,ha];exact cU (by rw[r8];exact bU _)) (by rw[r8,ha]) (fun _=>⟨bU _,M4 I⟩) (fun q=>absurd q (Gt (M4 I)))
   refine U 0xe757 ?_;refine W.ei rfl fun aY HT=>?_;refine bC (G:=J5 (l:=out) (al _ HT) bn I) (h:=?_);rintro v' m' af hle ⟨rfl,rfl,a9⟩;rw[av] at a9;refine U 0xd5f02 ?_;refine bp ?_;exact⟨aY,rfl,a9⟩
end
end
end Go.Opn
namespace Go.Opn
noncomputable section
theorem ajf{A D l:Nat}(cp:0<D):(l+1000000000*A) / D=(l+1000000000*(A % D)) / D+1000000000*(A / D)/\(l+1000000000*A) % D=(l+1000000000*(A % D)) % D:=by
 have e:l+1000000000*A=(l+1000000000*(A % D))+D*(1000000000*(A / D)):=by
  conv=>lhs;rw[<-zn A D]
  rw[cL,<-DL,rE 1000000000 D]
 rw[e];exact⟨Wj _ _ cp,Nat.add_mul_mod_self_left _ _ _⟩
theorem aje{D l c:Nat}(aq:l<1000000000)(aC:c<D):(l+1000000000*c) / D<1000000000:=by
 rw[ni I];omega
theorem adP(l:List Nat)(i:Nat):aK l=aK (l.take i)+1000000000 ^ i*aK (l.drop i):=by
 rcases hH l.length i with h|h
 ·rw[cU I,rB I];rfl
 ·exact AK l i h
theorem avy{l:List Nat}(h:dU l)(i:Nat):aK (l.take i)<1000000000 ^ i:=by
 have ad:=ly (wL (i:=i) h);exact iM ad (mV bI (by rw[eA];omega))
theorem Zl{V i:Nat}:aK ((ag V).drop i)=V / 1000000000 ^ i:=by
 have ad:=adP (ag V) i;rw[g'] at ad;have ae:=avy (hR V) i;have aw:0<1000000000 ^ i:=vr bI;have:V / 1000000000 ^ i=(aK ((ag V).take i)+1000000000 ^ i*aK ((ag V).drop i)) / 1000000000 ^ i:=by rw[<-ad]
 rw[this,Wj _ _ aw,A6 ae,j2]
theorem aej{Y n T:Nat}(aE:(ag Y)[n]?=some T):T*1000000000 ^ n<=Y:=by
 have ad:=adP (ag Y) n;rw[g',y' aE,cL] at ad;rw[dP];omega
theorem aj8{V Y n T:Nat}(aE:(ag Y)[n]?=some T)(cB:0<T)(iR:V<1000000000*Y):V / Y<=Nat.min (aK ((ag V).drop n) / T) 999999999:=by
 have jj:0<Y:=by
  have ad:=aej aE;have ae:0<T*1000000000 ^ n:=jr cB (vr bI);omega
 have ad:V / Y<1000000000:=by rw[ni jj];exact iR
 refine Nat.le_min.2 ⟨?_,I⟩;rw[Zl,KS cB,KS (vr bI),fy];exact cX (hI _ (aej aE)) (Nat.div_mul_le_self V Y)
theorem Zm{V Y n:Nat}(aE:(ag Y).length=n+1)(iR:V<1000000000*Y)(j:Nat)(aX:n<=j):aK ((ag V).drop j)<1000000000000000000:=by
 have ad:=oN (x:=Y) (k:=n+1) I;rw[Zl];have aw:0<1000000000 ^ j:=vr bI;rw[ni aw];have ae:1000000000*Y<1000000000 ^ (n+2):=by rw[fP 1000000000 (n+1),dP];exact DO ad bI
 have aD:1000000000 ^ (n+2)=1000000000000000000*1000000000 ^ n:=by rw[o1,dP]
 have a6:1000000000 ^ n<=1000000000 ^ j:=mV bI aX;omega
theorem ajO{Y k m:Nat}{l:List Nat}(aq:dU l)(hk:l.length -k<=m)(aE:(ag Y).length=m+1):aK (l.drop k)<Y:=by
 have ad:=ly (Nw (i:=k) aq);have ae:=Vf (Bk Y) (fun q=>by rw[q] at aE;cases aE);rw[g',aE,oo] at ae;have aD:1000000000 ^ (l.drop k).length<=1000000000 ^ m:=mV bI (by rw[jZ];exact hk);omega
theorem Xu:∀{k:Nat} {l:List Nat},kg l->kg (l.drop k)
 |0,_,h=>h
 |k+1,[],h=>by rw[List.drop_nil];exact h
 |k+1,x::l,h=>by rw[V2];exact Xu (Qe h)
theorem drop_set{l:List Nat}{i v:Nat}(h:i<l.length):(l.set i v).drop i=v::l.drop (i+1):=by
 rw[ajN (l:=l.set i v) (x:=v) (by rw[mS,aV rfl,aV h]),DE I]
where
 ajN {l:List Nat} {i x:Nat} (h:l[i]?=some x):l.drop i=x::l.drop (i+1):=by
  have ak:=(ff.1 h).1;have aa:l[i]=x:=by rw[ey ak] at h;injection h
  rw[AZ ak,aa]
theorem acX{L d:List Nat}{i a Y R V:Nat}(jj:0<Y)(aF:L[i]?=some a)(au:i<d.length)(c1:R=aK (L.drop (i+1)) % Y)(gK:aK (d.drop (i+1))=aK (L.drop (i+1)) / Y)(iR:V=a+1000000000*R):aK ((d.set i (V / Y)).drop i)=aK (L.drop i) / Y/\V % Y=aK (L.drop i) % Y:=by
 have h:=ajf (A:=aK (L.drop (i+1))) (l:=a) jj;rw[drop_set au,y' aF];show V / Y+1000000000*aK (d.drop (i+1))=_/\_;rw[gK,h.1,h.2,iR,c1];exact⟨rfl,rfl⟩
end
end Go.Opn
