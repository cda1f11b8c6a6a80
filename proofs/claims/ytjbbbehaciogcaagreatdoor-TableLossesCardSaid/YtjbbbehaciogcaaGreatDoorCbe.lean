/- A part of the proof of TableLosses. -/
import Derived.Test.YtjbbbehaciogcaaGreatDoorCbd
import Derived.Test.YtjbbbehaciogcaaGreatDoorCat
import Derived.Test.YtjbbbehaciogcaaGreatDoorCas
set_option maxRecDepth 100000
set_option maxHeartbeats 8000000
set_option linter.unusedVariables false
set_option linter.unusedSimpArgs false
namespace Go.Opn
noncomputable section
open Go.Cre Go.RowKit Go.Proofs
theorem tG.hs{J mn:aj}{r jR:bx}(hle:mn.le J)(eN:jR=r){bm:aN}(hm:bm=[]):bm=[]/\mn.le J/\∀v m' bu cZ,tG mn jR v m' bu->bu.le cZ->J.le cZ->tG J r v m' cZ:=
 ⟨hm,hle,fun v m' bu cZ ⟨_,ae,bl,b7,aD,a6⟩ eM fH=>⟨fH,ae,bl,b7,by subst eN;exact aD,by subst eN;exact a6.mono eM⟩⟩
theorem f'.y9{J af:aj}{r s:bx}{v1 v2 bl b7:Value}(h:f' J r v1 v2)(hd:f' af s bl b7)(hle:J.le af)(e:dm r v1 v2=dm s bl b7):r=s:=by
 injection e with e
 have e:[Value.bool (decide (r.z<0)),v1,v2]=[.bool (decide (s.z<0)),bl,b7]:=cC Array.toList e;injection e with hb e
 injection e with ax e
 injection e with aS e
 injection hb with hb
 have aW:=h.n.u5 hd.n hle ax;have aT:=h.d.u5 hd.d hle aS;have bo:=pX.1 hb;exact bx.QO I aT
theorem adC{a b:Int}(aM:a*b≠0):(decide ((decide (a<0))≠(decide (b<0))))=decide (a*b<0):=by
 have aF:a≠0:=fun h=>aM (by rw[h,AY]);have ai:b≠0:=fun h=>aM (by rw[h,VV]);by_cases ad:a<0
 ·by_cases ae:b<0
  ·have:=afx ad ae
   rw[jx ad,jx ae,fW (show ¬a*b<0 by omega)];rfl
  ·have:=Dx ad (show 0<b by omega)
   rw[jx ad,fW ae,jx this];rfl
 ·by_cases ae:b<0
  ·have:=VU (show 0<a by omega) ae
   rw[fW ad,jx ae,jx this];rfl
  ·have:=OG (show 0<a by omega) (show 0<b by omega)
   rw[fW ad,fW ae,fW (show ¬a*b<0 by omega)];rfl
section
variable {Q:c7 Tryz.prog}{g0:Nat}{J:aj}
theorem auF{n:Nat}(aE:n<1000000000000000000):Fn (aU Q g0) 62 [.int .i64 (-(n:Int))] [] J (pT J n):=by
 have aq:(ag n).length<=2:=kJ (iM aE bI);refine Fn.b5 (b2 Tryz.func62) rfl rfl fun H=>?_;refine U 0xd5f02ce059 ?_;refine c3 [(0,.int .i64 (-((n):Int))),(3,(.slice none 0 0))] ?_;refine a2 ?_;refine' az.bH (fun(bK:Nat×(List Nat)×Value×aN)=>match bK with|(c,out,gq,bc)=>⟨[(0,.int .i64 (-(c:Int))),(3,gq)],bc,J,c<=n/\out++ag c=ag n/\Acc 78 1 gq out.length (cj .u32 out) bc,c⟩) ⟨n,[],.slice none 0 0,[]⟩ ?hs ?a7
 case hs=>exact⟨bU _,rfl,.nil⟩
 case a7=>
  rintro⟨c,out,gq,bc⟩ hinv;try simp only at hinv
  obtain⟨aC,ah,eT⟩:=hinv;refine U 0x17c1039 ?_;refine If (fun eo=>?_) fun eo=>?_
  ·have m3:c≠0:=I
   have oI:out.length<=2:=by
    have:=cC List.length ah;rw[eX] at this;omega
   have Il:(-(c:Int)).tmod 1000000000=-((c % 1000000000:Nat):Int):=by rw[Int.neg_tmod];exact cC Neg.neg (KE c 1000000000).symm
   have H7:(-(c:Int)).tdiv 1000000000=-((c / 1000000000:Nat):Int):=by rw[Int.neg_tdiv];exact cC Neg.neg (DC c 1000000000).symm
   have azv:IntKind.i64.wrap (-(-((c % 1000000000:Nat):Int)))=((c % 1000000000:Nat):Int):=by rw[Int.neg_neg];exact wrap_i64 I I
   have Cc:max (-((c % 1000000000:Nat):Int)) ((c % 1000000000:Nat):Int)=((c % 1000000000:Nat):Int):=I
   have hw:IntKind.u32.wrap ((c % 1000000000:Nat):Int)=((c % 1000000000:Nat):Int):=wrap_u32 I I;have yk:IntKind.i64.wrap (-((c / 1000000000:Nat):Int))=-((c / 1000000000:Nat):Int):=wrap_i64 I I;refine U 0x1813c39d5f57 ?_;rw[Il];refine U 0x8439 ?_;refine' W.step rfl (Exec.val rfl rfl (F4 rfl rfl ?hw) ?_);case hw=>exact wrap_i64 I I
   refine' W.step rfl (Exec.val rfl rfl (wY rfl rfl rfl rfl rfl) ?_);rw[show max (-((c % 1000000000:Nat):Int)) (-(-((c % 1000000000:Nat):Int)))=((c % 1000000000:Nat):Int) by omega]
   refine eZ V.lH ?_;refine mr fun vz=>?_;refine' W.step rfl (.of (tt rfl rfl rfl rfl rfl rfl (eW rfl) (wX Q g0) (fun i q=>by cases q) ?eT ?hm ?aa ?dT ?dX ?aq fun Kg Je RG aph=>?_));case eT=>exact eT
   case hm=>exact(zm _ bc).symm
   case aa=>exact yV
   case dT=>rfl
   case dX=>rfl
   case aq=>exact(show out.length+1<=1000000 by omega)
   refine U 0x604f0e702 ?_;rw[H7,yk];have a7:c / 1000000000<=n/\(out++[c % 1000000000])++ag (c / 1000000000)=ag n/\Acc 78 1 Kg (out++[c % 1000000000]).length (cj .u32 (out++[c % 1000000000])) Je:=⟨I,aaW m3 ah,by rw[CN,eX];exact RG⟩;refine dN ⟨c / 1000000000,out++[c % 1000000000],Kg,Je⟩ ?_ (hm:=st _ _);exact a7
  ·obtain rfl:c=0:=I
   rw[lR,hi] at ah;refine Acc.qv eT (.of_eq (hi bc).symm) fun bu aY al=>?_;rw[ah] at al;refine U 0xd5f020e757 ?_;refine bp ?_;exact⟨aY,rfl,al⟩
theorem auH{z:Int}(aM:z.natAbs<1000000000000000000):Fn (aU Q g0) 62 [.int .i64 z] [] J (pT J z.natAbs):=by
 rcases Int.natAbs_eq z with e|e
 ·have h:=UQ (Q:=Q) (g0:=g0) (J:=J) aM
  rw[<-e] at h;exact h
 ·have h:=auF (Q:=Q) (g0:=g0) (J:=J) aM
  rw[<-e] at h;exact h
theorem Dl{z:Int}(aM:z.natAbs<1000000000000000000):Fn (aU Q g0) 29 [.int .i64 z] [] J (tG J (⟨z,1⟩:bx)):=by
 have aq:(ag z.natAbs).length<=2:=kJ (iM aM bI);have ad:(ag 1).length<=60000:=cX (kJ (k:=1) bI) bI;have Is:bk z 1=(⟨z,1⟩:bx):=No (r:=⟨z,1⟩) ⟨Nat.one_pos,afY _⟩;refine Fn.b5 (b2 Tryz.func29) rfl rfl fun H=>?_;refine rg ?_;refine fa fun bd=>?_;refine U 0x120738 ?_;refine bC (G:=auH aM) (h:=?_);rintro v' m' bu hle ⟨aY,rfl,eS⟩;refine mr fun eP=>?_;refine W.ei rfl fun bG HU=>?_;refine bC (G:=CA (z:=z) Nat.one_pos rfl (fun _=>rfl) (eS.gM.mono bG) (aa1 HU) I ad) (h:=?_);rintro v' m' cZ hle ⟨cR,rfl,dW,fi,rfl,bM⟩;rw[Is] at bM ⊢;have ch:=bM;obtain⟨ir,ep,rfl,oT⟩:=bM.n.bA;obtain⟨kT,dp,rfl,oa⟩:=bM.d.bA;refine U 0xd5f1c ?_;refine bp ?_;exact⟨aY.trans (bG.trans cR),rfl,_,_,rfl,ch⟩
theorem avE{r s:bx}{v1 v2 bl b7:Value}(ao:f' J r v1 v2)(hs:f' J s bl b7)(rd:0<r.d)(h0:0<s.d)(ec:(ag r.z.natAbs).length<=20000)(dA:(ag r.d).length<=20000)(ib:(ag s.z.natAbs).length<=20000)(j8:(ag s.d).length<=20000):Fn (aU Q g0) 34 [dm r v1 v2,dm s bl b7] [] J (tG J (bk (r.z*s.z) (r.d*s.d))):=by
 have cT:=ao;have eB:=hs;obtain⟨a',bb,rfl,aL⟩:=ao.n.bA;obtain⟨bf,br,rfl,aG⟩:=ao.d.bA;obtain⟨bV,cc,rfl,bt⟩:=hs.n.bA;obtain⟨dx,ej,rfl,du⟩:=hs.d.bA;have MY:(ag (r.z.natAbs*s.z.natAbs)).length<=40000:=pn ec ib;have aaD:(ag (r.d*s.d)).length<=40000:=pn dA j8;refine Fn.b5 (b2 Tryz.func34) rfl rfl fun H=>?_;refine rg ?_;refine eQ fun bd=>?_;refine eQ fun cm=>?_;refine fa fun cQ=>?_;refine ns ?_;refine az.draw rfl (by kernel_rfl) (a1:=[.val 0,.val 1,.val 2,.val 3,.val 4,.val 5,.val 6,.val 7,.val 8,.val 10,.val 11,.val 12,.val 13,.bE 9,.b9 [13,12,11,10,4,3,2,1,0],.bE 14,.b9 [4,3,2,1,0],.bE 15,.bE 16]) (by kernel_rfl) ?_;refine U 0x5354d ?_;refine' ct.val rfl rfl rfl rfl (u6 rfl rfl rfl (.inr ⟨rfl,rfl⟩) (by kernel_rfl)) ?_;refine U 0x1e5354d5354d ?_;refine' bz.dE rfl rfl rfl rfl rfl rfl rfl rfl rfl dF (u3 cT.n eB.n I I) ?_;rintro v' m' bu aY ⟨_,rfl,eS⟩;have hU:=eS.gM;obtain⟨fs,gl,rfl,fU⟩:=hU.bA;refine bz.b9 ⟨?h7,?aW,?aT,?bo,?cu,?fm,?iG,?pk,?qk,trivial⟩ ?_;case h7=>
  refine' e3.val rfl rfl rfl (ik rfl rfl ?ao (gR (fz rfl) ?av)) rfl ?he;case ao=>exact qr
  case av=>rfl
  case he=>exact gy
 case aW=>
  refine' e3.val rfl rfl rfl (qE rfl rfl (qB rfl rfl)) rfl ?he;case he=>exact gy
 case aT=>
  refine' e3.val rfl rfl rfl (ik rfl rfl ?ao (gR (fz rfl) ?av)) rfl ?he;case ao=>exact qr
  case av=>rfl
  case he=>exact gy
 case bo=>
  refine' e3.val rfl rfl rfl (qE rfl rfl (qB rfl rfl)) rfl ?he;case he=>exact gy
 case cu=>
  refine' e3.val rfl rfl rfl (u6 rfl rfl rfl (.inr ⟨rfl,rfl⟩) (by kernel_rfl)) rfl ?he;case he=>exact gy
 case fm=>
  refine' e3.val rfl rfl rfl (ik rfl rfl ?ao (gR (fz rfl) ?av)) rfl ?he;case ao=>exact qr
  case av=>rfl
  case he=>exact gy
 case iG=>
  refine' e3.val rfl rfl rfl (qE rfl rfl (qB rfl rfl)) rfl ?he;case he=>exact gy
 case pk=>
  refine' e3.val rfl rfl rfl (ik rfl rfl ?ao (gR (fz rfl) ?av)) rfl ?he;case ao=>exact qr
  case av=>rfl
  case he=>exact gy
 case qk=>
  refine' e3.val rfl rfl rfl (qE rfl rfl (qB rfl rfl)) rfl ?he;case he=>exact gy
 refine' bz.dE rfl rfl rfl rfl rfl rfl rfl rfl rfl (dj (fun _ aF=>pT.hs aY (by rw[cT.n.u5 (cT.d.mono aY) aY (lY aF).1,eB.n.u5 (eB.d.mono aY) aY (lY aF).2]) rfl) dF) (u3 (cT.d.mono aY) (eB.d.mono aY) I I) ?_;rintro v' m' cZ bG ⟨_,rfl,ea⟩;have h5:=ea.gM;obtain⟨fb,eo,rfl,ih⟩:=h5.bA;refine bz.b9 ⟨?h7,?aW,?aT,?bo,?cu,trivial⟩ ?_;case h7=>
  refine' e3.val rfl rfl rfl (u6 rfl rfl rfl (.inr ⟨rfl,rfl⟩) (by kernel_rfl)) rfl ?he;case he=>exact gy
 case aW=>
  refine' e3.val rfl rfl rfl (ik rfl rfl ?ao (gR (fz rfl) ?av)) rfl ?he;case ao=>exact qr
  case av=>rfl
  case he=>exact gy
 case aT=>
  refine' e3.val rfl rfl rfl (qE rfl rfl (qB rfl rfl)) rfl ?he;case he=>exact gy
 case bo=>
  refine' e3.val rfl rfl rfl (ik rfl rfl ?ao (gR (fz rfl) ?av)) rfl ?he;case ao=>exact qr
  case av=>rfl
  case he=>exact gy
 case cu=>
  refine' e3.val rfl rfl rfl (qE rfl rfl (qB rfl rfl)) rfl ?he;case he=>exact gy
 refine' bz.dE rfl rfl rfl rfl rfl rfl rfl rfl rfl (dj (eC rfl) (dj (eC rfl) dF)) (CA (z:=r.z*s.z) (jr rd h0) (mR _ _) (fun aM=>adC aM) (hU.mono bG) h5 I I) ?_;rintro v' m' gi cR ⟨_,rfl,dW,fi,rfl,bM⟩;have ch:=bM;obtain⟨ir,ep,rfl,oT⟩:=bM.n.bA;obtain⟨kT,dp,rfl,oa⟩:=bM.d.bA;refine U 0x1abe39e ?_;refine bp ?_;exact⟨(aY.trans bG).trans cR,rfl,_,_,rfl,ch⟩
theorem auG{r:bx}{v1 v2:Value}(ao:f' J r v1 v2):Fn (aU Q g0) 67 [dm r v1 v2] [] J (fun u m' af=>u=dm ⟨(r.z.natAbs:Int),r.d⟩ v1 v2/\m'=[]/\J=af):=by
 obtain⟨a',bb,rfl,aL⟩:=ao.n.bA;obtain⟨bf,br,rfl,aG⟩:=ao.d.bA;refine Fn.b5 (b2 Tryz.func67) rfl rfl fun H=>?_;refine rg ?_;refine eQ fun ba=>?_;refine fa fun bd=>?_;refine U 0x6af8e2f38e3738 ?_;refine bp ?_;exact⟨by rw[show dm ⟨(r.z.natAbs:Int),r.d⟩ (.slice a' (ag r.z.natAbs).length bb) (.slice bf (ag r.d).length br)=.agg #[.bool (decide ((r.z.natAbs:Int)<0)),.slice a' (ag r.z.natAbs).length bb,.slice bf (ag r.d).length br] from rfl,fW (show ¬(r.z.natAbs:Int)<0 by omega)];rfl,rfl,rfl⟩
theorem asx{r s:bx}{v1 v2 bl b7:Value}(ao:f' J r v1 v2)(hs:f' J s bl b7)(rd:0<r.d)(sz:0<s.z)(ec:(ag r.z.natAbs).length<=20000)(dA:(ag r.d).length<=20000)(ib:(ag s.z.natAbs).length<=20000)(j8:(ag s.d).length<=20000)(h0:0<s.d):Fn (aU Q g0) 69 [dm r v1 v2,dm s bl b7] [] J (tG J (bk (r.z*s.d) (r.d*s.z.natAbs))):=by
 have cT:=ao;have eB:=hs;obtain⟨a',bb,rfl,aL⟩:=ao.n.bA;obtain⟨bf,br,rfl,aG⟩:=ao.d.bA;obtain⟨bV,cc,rfl,bt⟩:=hs.n.bA;obtain⟨dx,ej,rfl,du⟩:=hs.d.bA;have MY:(ag (r.z.natAbs*s.d)).length<=40000:=pn ec j8;have aaD:(ag (r.d*s.z.natAbs)).length<=40000:=pn dA ib;have aoB:r.z*(s.d:Int)≠0->(decide ((decide (r.z<0))≠(decide (s.z<0))))=decide (r.z*(s.d:Int)<0):=fun aM=>by
  rw[<-adC aM,fW (show ¬s.z<0 by omega),fW (show ¬(s.d:Int)<0 by omega)]
 refine Fn.b5 (b2 Tryz.func69) rfl rfl fun H=>?_;refine rg ?_;refine eQ fun bd=>?_;refine eQ fun cm=>?_;refine fa fun cQ=>?_;refine ns ?_;refine az.draw rfl (by kernel_rfl) (a1:=[.val 0,.val 1,.val 2,.val 3,.val 4,.val 5,.val 6,.val 7,.val 8,.val 10,.val 11,.val 12,.val 13,.bE 9,.b9 [13,12,11,10,4,3,2,1,0],.bE 14,.b9 [4,3,2,1,0],.bE 15,.bE 16]) (by kernel_rfl) ?_;refine U 0x5354d ?_;refine' ct.val rfl rfl rfl rfl (u6 rfl rfl rfl (.inr ⟨rfl,rfl⟩) (by kernel_rfl)) ?_;refine U 0x1e5354d5354d ?_;refine' bz.dE rfl rfl rfl rfl rfl rfl rfl rfl rfl dF (u3 cT.n eB.d I I) ?_;rintro v' m' bu aY ⟨_,rfl,eS⟩;have hU:=eS.gM;obtain⟨fs,gl,rfl,fU⟩:=hU.bA;refine bz.b9 ⟨?h7,?aW,?aT,?bo,?cu,?fm,?iG,?pk,?qk,trivial⟩ ?_;case h7=>
  refine' e3.val rfl rfl rfl (ik rfl rfl ?ao (gR (fz rfl) ?av)) rfl ?he;case ao=>exact qr
  case av=>rfl
  case he=>exact gy
 case aW=>
  refine' e3.val rfl rfl rfl (qE rfl rfl (qB rfl rfl)) rfl ?he;case he=>exact gy
 case aT=>
  refine' e3.val rfl rfl rfl (ik rfl rfl ?ao (gR (fz rfl) ?av)) rfl ?he;case ao=>exact qr
  case av=>rfl
  case he=>exact gy
 case bo=>
  refine' e3.val rfl rfl rfl (qE rfl rfl (qB rfl rfl)) rfl ?he;case he=>exact gy
 case cu=>
  refine' e3.val rfl rfl rfl (u6 rfl rfl rfl (.inr ⟨rfl,rfl⟩) (by kernel_rfl)) rfl ?he;case he=>exact gy
 case fm=>
  refine' e3.val rfl rfl rfl (ik rfl rfl ?ao (gR (fz rfl) ?av)) rfl ?he;case ao=>exact qr
  case av=>rfl
  case he=>exact gy
 case iG=>
  refine' e3.val rfl rfl rfl (qE rfl rfl (qB rfl rfl)) rfl ?he;case he=>exact gy
 case pk=>
  refine' e3.val rfl rfl rfl (ik rfl rfl ?ao (gR (fz rfl) ?av)) rfl ?he;case ao=>exact qr
  case av=>rfl
  case he=>exact gy
 case qk=>
  refine' e3.val rfl rfl rfl (qE rfl rfl (qB rfl rfl)) rfl ?he;case he=>exact gy
 refine' bz.dE rfl rfl rfl rfl rfl rfl rfl rfl rfl (dj (fun _ aF=>pT.hs aY (by rw[cT.n.u5 (cT.d.mono aY) aY (lY aF).1,eB.d.u5 (eB.n.mono aY) aY (lY aF).2]) rfl) dF) (u3 (cT.d.mono aY) (eB.n.mono aY) I I) ?_;rintro v' m' cZ bG ⟨_,rfl,ea⟩;have h5:=ea.gM;obtain⟨fb,eo,rfl,ih⟩:=h5.bA;refine bz.b9 ⟨?h7,?aW,?aT,?bo,?cu,trivial⟩ ?_;case h7=>
  refine' e3.val rfl rfl rfl (u6 rfl rfl rfl (.inr ⟨rfl,rfl⟩) (by kernel_rfl)) rfl ?he;case he=>exact gy
 case aW=>
  refine' e3.val rfl rfl rfl (ik rfl rfl ?ao (gR (fz rfl) ?av)) rfl ?he;case ao=>exact qr
  case av=>rfl
  case he=>exact gy
 case aT=>
  refine' e3.val rfl rfl rfl (qE rfl rfl (qB rfl rfl)) rfl ?he;case he=>exact gy
 case bo=>
  refine' e3.val rfl rfl rfl (ik rfl rfl ?ao (gR (fz rfl) ?av)) rfl ?he;case ao=>exact qr
  case av=>rfl
  case he=>exact gy
 case cu=>
  refine' e3.val rfl rfl rfl (qE rfl rfl (qB rfl rfl)) rfl ?he;case he=>exact gy
 refine' bz.dE rfl rfl rfl rfl rfl rfl rfl rfl rfl (dj (eC rfl) (dj (eC rfl) dF)) (CA (z:=r.z*s.d) (jr rd I) (by rw[mR];rfl) (fun aM=>aoB aM) (hU.mono bG) h5 I I) ?_;rintro v' m' gi cR ⟨_,rfl,dW,fi,rfl,bM⟩;have ch:=bM;obtain⟨ir,ep,rfl,oT⟩:=bM.n.bA;obtain⟨kT,dp,rfl,oa⟩:=bM.d.bA;refine U 0x1abe39e ?_;refine bp ?_;exact⟨(aY.trans bG).trans cR,rfl,_,_,rfl,ch⟩
end
def mY(J:aj)(x:cf)(cs:List Value):Prop:=∃v1 v2,cs=[.bool x.neg,v1,v2]/\tH J x v1 v2
theorem mY.mono{J af:aj}(hle:J.le af){x:cf}{cs:List Value}(h:mY J x cs):mY af x cs:=by
 obtain⟨v1,v2,ad,ae⟩:=h;exact⟨v1,v2,ad,ae.mono hle⟩
theorem tH.ok{J:aj}{x:cf}{v1 v2:Value}(h:tH J x v1 v2)(aa:lJ x=0):f' J x.rt v1 v2:=by
 obtain⟨_,ad,ae,_⟩:=sL aa;exact h.FR ⟨by rw[ad];exact Bk _,by rw[ae];exact Bk _⟩
theorem QD{J:aj}{e:TypeId}{v:Value}{l:List cf}(h:dD J e 3 (mY J) v l):qz l:=fun x aa=>by
 obtain⟨cs,_,ae⟩:=h;obtain⟨i,ak⟩:=xa.1 aa;obtain⟨v1,v2,_,ao⟩:=ae i x ak;exact⟨ao.gM,ao.nC⟩
theorem ach{l:List cf}:k5 (l.take 0):=by
 rw[fO];intro x aa;cases aa
theorem adF{l:List cf}{i:Nat}(h:qz l):qz (l.take i):=fun x aa=>h x (OQ aa)
theorem avA{l:List cf}{i:Nat}{x:cf}(h:l[i]?=some x):l.take (i+1)=l.take i++[x]:=by rw[lD,h];rfl
theorem adm{x:cf}:¬x.rt.z<0:=Int.not_lt.2 (pI _)
section
variable {Q:c7 Tryz.prog}{g0:Nat}{J:aj}
theorem atS{l:List cf}{b:Option Addr}{c:Nat}(h:dD J 37 3 (mY J) (.slice b l.length c) l)(l9:l.length<=9223372036854775807):Fn (aU Q g0) 59 [.slice b l.length c] [] J (fun u m' af=>J.le af/\m'=[]/\u=.int .i64 (mL l)):=by
 have k6:addrEq b b=true:=h.addr;obtain⟨_,eU⟩:=h.at;have h':=QD h;refine Fn.b5 (b2 Tryz.func59) rfl rfl fun H=>?_;refine U 0x6059 ?_;refine c4 [0] ?_;refine a2 ?_;refine' az.en 0 [(13,.bool (decide ((l.length<1\/10<l.length))))] ?jh ?ji;case jh=>
  refine U 0x12143a ?_;refine c0 9 (fun g2=>?_) fun g2=>?_
  ·refine U 0x1846f7b ?_;refine di (dk ?_);omega
  ·refine U 0x18410a1 ?_;refine di (dk ?_);omega
 case ji=>
  refine a2 ?_;refine If (fun tO=>?_) fun tO=>?_
  ·have he:=Uz tO;refine U 0x1abe059 ?_;refine bp ?_
   exact⟨aj.le.refl _,rfl,by rw[he];rfl⟩
  ·refine I2 ?_;refine bC (G:=Dl (z:=0) bI) (h:=?_);rintro v' m' bu hle ⟨aY,rfl,dW,fi,rfl,bM⟩;have ch:=bM;obtain⟨ir,ep,rfl,oT⟩:=bM.n.bA;obtain⟨kT,dp,rfl,oa⟩:=bM.d.bA;refine fa fun cm=>?_;refine U 0x6af81671c ?_;refine c3 [(4,.int .i64 ((0):Int)),(0,_),(3,_)] ?_;refine a2 ?_;refine' az.bH (fun(bK:Nat×Value×Value×aj)=>match bK with|(i,bl,b7,cq)=>⟨[(4,.int .i64 (i:Int))],[(cm,.row [.bool false,bl,b7] 37)],cq,i<=l.length/\J.le cq/\k5 (l.take i)/\f' cq (kc (l.take i)) bl b7,l.length -i⟩) ⟨0,.slice ir _ ep,.slice kT _ dp,bu⟩ ?hs ?a7
   case hs=>exact⟨c5 _,aY,ach,by rw[fO,avP];exact ch⟩
   case a7=>
    rintro⟨i,bl,b7,cq⟩ hinv;try simp only at hinv
    obtain⟨ak,cA,bn,bM⟩:=hinv;have kH:=bM;obtain⟨bV,cc,rfl,bt⟩:=bM.n.bA;obtain⟨dx,ej,rfl,du⟩:=bM.d.bA;refine U 0x5f0428439 ?_;refine If (fun iO=>?_) fun iO=>?_
    ·obtain⟨a,off,cells,bD,rfl,l6,hD⟩:=eU I;obtain⟨x,cs,aa,g3,mx,v1,v2,rfl,c1⟩:=hD i I I;rw[gG] at aa;have l6:=cA _ _ l6;have p2:=c1.mono cA;obtain⟨a',bb,rfl⟩:=c1.n.form;obtain⟨bf,br,rfl⟩:=c1.d.form;have Ie:=mx 0 _ bI rfl;refine U 0xc30439d5f57 ?_;refine bC (G:=atv p2) (h:=?_);rintro v' m' cZ hle ⟨bG,rfl,rfl⟩;have ayS:=bG _ _ l6;refine U 0x302 ?_;refine c4 [0,3,4,5] ?_;refine a2 ?_;refine' az.en 0 [(27,.bool (decide ((nH x≠0))))] ?aiM ?ajJ;case aiM=>
      refine U 0xc103a ?_;refine di (dk ?_);omega
     case ajJ=>
      refine a2 ?_;refine If (fun jv=>?_) fun jv=>?_
      ·
        have hf:=QC jv;have he:=JV tO (by rw[xW bn aa (by rw[hf];exact jv),hf];exact jv);rw[xW bn aa (by rw[hf];exact jv),hf] at he;refine U 0x357c0839 ?_;refine bp ?_
        exact⟨cA.trans bG,rfl,by rw[he];rfl⟩
      ·
        have jv:nH x=0:=jD fun q=>jv q;refine U 0x2f84b4c10e757 ?_;refine If (fun ow=>?_) fun ow=>?_
        ·have hf:=QB jv ow;have he:=JV tO (by rw[xW bn aa (by rw[hf];decide),hf];decide);rw[xW bn aa (by rw[hf];decide),hf] at he;refine U 0x1abe059 ?_;refine bp ?_
         exact⟨cA.trans bG,rfl,by rw[he];rfl⟩
        ·have z9:x.neg=false:=ow;have hf:=XV jv z9;have My:k5 (l.take (i+1)):=J2 (P:=fun y=>lJ y=0) bn aa hf;have yh:(l.take i).length<=10:=by rw[eA];omega
         have pc:=aek bn (adF h') yh;have j5:=XW hf (h' x (et aa));have IF:=J3 My;refine U 0x5f57 ?_;refine az.draw rfl (by kernel_rfl) (a1:=[.val 0,.val 1,.val 2,.val 3,.val 4,.bE 5,.bE 6]) (by kernel_rfl) ?_;refine U 0x3cc3042c ?_;refine' bz.dE rfl rfl rfl rfl rfl rfl rfl rfl rfl dF (JN (r:=kc (l.take i)) (s:=x.rt) (fW (J3 bn)).symm (by rw[z9,fW adm]) (kH.mono bG) ((p2.mono bG).ok hf) (N7 bn).1 (sL hf).2.2.2.1 I I I I) ?_;rintro v' m' gi hle ⟨cR,rfl,dW,fi,rfl,bM⟩;rw[avR bn hf,<-avA aa] at bM ⊢;have jy:=bM;obtain⟨fs,gl,rfl,fU⟩:=bM.n.bA;obtain⟨fb,eo,rfl,ih⟩:=bM.d.bA;refine U 0x639e ?_;rw[fW IF];refine U 0x1810c39 ?_;refine dN ⟨i+1,.slice fs _ gl,.slice fb _ eo,gi⟩ ?_ (hm:=.refl _);exact⟨I,cA.trans (bG.trans cR),My,jy⟩
    ·have uD:l.take i=l:=cU I;have ph:k5 l:=by
        have:=bn;rw[uD] at this;exact this
     have Z3:(iJ (l.take i)).sum=(iJ l).sum/\g1 (l.take i)=g1 l:=⟨by rw[uD],by rw[uD]⟩;have wk:=ael bn;rw[Z3.1,Z3.2] at wk;have yh:(l.take i).length<=10:=by rw[eA];omega
     have pc:=aek bn (adF h') yh;have YD:(ag 1).length<=1:=kJ bI;have IF:=J3 bn;refine U 0x5f57 ?_;refine az.draw rfl (by kernel_rfl) (a1:=[.val 0,.bE 1,.b9 [0],.bE 2,.val 3]) (by kernel_rfl) ?_;refine U 0x3cc ?_;refine' bz.dE rfl rfl rfl rfl rfl rfl rfl rfl rfl dF (Dl (z:=1) bI) ?_;rintro v' m' cZ hle ⟨bG,rfl,dW,fi,rfl,e1⟩;have ch:=e1;obtain⟨iq,fC,rfl,mK⟩:=e1.n.bA;obtain⟨km,hq,rfl,oS⟩:=e1.d.bA;refine bz.b9 fD ?_;refine' bz.dE rfl rfl rfl rfl rfl rfl rfl rfl rfl (dj (eC rfl) dF) (acr (r:=kc (l.take i)) (s:=⟨1,1⟩) (kH.mono bG) ch (N7 bn).1 Nat.one_pos I I (by show(ag 1).length<=20000;omega) (by show(ag 1).length<=20000;omega)) ?_;rintro v' m' gi hle ⟨cR,rfl,rfl⟩;refine U 0xbe09e ?_;refine If (fun ox=>?_) fun ox=>?_
     ·have he:=UA tO ph (fun q=>ox (wk.2 q));refine U 0x1abe059 ?_;refine bp ?_
      exact⟨(cA.trans bG).trans cR,rfl,by rw[he];rfl⟩
     ·have he:=adb tO ph (wk.1 (jD fun q=>ox q));refine U 0x6af816757 ?_;refine bp ?_
      exact⟨(cA.trans bG).trans cR,rfl,by rw[he];rfl⟩
end
theorem f'.aex{J af:aj}{r s:bx}{v1 v2 bl b7:Value}{x y:Bool}(h:f' J r v1 v2)(hd:f' af s bl b7)(hle:J.le af)(aa:x=decide (r.z<0))(ap:y=decide (s.z<0))(e:Value.agg #[.bool x,v1,v2]=Value.agg #[.bool y,bl,b7]):r=s:=by
 subst aa ap;exact h.y9 hd hle e
theorem f'.ahP{J:aj}{r s:bx}{v1 v2:Value}(h:f' J r v1 v2)(e:r=s):f' J s v1 v2:=e▸h
theorem asK{r cv s cM:bx}(ad:r=cv)(ae:s=cM):bk (r.z*s.d+s.z*r.d) (r.d*s.d)=bk (cv.z*cM.d+cM.z*cv.d) (cv.d*cM.d):=by rw[ad,ae]
theorem Ft{n:Int}{d k:Nat}(au:0<d)(ad:(ag n.natAbs).length<=k)(ae:(ag d).length<=k):(ag (bk n d).z.natAbs).length<=k/\(ag (bk n d).d).length<=k:=by
 have aD:=Np (z:=n) au;exact⟨cX (nD aD.1) ad,cX (nD aD.2) ae⟩
theorem mY.ok{J:aj}{x:cf}{cs:List Value}(h:mY J x cs)(aa:lJ x=0):pR J x.rt cs:=by
 obtain⟨v1,v2,rfl,ao⟩:=h;refine⟨v1,v2,?_,ao.ok aa⟩;show _=[Value.bool (decide (x.rt.z<0)),v1,v2];rw[fW adm,(sL aa).1]
theorem dD.FR{J:aj}{e:TypeId}{v:Value}{l:List cf}(h:dD J e 3 (mY J) v l)(bn:k5 l):dD J e 3 (pR J) v ((iJ l).map fun p:Nat=>bk (p:Int) (g1 l)):=by
 rw[UD bn];obtain⟨cs,ad,ae⟩:=h;refine⟨cs,by rw[j0];exact ad,fun i r ao=>?_⟩;rw[lC] at ao;obtain⟨x,aa,rfl⟩:=xe.1 ao;exact(ae i x aa).ok (bn x (et aa))
section
variable {Q:c7 Tryz.prog}{g0:Nat}{J:aj}
theorem agJ{ps dO:List Nat}{sa b6:Nat}{b b':Option Addr}{c c':Nat}(h:dD J 37 3 (pR J) (.slice b ps.length c) (ps.map fun p:Nat=>bk (p:Int) sa))(hd:dD J 37 3 (pR J) (.slice b' dO.length c') (dO.map fun p:Nat=>bk (p:Int) b6))(yf:0<sa)(qf:0<b6)(aF:(ag sa).length<=3000)(ai:(ag b6).length<=3000)(aw:ps.sum=sa)(bQ:dO.sum=b6)(aq:ps.length<=1000)(l9:ps.length=dO.length):
 Fn (aU Q g0) 31 [.slice b ps.length c,.slice b' dO.length c'] [] J (tG J (bk (gT sa b6 ps dO:Int) (sa*b6*2))):=by
 have k6:addrEq b b=true:=h.addr;have NN:addrEq b' b'=true:=hd.addr;obtain⟨_,eU⟩:=h.at;obtain⟨_,H2⟩:=hd.at;rw[j0] at eU H2;have cp:0<sa*b6:=jr yf qf;have zQ:(ag (sa*b6)).length<=6000:=pn aF ai;have oM:bk ((0:Nat):Int) (sa*b6)=⟨0,1⟩:=yJ cp;have Ez:(ag (sa*b6+sa*b6)).length<=6001:=MZ zQ zQ;have kt:∀i,(ag (gT sa b6 (ps.take i) (dO.take i))).length<=6001:=fun i=>by
  have:=aeZ (sa:=sa) (b6:=b6) (ps:=ps) (dO:=dO) (i:=i);rw[aw,bQ,dP b6 sa] at this;exact cX (nD this) Ez
 refine Fn.b5 (b2 Tryz.func31) rfl rfl fun H=>?_;refine rg ?_;refine fa fun cQ=>?_;refine Jo ?_;refine bC (G:=Dl (z:=0) bI) (h:=?_);rintro v' m' bu hle ⟨aY,rfl,dW,fi,rfl,bM⟩;have ch:=bM;obtain⟨D2,sF,rfl,Ur⟩:=bM.n.bA;obtain⟨PB,hC,rfl,acV⟩:=bM.d.bA;refine fa fun dw=>?_;refine U 0x6af81671c ?_;refine c3 [(6,.int .i64 ((0):Int)),(0,_),(1,_),(4,_),(5,_)] ?_;refine a2 ?_;refine' az.bH (fun(bK:Nat×Value×Value×aj)=>match bK with|(i,bl,b7,cq)=>⟨[(6,.int .i64 (i:Int))],[(dw,.row [.bool false,bl,b7] 37),(cQ,.row [.bool false,.slice none 0 0,.slice none 0 0] 37)],cq,i<=ps.length/\J.le cq/\f' cq (bk ((gT sa b6 (ps.take i) (dO.take i):Nat):Int) (sa*b6)) bl b7,ps.length -i⟩) ⟨0,.slice D2 _ sF,.slice PB _ hC,bu⟩ ?hs ?a7
 case hs=>exact⟨c5 _,aY,by rw[fO,fO];show f' bu (bk ((0:Nat):Int) (sa*b6)) _ _;rw[oM];exact ch⟩
 case a7=>
  rintro⟨i,bl,b7,cq⟩ hinv;try simp only at hinv
  obtain⟨ak,cA,bM⟩:=hinv;have kH:=bM;obtain⟨bV,cc,rfl,bt⟩:=bM.n.bA;obtain⟨dx,ej,rfl,du⟩:=bM.d.bA;refine U 0x5f0428439 ?_;refine If (fun kn=>?_) fun kn=>?_
  ·obtain⟨a,off,cells,bD,rfl,l6,hD⟩:=eU I;obtain⟨r,cs,ao,g3,mx,v1,v2,rfl,c1⟩:=hD i I I;rw[gG,lC] at ao;obtain⟨p,Ch,rfl⟩:=xe.1 ao;have l6:=cA _ _ l6;have p2:=c1.mono cA;obtain⟨a',bb,rfl,aL⟩:=c1.n.bA;obtain⟨bf,br,rfl,aG⟩:=c1.d.bA;obtain⟨b0,gw,cells',aS,rfl,HV,R6⟩:=H2 I;obtain⟨cv,cG,IB,anc,anQ,av8,av9,rfl,BR⟩:=R6 i I I;rw[gG,lC] at IB;obtain⟨q,IA,rfl⟩:=xe.1 IB;have HV:=cA _ _ HV;have HY:=BR.mono cA;obtain⟨fs,gl,rfl,fU⟩:=BR.n.bA;obtain⟨fb,eo,rfl,ih⟩:=BR.d.bA;have Ci:=cX (Jc (et Ch)) (DN aw);have SF:=cX (Jc (et IA)) (DN bQ);have dB:=Vj (sa:=sa) (b6:=b6) Ch IA;have zZ:(ag ((p:Int)*b6+-(q:Int)*sa).natAbs).length<=6001:=by
    refine cX (nD ?_) (kt (i+1));rw[dB,oY,<-KF];omega
   have dW:=Ft (n:=(p:Int)) yf (cX (nD Ci) aF) aF;have Ki:=Ft (n:=(q:Int)) qf (cX (nD SF) ai) ai;have Kj:(ag (-(bk (q:Int) b6).z).natAbs).length<=3000:=by rw[AX];exact Ki.1
   have Dm:=Ft (n:=(gT sa b6 (ps.take i) (dO.take i):Int)) cp (kt i) (cX zQ bI);have ae':=Ft (n:=(((p:Int)*b6+-(q:Int)*sa).natAbs:Int)) cp zZ (cX zQ bI);have hz:=tg (X:=gT sa b6 (ps.take i) (dO.take i)) cp;have iX:=tg (X:=gT sa b6 (ps.take (i+1)) (dO.take (i+1))) cp;have l1:bk ((bk (p:Int) sa).z*(bk (q:Int) b6).d+-(bk (q:Int) b6).z*(bk (p:Int) sa).d) ((bk (p:Int) sa).d*(bk (q:Int) b6).d)=bk ((p:Int)*b6+-(q:Int)*sa) (sa*b6):=by
    have aW:=ab8 (X:=(q:Int)) qf;have aT:=Nn (X:=(p:Int)) (Y:=-(q:Int)) yf qf;rw[<-aW] at aT;exact aT
   have tu:=ab6 (X:=(p:Int)*b6+-(q:Int)*sa) cp;have og:=T1 (X:=(gT sa b6 (ps.take i) (dO.take i):Int)) (Y:=(((p:Int)*b6+-(q:Int)*sa).natAbs:Int)) cp;have AQ:(gT sa b6 (ps.take i) (dO.take i):Int)+(((p:Int)*b6+-(q:Int)*sa).natAbs:Int)=(gT sa b6 (ps.take (i+1)) (dO.take (i+1)):Int):=by
    rw[dB,so,oY,<-KF]
   rw[AQ] at og;have Mv:f' cq (⟨-(bk (q:Int) b6).z,(bk (q:Int) b6).d⟩:bx) (.slice fs (ag (bk (q:Int) b6).z.natAbs).length gl) (.slice fb (ag (bk (q:Int) b6).d).length eo):=⟨by show cS cq _ (-(bk (q:Int) b6).z).natAbs;rw[AX];exact HY.n,HY.d⟩;refine U 0x17d5f57 ?_;refine az.draw rfl (by kernel_rfl) (a1:=[.val 0,.val 1,.val 2,.val 3,.val 4,.val 5,.val 6,.val 7,.val 8,.bE 9,.b9 [4,3,2,1,0],.bE 10,.b9 [0],.bE 11,.b9 [0],.bE 12,.bE 13]) (by kernel_rfl) ?_;refine U 0x3cc3042c3042c ?_;refine' bz.dE rfl rfl rfl rfl rfl rfl rfl rfl rfl dF (abv HY) ?_;rintro v' m' af hle ⟨rfl,rfl,rfl⟩;refine bz.b9 fD ?_;refine' bz.dE rfl rfl rfl rfl rfl rfl rfl rfl rfl (dj (eC rfl) dF) (JN (s:=⟨-(bk (q:Int) b6).z,(bk (q:Int) b6).d⟩) rfl rfl p2 Mv (me yf).1 (me qf).1 I I (by show(ag (-(bk (q:Int) b6).z).natAbs).length<=20000;omega) (by show(ag (bk (q:Int) b6).d).length<=20000;omega)) ?_;rintro v' m' bu aY ⟨_,rfl,e',fj,rfl,ch⟩;rw[l1] at ch;have lh:=ch;obtain⟨iq,fC,rfl,mK⟩:=ch.n.bA;obtain⟨km,hq,rfl,oS⟩:=ch.d.bA;rw[l1];refine bz.b9 fD ?_;refine' bz.dE rfl rfl rfl rfl rfl rfl rfl rfl rfl (dj (eC rfl) (dj (eC rfl) dF)) (auG lh) ?_;rintro v' m' af hle ⟨rfl,rfl,rfl⟩;rw[tu];have eS:f' bu (bk (((p:Int)*b6+-(q:Int)*sa).natAbs:Int) (sa*b6)) (.slice iq _ fC) (.slice km _ hq):=(by rw[<-tu];exact⟨lh.n,lh.d⟩);refine bz.b9 fD ?_;refine' bz.dE rfl rfl rfl rfl rfl rfl rfl rfl rfl (dj (eC rfl) (dj (fun _ aF=>tG.hs aY (by rw[<-l1];exact asK (f'.aex p2 (kH.mono aY) aY rfl (by rw[fW hz]) (lY aF).1) (f'.aex Mv eS aY rfl rfl (lY aF).2)) rfl) (dj (eC rfl) dF))) (JN (r:=bk (gT sa b6 (ps.take i) (dO.take i):Int) (sa*b6)) (s:=bk (((p:Int)*b6+-(q:Int)*sa).natAbs:Int) (sa*b6)) (by rw[fW hz]) rfl (kH.mono aY) eS (me cp).1 (me cp).1 I I I I) ?_
   rintro v' m' gi cR ⟨_,rfl,e',fj,rfl,e1⟩;rw[og] at e1;have jy:=e1;obtain⟨ir,ep,rfl,oT⟩:=e1.n.bA;obtain⟨kT,dp,rfl,oa⟩:=e1.d.bA;rw[og];refine U 0x639e ?_;rw[fW iX];refine U 0x1810c39 ?_;refine dN ⟨i+1,.slice ir _ ep,.slice kT _ dp,gi⟩ ?_ (hm:=.refl _);exact⟨I,((cA.trans aY).trans cR),jy⟩
  ·obtain rfl:i=ps.length:=I
   have Dm:=Ft (n:=(gT sa b6 (ps.take ps.length) (dO.take ps.length):Int)) cp (kt ps.length) (cX zQ bI);have hb:gT sa b6 (ps.take ps.length) (dO.take ps.length)=gT sa b6 ps dO:=by rw[pM,show dO.take ps.length=dO from cU I]
   have hz:=tg (X:=gT sa b6 (ps.take ps.length) (dO.take ps.length)) cp;have ayD:(ag 2).length<=1:=kJ bI;have YD:(ag 1).length<=1:=kJ bI;refine U 0x5f57 ?_;refine az.draw rfl (by kernel_rfl) (a1:=[.val 0,.bE 1,.b9 [0],.bE 2,.bE 3]) (by kernel_rfl) ?_;refine U 0x3cc ?_;refine' bz.dE rfl rfl rfl rfl rfl rfl rfl rfl rfl dF (Dl (z:=2) bI) ?_;rintro v' m' bu hle ⟨aY,rfl,dW,fi,rfl,e1⟩;have ch:=e1;obtain⟨iq,fC,rfl,mK⟩:=e1.n.bA;obtain⟨km,hq,rfl,oS⟩:=e1.d.bA;refine bz.b9 fD ?_;refine' bz.dE rfl rfl rfl rfl rfl rfl rfl rfl rfl (dj (eC rfl) dF) (asx (s:=⟨2,1⟩) (kH.mono aY) ch (me cp).1 bI I I (by show(ag 2).length<=20000;omega) (by show(ag 1).length<=20000;omega) Nat.one_pos) ?_;rintro v' m' gi hle ⟨cR,rfl,e',fj,rfl,e1⟩;have jy:=e1;obtain⟨ir,ep,rfl,oT⟩:=e1.n.bA;obtain⟨kT,dp,rfl,oa⟩:=e1.d.bA;refine U 0x1abe39e ?_;refine bp ?_;have e:bk ((bk (gT sa b6 (ps.take ps.length) (dO.take ps.length):Int) (sa*b6)).z*(((⟨2,1⟩:bx).d:Nat):Int)) ((bk (gT sa b6 (ps.take ps.length) (dO.take ps.length):Int) (sa*b6)).d*(⟨2,1⟩:bx).z.natAbs)=bk (gT sa b6 ps dO:Int) (sa*b6*2):=by rw[hb];exact ab7 cp
   exact⟨(cA.trans aY).trans cR,rfl,_,_,HB e,jy.ahP e⟩
end
section
variable {K:dR}{J vj:aj}{fn:Func}{E:ca}{m m':aN}{bw:List PanicEntry}{hj:Value->aN->aj->Prop}{fQ:List PanicEntry->aN->aj->Prop}
theorem NC(h:fQ bw [] vj)(au:E.ds.ds=[]:=by exact rfl):Leaves K fn (.panic bw) E m vj hj fQ:=⟨_,rfl,.inl ⟨au,.inr ⟨_,[],rfl,i' _,h⟩⟩⟩
end
def Wu(J:aj)(e:Int)(bw:List PanicEntry)(m':aN)(af:aj):Prop:=m'=[]/\J.le af/\e≠0/\bw=[{v:=.iface 87 (.agg #[.int .i64 e]),recovered:=false}]
theorem avQ{l:List cf}(h:k5 l):l4 ((kc l).z.natAbs*(⟨((1:Nat):Int),1⟩:bx).d) ((⟨((1:Nat):Int),1⟩:bx).z.natAbs*(kc l).d)=0↔(iJ l).sum=g1 l:=by
 rw[Xp,<-ael h];have:=J3 h;show(kc l).z.natAbs*1=1*(kc l).d↔_;rw[ha,jb];unfold y0;split
 ·omega
 ·split<;>omega
section
variable {Q:c7 Tryz.prog}{g0:Nat}{J:aj}
theorem aty{l:List cf}{b:Option Addr}{c:Nat}{e:TypeId}(cB:J 2=some (cj .u8 qC,e))(ay:Nat.blt 2 (aU Q g0).g0=true)(h:dD J 37 3 (mY J) (.slice b l.length c) l)(l9:l.length<=1000):
 mQ (aU Q g0) 37 [.slice b l.length c] [] J (fun u m' af=>J.le af/\m'=[]/\mL l=0/\∃b' c',u=.slice b' l.length c'/\dD af 63 3 (lA af) (.slice b' l.length c') ((iJ l).map fun p:Nat=>bk (p:Int) (g1 l))) (Wu J (mL l)):=by
 have k6:addrEq b b=true:=h.addr;obtain⟨_,eU⟩:=h.at;have h':=QD h;refine mQ.b5 (b2 Tryz.func37) rfl rfl fun H=>?_;refine U 0x6059 ?_;refine c4 [0] ?_;refine a2 ?_;refine' az.en 0 [(14,.bool (decide ((l.length<1\/10<l.length))))] ?jh ?ji;case jh=>
  refine U 0x12143a ?_;refine c0 10 (fun g2=>?_) fun g2=>?_
  ·refine U 0x1846f7b ?_;refine di (dk ?_);omega
  ·refine U 0x18410a1 ?_;refine di (dk ?_);omega
 case ji=>
  refine a2 ?_;refine If (fun fc=>?_) fun fc=>?_
  ·have he:=Uz fc;refine U 0x4e19 ?_;refine' W.panic rfl rfl rfl ?_
   exact NC ⟨rfl,aj.le.refl _,by rw[he];decide,by rw[he]⟩
  ·refine U 0x1abe0250e757 ?_;refine c3 [(19,.int .i64 ((0):Int)),(0,_),(17,_),(18,_)] ?_;refine a2 ?_;refine' az.bH (fun(bK:Nat×aj)=>match bK with|(i,cq)=>⟨[(19,.int .i64 (i:Int))],[],cq,i<=l.length/\J.le cq/\k5 (l.take i),l.length -i⟩) ⟨0,J⟩ ?hs ?a7
   case hs=>exact⟨c5 _,aj.le.refl _,ach⟩
   case a7=>
    rintro⟨i,cq⟩ hinv;try simp only at hinv
    obtain⟨ak,cA,bn⟩:=hinv;refine U 0xbe099 ?_;refine If (fun hC=>?_) fun hC=>?_
    ·obtain⟨a,off,cells,bD,rfl,l6,hD⟩:=eU I;obtain⟨x,cs,aa,g3,mx,v1,v2,rfl,c1⟩:=hD i I I;rw[gG] at aa;have l6:=cA _ _ l6;have p2:=c1.mono cA;obtain⟨a',bb,rfl⟩:=c1.n.form;obtain⟨bf,br,rfl⟩:=c1.d.form;refine U 0x30d9d5f57 ?_;refine fa fun cQ=>?_;refine U 0x6671c ?_;refine bC (G:=atw (cA _ _ cB) ay p2) (h:=?_);rintro v' m' cZ hle ⟨rfl,rfl,bG⟩;refine U 0x302 ?_;refine c4 [0,4,5,17,18,19] ?_;refine a2 ?_;refine' az.en 0 [(26,.bool (decide ((nH x≠0))))] ?xH ?xN;case xH=>
      refine U 0xc103a ?_;refine di (dk ?_);omega
     case xN=>
      refine a2 ?_;refine If (fun nV=>?_) fun nV=>?_
      ·
        have hf:=QC nV;have he:=JV fc (by rw[xW bn aa (by rw[hf];exact nV),hf];exact nV);rw[xW bn aa (by rw[hf];exact nV),hf] at he;refine U 0x9c039 ?_;refine' W.panic rfl rfl rfl ?_
        exact NC ⟨rfl,cA.trans bG,by rw[he];exact nV,by rw[he]⟩
      ·
        have nV:nH x=0:=jD fun q=>nV q;refine U 0x5f096e757 ?_;refine If (fun o6=>?_) fun o6=>?_
        ·have hf:=QB nV o6;have he:=JV fc (by rw[xW bn aa (by rw[hf];decide),hf];decide);rw[xW bn aa (by rw[hf];decide),hf] at he;refine U 0x4e19 ?_;refine' W.panic rfl rfl rfl ?_
         exact NC ⟨rfl,cA.trans bG,by rw[he];decide,by rw[he]⟩
        ·have z9:x.neg=false:=o6;have hf:=XV nV z9;have My:k5 (l.take (i+1)):=J2 (P:=fun y=>lJ y=0) bn aa hf;refine U 0x3011e757 ?_;refine dN ⟨i+1,cZ⟩ ?_ (hm:=.cons _ (.refl _));exact⟨I,cA.trans bG,My⟩
    ·have uD:l.take i=l:=cU I;have ph:k5 l:=by
        have:=bn;rw[uD] at this;exact this
     have hs:=tT ph;have m5:=G3 ph h';have n6:=adl ph h';have azj:=CF (g1 l);have azP:=CF (iJ l).sum;have c1:=(dD.mono (R':=mY cq) cA (fun _ _ q=>q.mono cA) h).FR ph;rw[UD ph] at c1;have Zy:=list_fn (Q:=Q) (g0:=g0) (J:=cq) (b:=b) (c:=c) (rs:=l.map cf.rt) (by rw[j0];exact c1) (by rw[j0];omega) (fun r ao=>by
        obtain⟨x,aa,rfl⟩:=A1.1 ao;have he:=XW (ph x aa) (h' x aa);exact⟨(sL (ph x aa)).2.2.2,⟨cX he.1 bI,cX he.2 bI⟩⟩)
     rw[j0,<-UD ph] at Zy;have aoO:∀{af:aj} {bV:Option Addr} {cc:Nat},dD af 63 3 (lA af) (.slice bV l.length cc) ((iJ l).map fun p:Nat=>bk (p:Int) (g1 l))->Fn (aU Q g0) 73 [.slice bV l.length cc] [] af (pS af (kc l)):=fun{af bV cc} gJ=>by
        have:=avS (Q:=Q) (g0:=g0) (ps:=iJ l) (s:=g1 l) (b:=bV) (c:=cc) (J:=af) (by rw[tn];exact gJ) hs I I (by rw[tn];omega);rw[tn] at this;exact this
     have qc:=J3 ph;have R0:h2 10000 (kc l):=zP hs I I;have p9:h2 1 (⟨((1:Nat):Int),1⟩:bx):=h2.mk (by show(aO 1).length<=1;exact yG bI) (by show(aO 1).length<=1;exact yG bI);have wk:=avQ ph;refine U 0xe757 ?_;refine bC (G:=Zy) (h:=?_);rintro v' m' bu aY ⟨_,rfl,bV,cc,rfl,gJ⟩;have bt:addrEq bV bV=true:=gJ.addr;refine U 0xe702 ?_;refine bC (G:=aoO gJ) (h:=?_);rintro v' m' cZ bG ⟨_,rfl,bl,b7,rfl,bM⟩;have kH:=bM;obtain⟨dx,e9,ej,rfl,du,_,_⟩:=bM.n.bN;obtain⟨fs,hv,gl,rfl,fU,_,_⟩:=bM.d.bN;refine bC (G:=Tj (n:=1) bI) (h:=?_);rintro v' m' gi cR ⟨_,rfl,bl,b7,rfl,ch⟩;have lh:=ch;obtain⟨fb,fe,eo,rfl,ih,_,_⟩:=ch.n.bN;obtain⟨iq,mG,fC,rfl,mK,_,_⟩:=ch.d.bN;refine bC (G:=Xq (kH.mono cR) lh (N7 ph) ⟨by decide,by decide⟩ I bI R0 p9 I I) (h:=?_);rintro v' m' qI gE ⟨rfl,rfl,_⟩;refine U 0x5f04 ?_;refine If (fun vJ=>?_) fun vJ=>?_
     ·have he:=UA fc ph (fun q=>vJ (wk.2 q));refine U 0x4e19 ?_;refine' W.panic rfl rfl rfl ?_
      exact NC ⟨rfl,cA.trans (aY.trans (bG.trans (cR.trans gE))),by rw[he];decide,by rw[he]⟩
     ·have he:=adb fc ph (wk.1 (jD fun q=>vJ q));refine U 0xd5f020e757 ?_;exact LE (m':=[]) ⟨cA.trans (aY.trans (bG.trans (cR.trans gE))),rfl,he,bV,cc,rfl,dD.mono (R':=lA qI) (bG.trans (cR.trans gE)) (fun _ _ q=>q.mono (bG.trans (cR.trans gE))) gJ⟩
end
end
end Go.Opn
