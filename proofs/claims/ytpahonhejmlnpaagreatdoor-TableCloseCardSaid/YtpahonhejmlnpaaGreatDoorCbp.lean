/- A part of the proof of TableClose. -/
import Derived.Test.YtpahonhejmlnpaaGreatDoorCbo
import Derived.Test.YtpahonhejmlnpaaGreatDoorCbn
set_option maxRecDepth 100000
set_option maxHeartbeats 8000000
set_option linter.unusedVariables false
set_option linter.unusedSimpArgs false
namespace Go.Opn
noncomputable section
open Go.Cre Go.RowKit Go.Proofs
theorem kq.af{J pG:an}{r px:cH}(hle:pG.le J)(dT:px=r){bU:aU}(hm:bU=[]):bU=[]/\pG.le J/\∀v m' bq dR,kq pG px v m' bq->bq.le dR->J.le dR->kq J r v m' dR:=
 ⟨hm,hle,fun v m' bq dR ⟨_,ab,bh,cb,aY,bu⟩ gI hK=>⟨hK,ab,bh,cb,by subst dT;exact aY,by subst dT;exact bu.mono gI⟩⟩
theorem ac5{a b:Int}(a0:a*b≠0):(decide ((decide (a<0))≠(decide (b<0))))=decide (a*b<0):=by
 have aK:a≠0:=fun h=>a0 (by rw[h,uW]);have ah:b≠0:=fun h=>a0 (by rw[h,KN]);by_cases aa:a<0
 ·by_cases ab:b<0
  ·have:=Sm aa ab
   rw[g2 aa,g2 ab,e8 (show ¬a*b<0 by omega)];rfl
  ·have:=wZ aa (show 0<b by omega)
   rw[g2 aa,e8 ab,g2 this];rfl
 ·by_cases ab:b<0
  ·have:=KM (show 0<a by omega) ab
   rw[e8 aa,g2 ab,g2 this];rfl
  ·have:=Int.mul_pos (show 0<a by omega) (show 0<b by omega)
   rw[e8 aa,e8 ab,e8 (show ¬a*b<0 by omega)];rfl
section
variable {Q:ek Tryz.prog}{g0:Nat}{J:an}
theorem ac7{n:Nat}(aw:n<1000000000000000000):Fn (aO Q g0) 31 [.int .i64 (-(n:Int))] [] J (kp J n):=by
 have aA:(ap n).length<=2:=l9 (jL aw (by decide));refine Fn.ck (ch Tryz.func31) rfl rfl fun H=>?_;refine rg ?_;refine I V.aI ?_;refine bb ?_;refine I V.aI ?_;refine aD ?_;refine ad.block ?_;refine' ad.eH (l':=[(0,.int .i64 (-((n):Int))),(3,(.slice none 0 0))]) ⟨?w0,?dD,trivial⟩ (cd _) ?_;case w0=>first|exact cq|exact aj some (aj (Value.int .u64) (by omega))|exact aj some (aj (Value.int .i64) (by omega))
 case dD=>first|exact cq|exact aj some (aj (Value.int .u64) (by omega))|exact aj some (aj (Value.int .i64) (by omega))
 refine aG ?_;refine' ad.b0 (fun(cG:Nat×(List Nat)×Value×aU)=>match cG with|(c,out,dD,ba)=>⟨[(0,.int .i64 (-(c:Int))),(3,dD)],ba,J,c<=n/\out++ap c=ap n/\Acc 40 1 dD out.length (ca .u32 out) ba,c⟩) ⟨n,[],.slice none 0 0,[]⟩ ?af ?bT
 case af=>exact⟨c5 _,rfl,.nil⟩
 case bT=>
  rintro⟨c,out,dD,ba⟩ hinv;try simp only at hinv
  obtain⟨aL,ag,dr⟩:=hinv;refine rg ?_;refine I V.aJ ?_;refine I V.a' ?_;refine aD ?_;refine If (fun dU=>?_) fun dU=>?_
  ·have jO:c≠0:=by omega
   have h4:out.length<=2:=by
    have:=aj List.length ag;rw[g1] at this;omega
   have p9:(-(c:Int)).tmod 1000000000=-((c % 1000000000:Nat):Int):=by rw[Int.neg_tmod];exact aj Neg.neg (uV c 1000000000).symm
   have sG:(-(c:Int)).tdiv 1000000000=-((c / 1000000000:Nat):Int):=by rw[Int.neg_tdiv];exact aj Neg.neg (oJ c 1000000000).symm
   have Yg:IntKind.i64.wrap (-(-((c % 1000000000:Nat):Int)))=((c % 1000000000:Nat):Int):=by rw[Int.neg_neg];exact wrap_i64 (by omega) (by omega)
   have rD:max (-((c % 1000000000:Nat):Int)) ((c % 1000000000:Nat):Int)=((c % 1000000000:Nat):Int):=by omega
   have hw:IntKind.u32.wrap ((c % 1000000000:Nat):Int)=((c % 1000000000:Nat):Int):=wrap_u32 (by omega) (by omega);have ny:IntKind.i64.wrap (-((c / 1000000000:Nat):Int))=-((c / 1000000000:Nat):Int):=wrap_i64 (by omega) (by omega);refine e4 ?_;refine aG ?_;refine ad.block ?_;refine rg ?_;refine I V.aJ ?_;refine I V.ha ?_;refine I V.aI ?_;refine bR ?_;rw[p9];refine rg ?_;refine aH ?_;refine' W.step rfl (Exec.val rfl rfl (uP rfl rfl ?hw) ?_);case hw=>first|exact wrap_i64 (by omega) (by omega)|exact wrap_u8 (by omega) (by omega)|exact wrap_u64 (by omega) (by omega)|exact wrap_u32 (by omega) (by omega)|rfl
   refine' W.step rfl (Exec.val rfl rfl (yU rfl rfl rfl rfl rfl) ?_);first|rw[Yg,rD]|rw[show max (-((c % 1000000000:Nat):Int)) (-(-((c % 1000000000:Nat):Int)))=((c % 1000000000:Nat):Int) by omega]
   refine I V.gk ?_;refine ja (iy Q g0) fun q1=>?_;refine' W.step rfl (.of (nL rfl rfl rfl rfl rfl rfl (iy Q g0) (tm Q g0) (fun i q=>by cases q) ?dr ?hm ?U ?dI ?dP ?aA fun B0 Bf Hk Zf=>?_));case dr=>exact dr
   case hm=>exact(tu _ ba).symm
   case U=>exact qz
   case dI=>first|rfl|(simp;done)|(simp;omega)
   case dP=>first|rfl|exact rM _
   case aA=>exact(show out.length+1<=1000000 by omega)
   refine I V.aI ?_;refine bb ?_;refine I V.aJ ?_;refine I V.ha ?_;refine I V.aI ?_;refine bR ?_;rw[sG,ny];have bT:c / 1000000000<=n/\(out++[c % 1000000000])++ap (c / 1000000000)=ap n/\Acc 40 1 B0 (out++[c % 1000000000]).length (ca .u32 (out++[c % 1000000000])) Bf:=⟨by omega,D5 jO ag,by rw[wh,g1];exact Hk⟩;refine gF ⟨c / 1000000000,out++[c % 1000000000],B0,Bf⟩ ?_ (hm:=nR _ _);exact bT
  ·obtain rfl:c=0:=by omega
   rw[kh,jr] at ag;refine Acc.m0 dr (.of_eq (jr ba).symm) fun bq a8 ak=>?_;rw[ag] at ak;refine aG ?_;refine ad.exit ?_;refine rg ?_;refine aH ?_;refine aD ?_;refine ad.ret ?_;refine'⟨.inr rfl,rfl,_,[],.tmp rfl .nil,bZ _,⟨a8,rfl,ak⟩⟩
theorem ac9{z:Int}(a0:z.natAbs<1000000000000000000):Fn (aO Q g0) 31 [.int .i64 z] [] J (kp J z.natAbs):=by
 rcases Int.natAbs_eq z with e|e
 ·have h:=JP (Q:=Q) (g0:=g0) (J:=J) a0
  rw[<-e] at h;exact h
 ·have h:=ac7 (Q:=Q) (g0:=g0) (J:=J) a0
  rw[<-e] at h;exact h
theorem Ko{z:Int}(a0:z.natAbs<1000000000000000000):Fn (aO Q g0) 9 [.int .i64 z] [] J (kq J (⟨z,1⟩:cH)):=by
 have aA:(ap z.natAbs).length<=2:=l9 (jL a0 (by decide));have aa:(ap 1).length<=100:=eh (l9 (k:=1) (by decide)) (by decide);have AB:aV z 1=(⟨z,1⟩:cH):=Bp (r:=⟨z,1⟩) ⟨Nat.one_pos,Lg _⟩;refine Fn.ck (ch Tryz.func9) rfl rfl fun H=>?_;refine rg ?_;refine' W.step rfl (.of (eS rfl rfl rfl (jY Q g0) rfl rfl rfl fun bX=>?_));refine bb ?_;refine I V.aJ ?_;refine I V.a' ?_;refine I V.aJ ?_;refine b4 (G:=ac9 a0) (h:=?_);rintro v' m' bq hle ⟨a8,rfl,eL⟩;refine ja (iy Q g0) fun fI=>?_;refine W.dB rfl fun bO xF=>?_;refine b4 (G:=yt (z:=z) Nat.one_pos rfl (fun _=>rfl) (eL.f'.mono bO) (IM xF) (by omega) aa) (h:=?_);rintro v' m' dR hle ⟨cL,rfl,fy,fF,rfl,bY⟩;rw[AB] at bY ⊢;have cK:=bY;obtain⟨hI,e7,rfl,lo⟩:=bY.n.cU;obtain⟨i',dq,rfl,ln⟩:=bY.d.cU;refine eG ?_;refine aD ?_;refine ad.ret ?_;refine'⟨.inr rfl,rfl,_,[],.cell rfl (by repeat first|exact .head _|refine .tail _ ?_|refine d' _ ?_) (fb (dw rfl) rfl) (.nil),bZ _,⟨a8.trans (bO.trans cL),rfl,_,_,rfl,cK⟩⟩
theorem acw{n d:Nat}(aw:n<1000000000000000000)(au:d<1000000000000000000)(gm:0<d):Fn (aO Q g0) 18 [.int .i64 (n:Int),.int .i64 (d:Int)] [] J (kq J (aV (n:Int) d)):=by
 have aA:(ap n).length<=2:=l9 (jL aw (by decide));have fZ:(ap d).length<=2:=l9 (jL au (by decide));refine Fn.ck (ch Tryz.func18) rfl rfl fun H=>?_;refine rg ?_;refine' W.step rfl (.of (eS rfl rfl rfl (jY Q g0) rfl rfl rfl fun c0=>?_));refine bb ?_;refine I V.aJ ?_;refine I V.a' ?_;refine I V.aJ ?_;refine I V.a' ?_;refine' W.step rfl (Exec.val rfl rfl (uO rfl rfl rfl (.inr ⟨rfl,rfl⟩) (by kernel_rfl)) ?_);refine I V.aJ ?_;refine b4 (G:=JP aw) (h:=?_);rintro v' m' bq hle ⟨a8,rfl,eL⟩;have gr:=eL.f';obtain⟨eU,e2,rfl,fm⟩:=gr.cU;refine I V.aJ ?_;refine b4 (G:=JP au) (h:=?_);rintro v' m' dR hle ⟨bO,rfl,ep⟩;have h2:=ep.f';obtain⟨eP,dU,rfl,ho⟩:=h2.cU;refine b4 (G:=yt (z:=(n:Int)) gm rfl (fun _=>by rw[e8 (show ¬((n:Nat):Int)<0 by omega),e8 (show ¬((d:Nat):Int)<0 by omega)];rfl) (gr.mono bO) h2 (by show(ap n).length<=100;omega) (by omega)) (h:=?_);rintro v' m' fV hle ⟨cL,rfl,fy,fF,rfl,bY⟩;have cK:=bY;obtain⟨hI,e7,rfl,lo⟩:=bY.n.cU;obtain⟨i',dq,rfl,ln⟩:=bY.d.cU;refine eG ?_;refine aD ?_;refine ad.ret ?_;refine'⟨.inr rfl,rfl,_,[],.cell rfl (by repeat first|exact .head _|refine .tail _ ?_|refine d' _ ?_) (fb (dw rfl) rfl) (.nil),bZ _,⟨a8.trans (bO.trans cL),rfl,_,_,rfl,cK⟩⟩
theorem J4{r s:cH}{v1 v2 bh cb:Value}(al:iD J r v1 v2)(af:iD J s bh cb)(rd:0<r.d)(gM:0<s.d)(fM:(ap r.z.natAbs).length<=10)(fg:(ap r.d).length<=10)(iu:(ap s.z.natAbs).length<=10)(jS:(ap s.d).length<=10):Fn (aO Q g0) 8 [cO r v1 v2,cO s bh cb] [] J (kq J (aV (r.z*s.z) (r.d*s.d))):=by
 have dL:=al;have gf:=af;obtain⟨br,bn,rfl,aR⟩:=al.n.cU;obtain⟨bN,bQ,rfl,aN⟩:=al.d.cU;obtain⟨cW,cZ,rfl,bG⟩:=af.n.cU;obtain⟨dj,dH,rfl,dd⟩:=af.d.cU;have IG:(ap (r.z.natAbs*s.z.natAbs)).length<=20:=A5 fM iu;have ZU:(ap (r.d*s.d)).length<=20:=A5 fg jS;refine Fn.ck (ch Tryz.func8) rfl rfl fun H=>?_;refine rg ?_;refine fc fun bX=>?_;refine fc fun cy=>?_;refine' W.step rfl (.of (eS rfl rfl rfl (jY Q g0) rfl rfl rfl fun c0=>?_));refine aD ?_;refine ad.draw rfl (by kernel_rfl) (a2:=[.val 0,.val 1,.val 2,.val 3,.val 4,.val 5,.val 6,.val 7,.val 8,.val 10,.val 11,.val 12,.val 13,.bA 9,.b2 [13,12,11,10,4,3,2,1,0],.bA 14,.b2 [4,3,2,1,0],.bA 15,.bA 16]) (by kernel_rfl) ?_;refine a6 rfl V.cF ?_;refine a6 rfl V.cP ?_;refine a6 rfl V.cF ?_;refine a6 rfl V.cP ?_;refine' bi.val rfl rfl rfl rfl (uO rfl rfl rfl (.inr ⟨rfl,rfl⟩) (by kernel_rfl)) ?_;refine a6 rfl V.cF ?_;refine a6 rfl V.cP ?_;refine a6 rfl V.cF ?_;refine a6 rfl V.cP ?_;refine a6 rfl V.cF ?_;refine a6 rfl V.cP ?_;refine a6 rfl V.cF ?_;refine a6 rfl V.cP ?_;refine bi.iU ?_;refine' aS.dO rfl rfl rfl rfl rfl rfl rfl rfl rfl c8 (tk dL.n gf.n (by omega) (by omega)) ?_;rintro v' m' bq a8 ⟨_,rfl,eL⟩;have gr:=eL.f';obtain⟨eU,e2,rfl,fm⟩:=gr.cU;refine aS.b2 ⟨?lk,?a9,?a4,?bJ,?cx,?fL,?iT,?l7,?nE,trivial⟩ ?_;case lk=>
  refine' fH.val rfl rfl rfl (kG rfl rfl ?al (iV (dw rfl) ?ay)) rfl ?he;case al=>exact qr
  case ay=>first|rfl|assumption
  case he=>exact hB
 case a9=>
  refine' fH.val rfl rfl rfl (wL rfl rfl (wH rfl rfl)) rfl ?he;case he=>exact hB
 case a4=>
  refine' fH.val rfl rfl rfl (kG rfl rfl ?al (iV (dw rfl) ?ay)) rfl ?he;case al=>exact qr
  case ay=>first|rfl|assumption
  case he=>exact hB
 case bJ=>
  refine' fH.val rfl rfl rfl (wL rfl rfl (wH rfl rfl)) rfl ?he;case he=>exact hB
 case cx=>
  refine' fH.val rfl rfl rfl (uO rfl rfl rfl (.inr ⟨rfl,rfl⟩) (by kernel_rfl)) rfl ?he;case he=>exact hB
 case fL=>
  refine' fH.val rfl rfl rfl (kG rfl rfl ?al (iV (dw rfl) ?ay)) rfl ?he;case al=>exact qr
  case ay=>first|rfl|assumption
  case he=>exact hB
 case iT=>
  refine' fH.val rfl rfl rfl (wL rfl rfl (wH rfl rfl)) rfl ?he;case he=>exact hB
 case l7=>
  refine' fH.val rfl rfl rfl (kG rfl rfl ?al (iV (dw rfl) ?ay)) rfl ?he;case al=>exact qr
  case ay=>first|rfl|assumption
  case he=>exact hB
 case nE=>
  refine' fH.val rfl rfl rfl (wL rfl rfl (wH rfl rfl)) rfl ?he;case he=>exact hB
 refine' aS.dO rfl rfl rfl rfl rfl rfl rfl rfl rfl (cj (fun _ aK=>kp.af a8 (by rw[dL.n.wK (dL.d.mono a8) a8 (k0 aK).1,gf.n.wK (gf.d.mono a8) a8 (k0 aK).2]) rfl) c8) (tk (dL.d.mono a8) (gf.d.mono a8) (by omega) (by omega)) ?_;rintro v' m' dR bO ⟨_,rfl,ep⟩;have h2:=ep.f';obtain⟨eP,dU,rfl,ho⟩:=h2.cU;refine aS.b2 ⟨?lk,?a9,?a4,?bJ,?cx,trivial⟩ ?_;case lk=>
  refine' fH.val rfl rfl rfl (uO rfl rfl rfl (.inr ⟨rfl,rfl⟩) (by kernel_rfl)) rfl ?he;case he=>exact hB
 case a9=>
  refine' fH.val rfl rfl rfl (kG rfl rfl ?al (iV (dw rfl) ?ay)) rfl ?he;case al=>exact qr
  case ay=>first|rfl|assumption
  case he=>exact hB
 case a4=>
  refine' fH.val rfl rfl rfl (wL rfl rfl (wH rfl rfl)) rfl ?he;case he=>exact hB
 case bJ=>
  refine' fH.val rfl rfl rfl (kG rfl rfl ?al (iV (dw rfl) ?ay)) rfl ?he;case al=>exact qr
  case ay=>first|rfl|assumption
  case he=>exact hB
 case cx=>
  refine' fH.val rfl rfl rfl (wL rfl rfl (wH rfl rfl)) rfl ?he;case he=>exact hB
 refine' aS.dO rfl rfl rfl rfl rfl rfl rfl rfl rfl (cj (cT rfl) (cj (cT rfl) c8)) (yt (z:=r.z*s.z) (hV rd gM) (jo _ _) (fun a0=>ac5 a0) (gr.mono bO) h2 (by omega) (by omega)) ?_;rintro v' m' fV cL ⟨_,rfl,fy,fF,rfl,bY⟩;have cK:=bY;obtain⟨hI,e7,rfl,lo⟩:=bY.n.cU;obtain⟨i',dq,rfl,ln⟩:=bY.d.cU;refine aS.jj (fun x U=>ju (f:=fun x=>(x.f,x.cl)) U) ?_;refine k7 rfl ?_;refine bi.nil ?_;refine aG ?_;refine ad.ret ?_;refine'⟨.inr rfl,rfl,_,[],.cell rfl (by repeat first|exact .head _|refine .tail _ ?_|refine d' _ ?_) (fb (dw rfl) rfl) (.nil),bZ _,⟨(a8.trans bO).trans cL,rfl,_,_,rfl,cK⟩⟩
theorem ac8{r:cH}{v1 v2:Value}(al:iD J r v1 v2):Fn (aO Q g0) 11 [cO r v1 v2] [] J (fun u m' ae=>u=cO ⟨(r.z.natAbs:Int),r.d⟩ v1 v2/\m'=[]/\J=ae):=by
 obtain⟨br,bn,rfl,aR⟩:=al.n.cU;obtain⟨bN,bQ,rfl,aN⟩:=al.d.cU;refine Fn.ck (ch Tryz.func11) rfl rfl fun H=>?_;refine rg ?_;refine fc fun bx=>?_;refine' W.step rfl (.of (eS rfl rfl rfl (jY Q g0) rfl rfl rfl fun bX=>?_));refine bb ?_;refine I V.cF ?_;refine eG ?_;refine bb ?_;refine I V.gU ?_;refine eG ?_;refine aD ?_;refine ad.ret ?_;refine'⟨.inr rfl,rfl,_,[],.cell rfl (by repeat first|exact .head _|refine .tail _ ?_|refine d' _ ?_) (fb (dw rfl) rfl) (.nil),bZ _,⟨by rw[show cO ⟨(r.z.natAbs:Int),r.d⟩ (.slice br (ap r.z.natAbs).length bn) (.slice bN (ap r.d).length bQ)=.agg #[.bool (decide ((r.z.natAbs:Int)<0)),.slice br (ap r.z.natAbs).length bn,.slice bN (ap r.d).length bQ] from rfl,e8 (show ¬(r.z.natAbs:Int)<0 by omega)];rfl,rfl,rfl⟩⟩
theorem Td{v w:Value}{l:List Nat}(aA:l.length<=1000)(aa:de .i64 J v l)(ab:de .i64 J w l):Fn (aO Q g0) 65 [v,w] [] J (fun u m' ae=>m'=[]/\J=ae/\u=.bool true):=by
 obtain⟨br,bn,rfl⟩:=aa.form;obtain⟨bN,bQ,rfl⟩:=ab.form;refine Fn.ck (ch Tryz.func65) rfl rfl fun H=>?_;refine rg ?_;refine I V.aI ?_;refine bb ?_;refine aH ?_;refine I V.a' ?_;refine aD ?_;refine If (fun dq=>?_) fun dq=>?_
 ·exfalso;exact dq rfl
 ·refine aG ?_;refine ad.skip ?_;refine rg ?_;refine I V.aI ?_;refine aD ?_;refine ad.block ?_;refine' ad.eH (l':=[(5,.int .i64 ((0):Int)),(0,_),(1,_)]) ⟨?gh,rfl,rfl,trivial⟩ (cd _) ?_;case gh=>first|exact cq|exact aj some (aj (Value.int .u64) (by omega))|exact aj some (aj (Value.int .i64) (by omega))
  refine aG ?_;refine' ad.mQ (α:=(Nat)) (fun(i:Nat)=>[(5,.int .i64 (i:Int))]) (fun(i:Nat)=>i<=l.length) (fun(i:Nat)=>l.length -i) (0) ?af ?bT;case af=>exact fB _
  case bT=>
   rintro i hinv;try simp only at hinv
   have ar:=hinv;refine rg ?_;refine aH ?_;refine I V.a' ?_;refine aD ?_;refine If (fun gQ=>?_) fun gQ=>?_
   ·obtain⟨a,o,oV,e,rfl,fu,ay⟩:=aa.at (by omega);obtain⟨bE,o',vm,bk,rfl,tT,pd⟩:=ab.at (by omega);obtain⟨p,ao,h3⟩:=ay i (by omega);obtain⟨q,cc,x4⟩:=pd i (by omega);have h3:nth oV (o+((i:Int)).toNat*1)=some (.int .i64 (p:Int)):=h3;have x4:nth vm (o'+((i:Int)).toNat*1)=some (.int .i64 (q:Int)):=x4;obtain rfl:p=q:=Lu (ao.symm.trans cc);refine e4 ?_;refine aG ?_;refine ad.block ?_;refine aG ?_;refine ad.draw rfl (by kernel_rfl) (a2:=[.val 0,.val 1,.val 2,.val 3,.val 4,.val 5,.val 6,.val 7,.val 8]) (by kernel_rfl) ?_;refine e3 ?_;refine a6 rfl V.bj ?_;refine a6 rfl V.c2 ?_;refine e3 ?_;refine a6 rfl V.bj ?_;refine a6 rfl V.c2 ?_;refine a6 rfl V.a' ?_;refine bi.nil ?_;refine aG ?_;refine If (fun sq=>?_) fun sq=>?_
    ·exfalso;exact sq rfl
    ·refine aG ?_;refine ad.skip ?_;refine rg ?_;refine I V.aJ ?_;refine I V.bW ?_;refine I V.aI ?_;refine bR ?_;refine'⟨(i+1),_,?hinv,?hh,rfl,⟨?mT,rfl,rfl,trivial⟩,cd _,rfl⟩;case mT=>first|exact cq|exact aj some (aj (Value.int .u64) (by omega))|exact aj some (aj (Value.int .i64) (by omega))
     case hh=>exact bS
     case hinv=>exact(by omega)
   ·refine aG ?_;refine ad.exit ?_;refine rg ?_;refine I V.aI ?_;refine aD ?_;refine ad.ret ?_;refine'⟨.inr rfl,rfl,_,[],.tmp rfl .nil,bZ _,⟨rfl,rfl,rfl⟩⟩
theorem Te{l:List Nat}(aA:l.length<=1000){a o c bE o' bw:Nat}{oV vm:List Value}{e bk:TypeId}{w a7:Value}(fu:J a=some (oV,e))(ay:nth oV (o+((0:Nat):Int).toNat*1)=some w)(aa:de .i64 J w l)(tT:J bE=some (vm,bk))(pd:nth vm (o'+((0:Nat):Int).toNat*1)=some a7)(ab:de .i64 J a7 l):Fn (aO Q g0) 38 [.slice (some ⟨a,o,none⟩) 1 c,.slice (some ⟨bE,o',none⟩) 1 bw] [] J (fun u m' ae=>m'=[]/\J=ae/\u=.bool true):=by
 have g3:=aa;have hb:=ab;obtain⟨br,bn,rfl⟩:=aa.form;obtain⟨bN,bQ,rfl⟩:=ab.form;have aR:=aa.addr;have aN:=ab.addr;refine Fn.ck (ch Tryz.func38) rfl rfl fun H=>?_;refine rg ?_;refine I V.aI ?_;refine bb ?_;refine aH ?_;refine I V.a' ?_;refine aD ?_;refine If (fun dq=>?_) fun dq=>?_
 ·exfalso;exact dq rfl
 ·refine aG ?_;refine ad.skip ?_;refine rg ?_;refine I V.aI ?_;refine aD ?_;refine ad.block ?_;refine' ad.eH (l':=[(5,.int .i64 ((0):Int)),(0,_),(1,_)]) ⟨?gh,rfl,rfl,trivial⟩ (cd _) ?_;case gh=>first|exact cq|exact aj some (aj (Value.int .u64) (by omega))|exact aj some (aj (Value.int .i64) (by omega))
  refine aG ?_;refine' ad.mQ (α:=(Nat)) (fun(i:Nat)=>[(5,.int .i64 (i:Int))]) (fun(i:Nat)=>i<=1) (fun(i:Nat)=>1 -i) (0) ?af ?bT;case af=>exact fB _
  case bT=>
   rintro i hinv;try simp only at hinv
   have ar:=hinv;refine rg ?_;refine aH ?_;refine I V.a' ?_;refine aD ?_;refine If (fun gQ=>?_) fun gQ=>?_
   ·obtain rfl:i=0:=by omega
    refine e4 ?_;refine aG ?_;refine ad.block ?_;refine aG ?_;refine ad.draw rfl (by kernel_rfl) (a2:=[.val 0,.val 1,.val 2,.val 3,.val 4,.val 5,.val 6,.val 7,.bA 8,.val 9]) (by kernel_rfl) ?_;refine e3 ?_;refine a6 rfl V.bj ?_;refine a6 rfl V.c2 ?_;refine e3 ?_;refine a6 rfl V.bj ?_;refine a6 rfl V.c2 ?_;refine dl rfl (G:=Td aA g3 hb) (h:=?_);rintro v' m' ae hle ⟨rfl,rfl,rfl⟩;refine a6 rfl V.nG ?_;refine bi.nil ?_;refine aG ?_;refine If (fun q7=>?_) fun q7=>?_
    ·exfalso;first|(simp at q7;done)|cases q7
    ·refine aG ?_;refine ad.skip ?_;refine rg ?_;refine I V.aJ ?_;refine I V.bW ?_;refine I V.aI ?_;refine bR ?_;refine'⟨(1),_,?hinv,?hh,rfl,⟨?mT,rfl,rfl,trivial⟩,cd _,rfl⟩;case mT=>first|exact cq|exact aj some (aj (Value.int .u64) (by omega))|exact aj some (aj (Value.int .i64) (by omega))
     case hh=>exact bS
     case hinv=>exact(by omega)
   ·refine aG ?_;refine ad.exit ?_;refine rg ?_;refine I V.aI ?_;refine aD ?_;refine ad.ret ?_;refine'⟨.inr rfl,rfl,_,[],.tmp rfl .nil,bZ _,⟨rfl,rfl,rfl⟩⟩
theorem ac0{l:List Nat}(aA:l.length<=1000){bits a o c bE o' bw:Nat}{oV vm:List Value}{e bk:TypeId}{w a7:Value}(fu:J a=some (oV,e))(ay:nth oV (o+((0:Nat):Int).toNat*1)=some w)(aa:de .i64 J w l)(tT:J bE=some (vm,bk))(pd:nth vm (o'+((0:Nat):Int).toNat*1)=some a7)(ab:de .i64 J a7 l):Fn (aO Q g0) 15 [.agg #[.int .i64 (bits:Int),.slice (some ⟨a,o,none⟩) 1 c],.agg #[.int .i64 (bits:Int),.slice (some ⟨bE,o',none⟩) 1 bw]] [] J (fun u m' ae=>m'=[]/\J=ae/\u=.bool true):=by
 have aR:addrEq (some ⟨a,o,none⟩) (some ⟨a,o,none⟩)=true:=by simp[addrEq]
 have aN:addrEq (some ⟨bE,o',none⟩) (some ⟨bE,o',none⟩)=true:=by simp[addrEq]
 refine Fn.ck (ch Tryz.func15) rfl rfl fun H=>?_;refine rg ?_;refine fc fun bX=>?_;refine fc fun cy=>?_;refine I V.aI ?_;refine bb ?_;refine I V.cF ?_;refine I V.cP ?_;refine I V.cF ?_;refine I V.cP ?_;refine I V.a' ?_;refine I V.aJ ?_;refine gz 10 (fun Ng=>?_) fun Ng=>?_
 ·refine bM V.cF ?_;refine bM V.cP ?_;refine bM V.cF ?_;refine bM V.cP ?_;refine vg (G:=Te aA fu ay aa tT pd ab) (h:=?_);rintro v' m' ae hle ⟨rfl,rfl,rfl⟩;refine I V.bo ?_;refine I V.aI ?_;refine aD ?_;refine ad.ret ?_;refine'⟨.inr rfl,rfl,_,[],.tmp rfl .nil,bZ _,⟨rfl,rfl,rfl⟩⟩
 ·exfalso;exact Ng rfl
end
theorem zb.ab9{J:an}{b:Option Addr}{n c:Nat}{l:List Int}(h:zb J (.slice b n c) l)(ao:0<l.length):∃a off cells e,b=some ⟨a,off,none⟩/\J a=some (cells,e)/\∀i:Nat,i<l.length->∃x,l[i]?=some x/\nth cells (off+i*1)=some (.int .i64 x):=by
 obtain⟨e,h⟩:=h;obtain⟨b',bw,aa,_,_,aY⟩:=ey.inv h;injection aa with bu gI hK
 subst bu;obtain⟨a,off,cells,e,a9,a4,bJ⟩:=aY ao;refine⟨a,off,cells,e,a9,a4,fun i ar=>⟨l[i],eO ar,?_⟩⟩;rw[iZ,bJ i (by omega),jt,eO ar];rfl
theorem fh.ace{k:IntKind}{e:TypeId}{a n i x:Nat}{full:List Value}{rest:List Nat}{l:List Nat}(az:full.take (n*1)=ca k l)(hk:n*1<=full.length)(aA:l.length=n):fh e 1 (.slice (some ⟨a,0,none⟩) n cu) n (ca k (l.set i x)) [(a,.opn (full.set i (.int k (x:Int))) e rest 0)]:=by
 have h:=fh.of (e:=e) (sz:=1) (k:=n) (a:=a) (full:=full.set i (.int k (x:Int))) (rest:=rest) (by rw[nP];exact hk);have ab:(full.set i (.int k (x:Int))).take (n*1)=ca k (l.set i x):=by
  rw[List.take_set,az];unfold ca;rw[Fl]
 rw[ab] at h;exact h
abbrev pO(hG:Nat)(ig:Option Addr)(kl:Nat)(l:List Int)(a:Nat):Nat×dh:=(hG,.row [.slice ig l.length kl,.int .i64 (a:Int)] 25)
theorem Re{ps:List Nat}{B:Nat}(h:∀p∈ps,p<=B):ps.sum<=B*ps.length:=by
 induction ps with
 |nil=>exact c5 _
 |cons a ps aP=>
  rw[mr,lx,Nat.mul_succ];have:=aP fun p ao=>h p (.tail _ ao);have:=h a (.head _);omega
theorem adM(ps:List Nat)(x:Nat):(ps++[x]).sum=ps.sum+x:=by rw[List.sum_append];simp
section
variable {Q:ek Tryz.prog}{g0:Nat}{J:an}
theorem aaD{hG:Nat}{ig:Option Addr}{kl:Nat}{l:List Int}{a:Nat}{n:Int}(aA:zb J (.slice ig l.length kl) l)(p8:l.length<=9223372036854775807)(aK:a<=l.length)(aw:1<=n)(hm:n<=4611686018427387904):
 Fn (aO Q g0) 20 [.pointer (some ⟨hG,0,none⟩),.int .i64 n] [pO hG ig kl l a] J (fun u m' ae=>J=ae/\∃(x:Int) (bE:Nat),u=.int .i64 x/\0<=x/\x<n/\bE<=l.length/\m'=[pO hG ig kl l bE]):=by
 have aco:addrEq ig ig=true:=by obtain⟨e,h⟩:=aA;exact h.addr
 have AF:=aA.ab9;refine Fn.ck (ch Tryz.func20) rfl rfl fun H=>?_;refine rg ?_;refine I V.aI ?_;refine bR ?_;refine mj [0,1] ?_;refine aG ?_;refine' ad.oU 0 [(18,.bool (decide ((l.length<=a\/n<1))))] ?vl ?vq;case vl=>
  refine ad.U4 [] rfl (by kernel_rfl) (a2:=[.val 0,.val 1,.val 2,.val 3,.val 4,.val 5,.val 6,.val 7,.val 8,.val 9,.val 10,.val 11,.val 12,.val 13]) (by kernel_rfl) ?_;refine nW rfl V.aJ ?_;refine nW rfl V.Bj ?_;refine nW rfl V.cF ?_;refine nW rfl V.cP ?_;refine nW rfl V.aJ ?_;refine nW rfl V.Bj ?_;refine nW rfl V.cF ?_;refine nW rfl V.cP ?_;refine nW rfl V.gL ?_;refine nW rfl V.a' ?_;refine nW rfl V.aJ ?_;refine S0 15 (fun Wn=>?_) fun Wn=>?_
  ·refine Lz rfl ?_;refine Lz rfl ?_;refine nW rfl V.bo ?_;refine fW.nil ?_;exact ce
  ·refine Ly rfl V.aJ ?_;refine Ly rfl V.a' ?_;refine nW rfl V.bo ?_;refine fW.nil ?_;exact ce
 case vq=>
  refine aG ?_;refine If (fun hY=>?_) fun hY=>?_
  ·refine rg ?_;refine I V.aI ?_;refine aD ?_;refine ad.ret ?_;refine'⟨.inr rfl,rfl,_,_,.tmp rfl .nil,cd _,?_⟩;first
    |(have c:=fD
      exact⟨rfl,x % n,a+1,rfl,fD,nA,by omega,rfl⟩)
    |exact⟨rfl,0,a,rfl,Int.le_refl _,by omega,aK,rfl⟩
  ·obtain⟨dv,ol,Uh,el,rfl,xH,XY⟩:=AF (by omega);obtain⟨x,U,jg⟩:=XY a (by omega);have jg:nth Uh (ol+((a:Int)).toNat*1)=some (.int .i64 x):=jg;have fD:=Int.emod_nonneg x (show n≠0 by omega);have nA:=Int.emod_lt_of_pos x (show 0<n by omega);refine l8 ?_;refine aH ?_;refine I V.cP ?_;refine I V.bW ?_;refine aH ?_;refine eG ?_;refine aD ?_;refine ad.draw rfl (by kernel_rfl) (a2:=[.val 0,.val 1,.val 2,.val 3,.val 4,.val 5,.val 6,.val 7,.val 8,.val 9,.val 10,.val 11,.bA 12,.val 13]) (by kernel_rfl) ?_;refine e3 ?_;refine a6 rfl V.cP ?_;refine e3 ?_;refine a6 rfl V.cP ?_;refine a6 rfl V.bW ?_;rw[show((a:Int)+1 -1)=(a:Int) by omega];refine a6 rfl V.bj ?_;refine a6 rfl V.cP ?_;refine a6 rfl V.aJ ?_;refine dl rfl (G:=IY (by omega) hm) (h:=?_);rintro v m' ae hle ⟨rfl,rfl,rfl⟩;refine a6 rfl V.aI ?_;refine bi.nil ?_;refine aG ?_;refine ad.ret ?_;refine'⟨.inr rfl,rfl,_,_,.tmp rfl .nil,cd _,?_⟩;first
    |(have c:=fD
      exact⟨rfl,x % n,a+1,rfl,fD,nA,by omega,rfl⟩)
    |exact⟨rfl,0,a,rfl,Int.le_refl _,by omega,aK,rfl⟩
theorem aa2{ps:List Nat}{d:Nat}{b:Option Addr}{c:Nat}(h:de .i64 J (.slice b ps.length c) ps)(gm:0<d)(au:d<=1000)(ao:∀p∈ps,p<=1000)(aA:ps.length<=1000):
 Fn (aO Q g0) 21 [.int .i64 (d:Int),.slice b ps.length c] [] J (fun u m' ae=>J.le ae/\m'=[]/\∃b' bw,u=.slice b' ps.length bw/\fA ae 35 3 (ic ae) (.slice b' ps.length bw) (ps.map fun p:Nat=>aV (p:Int) d)):=by
 have iH:=h.at;refine Fn.ck (ch Tryz.func21) rfl rfl fun H=>?_;refine rg ?_;refine I V.aI ?_;refine bb ?_;refine I V.aI ?_;refine bb ?_;refine I V.aI ?_;refine aD ?_;refine ad.block ?_;refine' ad.eH (l':=[(6,.int .i64 ((0):Int)),(5,(.slice none 0 0)),(0,_),(1,_)]) ⟨?mi,?gh,rfl,rfl,trivial⟩ (cd _) ?_;case mi=>first|exact cq|exact aj some (aj (Value.int .u64) (by omega))|exact aj some (aj (Value.int .i64) (by omega))
 case gh=>first|exact cq|exact aj some (aj (Value.int .u64) (by omega))|exact aj some (aj (Value.int .i64) (by omega))
 refine aG ?_;refine' ad.b0 (fun(cG:Nat×(List Value)×Value×aU×an)=>match cG with|(i,cs,gh,ba,dn)=>⟨[(6,.int .i64 (i:Int)),(5,gh)],ba,dn,i<=ps.length/\J.le dn/\nd 3 (fun _=>ic dn) cs ((ps.map fun p:Nat=>aV (p:Int) d).take i)/\Acc 35 3 gh i cs ba,ps.length -i⟩) ⟨0,[],.slice none 0 0,[],J⟩ ?af ?bT
 case af=>exact⟨fB _,an.le.refl _,⟨rfl,fun i x h=>(by cases h)⟩,.nil⟩
 case bT=>
  rintro⟨i,cs,gh,ba,dn⟩ hinv;try simp only at hinv
  obtain⟨ar,et,hs,dr⟩:=hinv;refine rg ?_;refine aH ?_;refine I V.a' ?_;refine aD ?_;refine If (fun dq=>?_) fun dq=>?_
  ·obtain⟨a,off,cells,bk,rfl,gb,kQ⟩:=iH (by omega);obtain⟨p,kS,h3⟩:=kQ i (by omega);have h3:nth cells (off+((i:Int)).toNat*1)=some (.int .i64 (p:Int)):=h3;have gb:=et _ _ gb;have rG:=ao p (k8 kS);refine e4 ?_;refine aG ?_;refine ad.block ?_;refine rg ?_;refine aH ?_;refine I V.bj ?_;refine I V.c2 ?_;refine I V.aJ ?_;refine b4 (G:=acy (n:=p) (d:=d) (by omega) (by omega) gm) (h:=?_);rintro v' m' bq hle ⟨a8,rfl,fy,fF,rfl,bY⟩;have cK:=bY;obtain⟨eP,dU,rfl,ho⟩:=bY.n.cU;obtain⟨jM,gA,rfl,mf⟩:=bY.d.cU;obtain⟨ef,AA⟩:∃n,n=(ap (aV (p:Int) d).z.natAbs).length:=⟨_,rfl⟩;obtain⟨lL,Yk⟩:∃n,n=(ap (aV (p:Int) d).d).length:=⟨_,rfl⟩;rw[<-AA,<-Yk] at cK ⊢;refine ja (JM Q g0) fun u6=>?_;refine' W.step rfl (.of (nL rfl rfl rfl rfl rfl rfl (JM Q g0) (aee Q g0) (fun i q=>by cases q) ?dr ?hm ?U ?dI ?dP ?aA fun RW Pu Xg ahl=>?_));case dr=>exact dr
   case hm=>exact(tu _ ba).symm
   case U=>exact qz
   case dI=>first|rfl|(simp;done)|(simp;omega)
   case dP=>first|rfl|exact rM _
   case aA=>exact(show i+1<=1000000 by omega)
   refine I V.aI ?_;refine bR ?_;have bT:i+1<=ps.length/\J.le bq/\nd 3 (fun _=>ic bq) (cs++o1 (aV (p:Int) d) (.slice eP ef dU) (.slice jM lL gA)) ((ps.map fun p:Nat=>aV (p:Int) d).take (i+1))/\Acc 35 3 RW (i+1) (cs++o1 (aV (p:Int) d) (.slice eP ef dU) (.slice jM lL gA)) Pu:=⟨by omega,et.trans a8,by
        rw[tv,jt,kS];exact(hs.mono fun _ _ _ q=>q.mono a8).app ⟨_,_,rfl,cK⟩ rfl,Xg⟩
   refine rg ?_;refine I V.aJ ?_;refine I V.bW ?_;refine I V.aI ?_;refine bR ?_;refine gF ⟨i+1,cs++o1 (aV (p:Int) d) (.slice eP ef dU) (.slice jM lL gA),RW,Pu,bq⟩ ?_ (hm:=nR _ _);exact bT
  ·obtain rfl:i=ps.length:=by omega
   refine Acc.m0 dr (.of_eq (jr ba).symm) fun dR bO ak=>?_;rw[show(ps.map fun p:Nat=>aV (p:Int) d).take ps.length=ps.map fun p:Nat=>aV (p:Int) d from ib (by rw[gx];exact c5 _)] at hs;obtain⟨j5,gR,rfl,_⟩:=ak.inv;refine aG ?_;refine ad.exit ?_;refine rg ?_;refine aH ?_;refine aD ?_;refine ad.ret ?_;refine'⟨.inr rfl,rfl,_,[],.tmp rfl .nil,bZ _,?_⟩;refine⟨et.trans bO,rfl,j5,gR,rfl,cs,?_,fun j x U=>(hs.2 j x U).mono bO⟩;rw[gx];exact ak
theorem aa3{ps:List Nat}{d n:Nat}{b:Option Addr}{c:Nat}(aw:ps.length=n)(h:de .i64 J (.slice b n c) ps)(gm:0<d)(au:d<=1000)(ao:∀p∈ps,p<=1000)(aA:ps.length<=1000):
 Fn (aO Q g0) 21 [.int .i64 (d:Int),.slice b n c] [] J (fun u m' ae=>J.le ae/\m'=[]/\∃b' bw,u=.slice b' n bw/\fA ae 35 3 (ic ae) (.slice b' n bw) (ps.map fun p:Nat=>aV (p:Int) d)):=by
 subst aw;exact aa2 h gm au ao aA
theorem acS{hG:Nat}{ig:Option Addr}{kl:Nat}{l:List Int}{a n:Nat}(aA:zb J (.slice ig l.length kl) l)(p8:l.length<=9223372036854775807)(aK:a<=l.length)(aw:1<=n)(hm:n<=10):
 Fn (aO Q g0) 5 [.pointer (some ⟨hG,0,none⟩),.int .i64 (n:Int)] [pO hG ig kl l a] J (fun u m' ae=>J.le ae/\∃(bE:Nat) (ps:List Nat) (b':Option Addr) (bw:Nat),bE<=l.length/\m'=[pO hG ig kl l bE]/\ps.length=n/\0<ps.sum/\ps.sum<=110/\u=.slice b' n bw/\fA ae 35 3 (ic ae) (.slice b' n bw) (ps.map fun p:Nat=>aV (p:Int) ps.sum)):=by
 refine Fn.ck (ch Tryz.func5) rfl rfl fun H=>?_;refine rg ?_;refine I V.aI ?_;refine bb ?_;refine I V.aI ?_;refine bb ?_;refine I V.aI ?_;refine bb ?_;refine I V.aI ?_;refine aD ?_;refine ad.block ?_;refine' ad.eH (l':=[(7,.int .i64 ((0):Int)),(6,.int .i64 (([]).sum:Int)),(5,(.slice none 0 0)),(0,_),(1,_)]) ⟨?k3,?mi,?gh,rfl,rfl,trivial⟩ (cd _) ?_;case k3=>first|exact cq|exact aj some (aj (Value.int .u64) (by omega))|exact aj some (aj (Value.int .i64) (by omega))
 case mi=>first|exact cq|exact aj some (aj (Value.int .u64) (by omega))|exact aj some (aj (Value.int .i64) (by omega))
 case gh=>first|exact cq|exact aj some (aj (Value.int .u64) (by omega))|exact aj some (aj (Value.int .i64) (by omega))
 refine aG ?_;refine' ad.b0 (fun(cG:Nat×(List Nat)×Value×aU×Nat)=>match cG with|(i,ps,gh,ba,q2)=>⟨[(7,.int .i64 (i:Int)),(6,.int .i64 (ps.sum:Int)),(5,gh)],ba++[pO hG ig kl l q2],J,i<=n/\ps.length=i/\(∀p∈ps,p<=11)/\q2<=l.length/\fh 3 1 gh i (ca .i64 ps) ba,n -i⟩) ⟨0,[],.slice none 0 0,[],a⟩ ?af ?bT
 case af=>exact⟨fB _,rfl,fun p ao=>(by cases ao),aK,.inl ⟨.nil,E2,Ec⟩⟩
 case bT=>
  rintro⟨i,ps,gh,ba,q2⟩ hinv;try simp only at hinv
  obtain⟨ar,ei,rG,NF,dr⟩:=hinv;refine rg ?_;refine aH ?_;refine I V.a' ?_;refine aD ?_;refine If (fun dq=>?_) fun dq=>?_
  ·refine aG ?_;refine ad.skip ?_;refine aG ?_;refine ad.block ?_;refine rg ?_;refine aH ?_;refine' W.step rfl (Exec.call rfl rfl rfl rfl rfl rfl rfl (bU:=[pO hG ig kl l q2]) (eD:=ba) ng trivial (aaD (n:=12) aA p8 NF (by decide) (by decide)) ?_);rintro v' m' ae hle ⟨rfl,R0,k9,rfl,fD,nA,Xe,rfl⟩;obtain⟨x,rfl⟩:∃x:Nat,R0=(x:Int):=⟨R0.toNat,by omega⟩;refine ja (BK Q g0) fun LF=>?_;refine' W.step rfl (.of (R2 rfl rfl rfl rfl rfl rfl (BK Q g0) (aed Q g0) (fun i q=>by cases q) ?dr ?hm ?U ?dI ?dP ?a5 ?aA fun aeR D' xM=>?_));case dr=>exact dr
   case hm=>exact ng (l₁:=[_,_])
   case U=>exact qz
   case dI=>first|rfl|(simp;done)|(simp;omega)
   case dP=>first|rfl|exact rM _
   case a5=>exact Nat.one_pos
   case aA=>exact(show i+1<=1000000 by omega)
   obtain⟨cr,full,rest,rfl,rfl,hg,Dk⟩:=xM.row (Nat.succ_pos i);have Xm:ca .i64 ps++[.int .i64 (x:Int)]=ca .i64 (ps++[x]):=(wh (b:=[x])).symm;rw[Xm] at hg xM;have Ii:=Re rG;have N9:nth full (0+((i:Int)).toNat*1)=some (.int .i64 (x:Int)):=by
    rw[I9 (i:=0+((i:Int)).toNat*1) hg (by omega)];exact s9 (i:=i) (by rw[K5 (by omega),ei,sf];rfl) (by omega)
   refine I V.aI ?_;refine bb ?_;refine aH ?_;refine I V.bj ?_;refine I V.cP ?_;refine I V.bW ?_;refine I V.aI ?_;refine bR ?_;rw[show(ps.sum:Int)+(x:Int)=((ps++[x]).sum:Int) by rw[adM];omega];have bT:i+1<=n/\(ps++[x]).length=i+1/\(∀p∈ps++[x],p<=11)/\k9<=l.length/\fh 3 1 (.slice (some ⟨cr,0,none⟩) (i+1) cu) (i+1) (ca .i64 (ps++[x])) [(cr,.opn full 3 rest 0)]:=⟨by omega,by rw[g1,ei];rfl,fun p ao=>by
        rcases nQ.1 ao with q|q
        ·exact rG p q
        ·rw[Fo.1 q];omega,Xe,xM⟩
   refine rg ?_;refine I V.aJ ?_;refine I V.bW ?_;refine I V.aI ?_;refine bR ?_;refine gF ⟨i+1,ps++[x],.slice (some ⟨cr,0,none⟩) (i+1) cu,[(cr,.opn full 3 rest 0)],k9⟩ ?_ (hm:=.cons_cons _ (.cons _ (.refl _)));exact bT
  ·obtain rfl:i=n:=by omega
   have Ii:=Re rG;obtain⟨cr,full,rest,rfl,rfl,hg,Dk⟩:=dr.row aw;refine aG ?_;refine ad.exit ?_;refine rg ?_;refine I V.aJ ?_;refine I V.a' ?_;refine bR ?_;refine mj [6,25,5] ?_;refine aG ?_;refine' ad.Ms (α:=(List Nat)×(List Value)×(List Nat)) 2 (fun(cG:(List Nat)×(List Value)×(List Nat))=>match cG with|(cI,xz,wC)=>[(6,.int .i64 (cI.sum:Int))]) (fun(cG:(List Nat)×(List Value)×(List Nat))=>match cG with|(cI,xz,wC)=>(cr,.opn xz 3 wC 0)::[pO hG ig kl l q2]) (fun(cG:(List Nat)×(List Value)×(List Nat))=>match cG with|(cI,xz,wC)=>J) (fun(cG:(List Nat)×(List Value)×(List Nat))=>match cG with|(cI,xz,wC)=>cI.length=i/\0<cI.sum/\cI.sum<=110/\(∀p∈cI,p<=1000)/\fh 3 1 (.slice (some ⟨cr,0,none⟩) i cu) i (ca .i64 cI) [(cr,.opn xz 3 wC 0)]) ?Gf ?Gp
   case Gf=>
    refine If (fun sq=>?_) fun sq=>?_
    ·have aX:ps.sum=0:=by omega
     have aC:(ps.set 0 1).sum=1:=by
        cases ps with
        |nil=>rw[<-ei] at aw;cases aw
        |cons z fz=>
         rw[mr] at aX;show(1::fz).sum=1;rw[mr];omega
     have ya:(ps.set 0 1).length=i/\0<(ps.set 0 1).sum/\(ps.set 0 1).sum<=110/\(∀p∈ps.set 0 1,p<=1000)/\fh 3 1 (.slice (some ⟨cr,0,none⟩) i cu) i (ca .i64 (ps.set 0 1)) [(cr,.opn (full.set 0 (.int .i64 1)) 3 [] 0)]:=by
        refine⟨by rw[nP];exact ei,by omega,by omega,fun p ao=>?_,fh.ace hg Dk ei⟩;have:=rR ao;omega
     refine rg ?_;refine I V.aJ ?_;refine I V.bj ?_;refine' W.step rfl (.of (Kr rfl rfl rfl rfl (jX rfl) rfl rfl rfl ?aa ?af ?a0 ?ao ?_));case ao=>exact .refl _
     case af=>exact Q5 (by omega)
     case aa=>first|rfl|assumption
     case a0=>exact fB _
     refine I V.aI ?_;refine bR ?_;refine'⟨⟨ps.set 0 1,full.set 0 (.int .i64 1),[]⟩,_,?hinv,rfl,⟨?uu,rfl,trivial⟩,DZ,rfl⟩;case uu=>first|exact cq|exact aj some (aj (Value.int .u64) (by omega))|exact aj some (aj (Value.int .i64) (by omega))
     case hinv=>
      first
          |exact⟨ei,by omega,by omega,fun p ao=>by have:=rG p ao;omega,dr⟩
          |exact ya
    ·refine aG ?_;refine ad.skip ?_;refine'⟨⟨ps,full,rest⟩,_,?hinv,rfl,⟨?uu,rfl,trivial⟩,DZ,rfl⟩;case uu=>first|exact cq|exact aj some (aj (Value.int .u64) (by omega))|exact aj some (aj (Value.int .i64) (by omega))
     case hinv=>
      first
          |exact⟨ei,by omega,by omega,fun p ao=>by have:=rG p ao;omega,dr⟩
          |exact ya
   case Gp=>
    rintro⟨cI,xz,wC⟩ hinv;try simp only at hinv
    obtain⟨Om,Ol,x7,DF,Yy⟩:=hinv;refine fh.m0 (dV:=[pO hG ig kl l q2]) Yy (.refl _) fun fV cL ak=>?_;have Yx:de .i64 fV (.slice (some ⟨cr,0,none⟩) i cu) cI:=ak.num;refine rg ?_;refine aH ?_;refine b4 (G:=aa3 Om Yx Ol (by omega) DF (by omega)) (h:=?_);rintro v' m' lV hle ⟨eM,rfl,j5,gR,rfl,hL⟩;refine I V.aI ?_;refine aD ?_;refine ad.ret ?_;refine'⟨.inr rfl,rfl,_,_,.tmp rfl .nil,cd _,⟨cL.trans eM,q2,cI,j5,gR,NF,rfl,Om,Ol,x7,rfl,hL⟩⟩
end
end
end Go.Opn
