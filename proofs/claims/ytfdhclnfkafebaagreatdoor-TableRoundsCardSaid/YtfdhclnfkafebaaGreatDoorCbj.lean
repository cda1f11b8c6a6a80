/- A part of the proof of TableRounds. -/
import Derived.Test.YtfdhclnfkafebaaGreatDoorCbi
import Derived.Test.YtfdhclnfkafebaaGreatDoorCbe
set_option maxRecDepth 100000
set_option maxHeartbeats 8000000
set_option linter.unusedVariables false
set_option linter.unusedSimpArgs false
namespace Go.Opn
noncomputable section
open Go.Cre Go.RowKit Go.Proofs
abbrev aqI:Value:=.agg #[.bool false,.slice none 0 0,.slice none 0 0]
abbrev IZ(J:an)(l k:List cG):Value->a8->an->Prop:=fun u m' ah=>J.le ah/\m'=[]/\((qc l k≠0/\u=.tuple #[aqI,.int .i64 (qc l k)])\/(qc l k=0/\∃v1 v2,u=.tuple #[c8 (rP l k) v1 v2,.int .i64 0]/\fO ah (rP l k) v1 v2))
section
variable {Q:dD Tryz.prog}{g0:Nat}{J:an}
theorem acn{l k:List cG}{b b':Option Addr}{c c':Nat}(h:ew J 34 3 (hj J) (.slice b l.length c) l)(fR:ew J 34 3 (hj J) (.slice b' k.length c') k)(aD:l.length<=15)(hk:k.length<=15):
 Fn (a1 Q g0) 10 [.slice b l.length c,.slice b' k.length c'] [] J (IZ J l k):=by
 have kA:addrEq b b=true:=h.addr;have HM:addrEq b' b'=true:=fR.addr;have qu:=yw h;have Gt:=yw fR;refine Fn.cr (cu Tryz.func10) rfl rfl fun H=>?_;refine rg ?_;refine' W.step rfl (.of (gx rfl rfl rfl (lb Q g0) rfl rfl rfl fun dn=>?_));refine U V.au ?_;refine a2 ?_;refine U V.ay ?_;refine bN (G:=Rv h I) (h:=?_);rintro v' m' bK hle ⟨aK,rfl,rfl⟩;have agI:=ew.mono (R':=hj bK) aK (fun _ _ q=>q.mono aK) fR;refine U V.au ?_;refine a3 ?_;refine eP [0,1,4,6] ?_;refine ao ?_;refine' ae.hf 0 [(11,.bool (decide ((g1 l≠0))))] ?ph ?pj;case ph=>
  refine ae.region ?_;refine U V.ay ?_;refine U V.bb ?_;refine a3 ?_;refine'⟨⟨_,rfl,⟨?QM,rfl,rfl,rfl,rfl,trivial⟩⟩,bx _,rfl⟩;case QM=>first|exact fw rfl I|exact fu rfl I|exact fv rfl I|exact fE rfl I
 case pj=>
  refine ao ?_;refine If (fun kb=>?_) fun kb=>?_
  ·have he:=Jb (k:=k) kb;refine rg ?_;refine al ?_;refine e9 ?_;refine U V.au ?_;refine aA ?_;refine ae.ret ?_;refine'⟨.inr rfl,rfl,_,[],.cell rfl (by repeat first|exact .head _|refine .tail _ ?_|refine eF _ ?_) (fA (dm rfl) rfl) (.tmp rfl .nil),br _,?_⟩;first
    |exact⟨aK,rfl,.inl ⟨by rw[he];exact kb,by rw[he];rfl⟩⟩
    |exact⟨aK.trans bi,rfl,.inl ⟨by rw[he];exact lU,by rw[he];rfl⟩⟩
    |exact⟨aK.trans bi,rfl,.inl ⟨by rw[he];decide,by rw[he];rfl⟩⟩
    |exact⟨((aK.trans bi).trans cn).trans eL,rfl,.inr ⟨he,_,_,rfl,gC⟩⟩
  ·have kb:g1 l=0:=jh fun q=>kb q;refine fy ?_;refine U V.ay ?_;refine bN (G:=Rv agI I) (h:=?_);rintro v' m' dT hle ⟨bi,rfl,rfl⟩;refine U V.au ?_;refine a3 ?_;refine eP [0,1,4,7] ?_;refine ao ?_;refine' ae.hf 0 [(17,.bool (decide ((g1 k≠0))))] ?Ff ?Fo;case Ff=>
    refine ae.region ?_;refine U V.ay ?_;refine U V.bb ?_;refine a3 ?_;refine'⟨⟨_,rfl,⟨?KV,rfl,rfl,rfl,rfl,trivial⟩⟩,bx _,rfl⟩;case KV=>first|exact fw rfl I|exact fu rfl I|exact fv rfl I|exact fE rfl I
   case Fo=>
    refine ao ?_;refine If (fun lU=>?_) fun lU=>?_
    ·have he:=Jc kb lU;refine rg ?_;refine al ?_;refine e9 ?_;refine U V.au ?_;refine aA ?_;refine ae.ret ?_;refine'⟨.inr rfl,rfl,_,[],.cell rfl (by repeat first|exact .head _|refine .tail _ ?_|refine eF _ ?_) (fA (dm rfl) rfl) (.tmp rfl .nil),br _,?_⟩;first
        |exact⟨aK,rfl,.inl ⟨by rw[he];exact kb,by rw[he];rfl⟩⟩
        |exact⟨aK.trans bi,rfl,.inl ⟨by rw[he];exact lU,by rw[he];rfl⟩⟩
        |exact⟨aK.trans bi,rfl,.inl ⟨by rw[he];decide,by rw[he];rfl⟩⟩
        |exact⟨((aK.trans bi).trans cn).trans eL,rfl,.inr ⟨he,_,_,rfl,gC⟩⟩
    ·have lU:g1 k=0:=jh fun q=>lU q;refine fy ?_;refine al ?_;refine U V.bb ?_;refine aA ?_;refine If (fun z1=>?_) fun z1=>?_
     ·have he:=TO kb lU I;refine rg ?_;refine U V.kW ?_;refine e9 ?_;refine U V.au ?_;refine aA ?_;refine ae.ret ?_;refine'⟨.inr rfl,rfl,_,[],.cell rfl (by repeat first|exact .head _|refine .tail _ ?_|refine eF _ ?_) (fA (dm rfl) rfl) (.tmp rfl .nil),br _,?_⟩;first
        |exact⟨aK,rfl,.inl ⟨by rw[he];exact kb,by rw[he];rfl⟩⟩
        |exact⟨aK.trans bi,rfl,.inl ⟨by rw[he];exact lU,by rw[he];rfl⟩⟩
        |exact⟨aK.trans bi,rfl,.inl ⟨by rw[he];decide,by rw[he];rfl⟩⟩
        |exact⟨((aK.trans bi).trans cn).trans eL,rfl,.inr ⟨he,_,_,rfl,gC⟩⟩
     ·have he:=TP kb lU I;obtain⟨dF,dq,ja,k6⟩:=sR kb;obtain⟨a7,a0,bJ,cO⟩:=sR lU;have u5:=(ew.mono (R':=hj dT) (aK.trans bi) (fun _ _ q=>q.mono (aK.trans bi)) h).zg ja;have CK:=(ew.mono (R':=hj dT) (aK.trans bi) (fun _ _ q=>q.mono (aK.trans bi)) fR).zg bJ;have lA:=Sc kb lU qu Gt;have u':=acm (Q:=Q) (g0:=g0) (J:=dT) (ps:=g2 l) (dJ:=g2 k) (b:=b) (b':=b') (c:=c) (c':=c') (by rw[j2];exact u5) (by rw[j2];exact CK) (nX ja) (nX bJ) (cY (ys kb qu) bC) (cY (ys lU Gt) bC) k6 cO (by rw[j2];omega) (by rw[j2,j2];omega);rw[j2,j2] at u';refine fy ?_;refine al ?_;refine bN (G:=u') (h:=?_);rintro v' m' ga hle ⟨cn,rfl,du,dt,rfl,b4⟩;have b4:fO ga (rP l k) du dt:=b4;have cp:=b4;obtain⟨cZ,db,rfl,b0⟩:=b4.n.bG;obtain⟨dE,dZ,rfl,dN⟩:=b4.d.bG;refine bN (G:=af3 cp I I) (h:=?_);rintro v' m' mQ hle ⟨eL,rfl,du,dt,rfl,b4⟩;have gC:=b4;obtain⟨fI,gV,rfl,gl⟩:=b4.n.bG;obtain⟨gz,e7,rfl,iC⟩:=b4.d.bG;refine al ?_;refine e9 ?_;refine U V.au ?_;refine aA ?_;refine ae.ret ?_;refine'⟨.inr rfl,rfl,_,[],.cell rfl (by repeat first|exact .head _|refine .tail _ ?_|refine eF _ ?_) (fA (dm rfl) rfl) (.tmp rfl .nil),br _,?_⟩;first
        |exact⟨aK,rfl,.inl ⟨by rw[he];exact kb,by rw[he];rfl⟩⟩
        |exact⟨aK.trans bi,rfl,.inl ⟨by rw[he];exact lU,by rw[he];rfl⟩⟩
        |exact⟨aK.trans bi,rfl,.inl ⟨by rw[he];decide,by rw[he];rfl⟩⟩
        |exact⟨((aK.trans bi).trans cn).trans eL,rfl,.inr ⟨he,_,_,rfl,gC⟩⟩
end
abbrev I0(J:an)(l:List cG)(bits:Int):Value->a8->an->Prop:=fun u m' ah=>J.le ah/\m'=[]/\((vK l bits≠0/\u=.tuple #[.slice none 0 0,.int .i64 (vK l bits)])\/(vK l bits=0/\∃b c,u=.tuple #[.slice b l.length c,.int .i64 0]/\cR .i64 ah (.slice b l.length c) (By (g2 l) (fj l) (2 ^ bits.toNat))))
section
variable {Q:dD Tryz.prog}{g0:Nat}{J:an}
theorem anB{l:List cG}{bits:Int}{b:Option Addr}{c:Nat}{e:TypeId}(cB:J 2=some (b7 .u8 pT,e))(aF:Nat.blt 2 (a1 Q g0).g0=true)(h:ew J 34 3 (hj J) (.slice b l.length c) l)(ke:l.length<=1000):
 Fn (a1 Q g0) 7 [.slice b l.length c,.int .i64 bits] [] J (I0 J l bits):=by
 have kA:addrEq b b=true:=h.addr;have mf:=yw h;refine s'.Za (s'.cr (cu Tryz.func7) rfl rfl fun H=>?_);refine rg ?_;refine U V.au ?_;refine' W.step rfl (.of (gx rfl rfl rfl (aaW Q g0) rfl rfl rfl fun cK=>?_));refine a2 ?_;refine U V.fn ?_;refine' W.defer rfl rfl rfl rfl rfl rfl rfl ?_;refine a3 ?_;refine eP [0,1,4,5] ?_;refine ao ?_;refine' ae.hf 0 [(12,.bool (decide ((bits<1\/30<bits))))] ?ph ?pj;case ph=>
  refine ae.region ?_;refine U V.ay ?_;refine U V.bb ?_;refine U V.ay ?_;refine ft 9 (fun yD=>?_) fun yD=>?_
  ·refine bs ?_;refine bs ?_;refine U V.bt ?_;refine a3 ?_;refine'⟨⟨_,rfl,⟨?ml,rfl,rfl,rfl,rfl,trivial⟩⟩,bx _,rfl⟩;case ml=>first|exact fw rfl I|exact fu rfl I|exact fv rfl I|exact fE rfl I
  ·refine bo V.ay ?_;refine bo V.bb ?_;refine U V.bt ?_;refine a3 ?_;refine'⟨⟨_,rfl,⟨?ml,rfl,rfl,rfl,rfl,trivial⟩⟩,bx _,rfl⟩;case ml=>first|exact fw rfl I|exact fu rfl I|exact fv rfl I|exact fE rfl I
 case pj=>
  refine ao ?_;refine If (fun jn=>?_) fun jn=>?_
  ·have he:=Rr (l:=l) jn;refine rg ?_;refine U V.au ?_;refine e9 ?_;refine aA ?_;refine ae.ret ?_;first
    |(refine⟨.returning,rfl,.inr ⟨20,#[.pointer (some ⟨cK,0,none⟩)],#[],[(cK,.row [.int .i64 2] 28)],[],rfl,.refl _,Lz.mono ?_⟩⟩
      rintro vO m' ah ⟨rfl,rfl,rfl⟩ _;exact .inl ⟨rfl,_,[],.tmp rfl (.cell rfl (.head _) (iB (dm rfl) rfl) .nil),br _,an.le.refl _,rfl,.inl ⟨by rw[he];decide,by rw[he];rfl⟩⟩)
    |(refine⟨.returning,rfl,.inr ⟨20,#[.pointer (some ⟨cK,0,none⟩)],#[],[(cK,.row [.int .i64 0] 28)],[],rfl,.refl _,Lz.mono ?_⟩⟩
      rintro vO m' ah ⟨rfl,rfl,rfl⟩ _;exact .inl ⟨rfl,_,[],.tmp rfl (.cell rfl (.head _) (iB (dm rfl) rfl) .nil),br _,aK.trans bi,rfl,.inr ⟨by rw[oP];exact n',bL,bM,rfl,gC⟩⟩)
  ·have oP:=Rs (l:=l) jn;obtain⟨k,hk⟩:∃k:Nat,bits=(k:Int):=⟨bits.toNat,I⟩;subst hk;refine fy ?_;refine U V.ay ?_;refine W.M5 rfl rfl rfl rfl rfl rfl rfl rfl (cj:=[]) (eB:=[(cK,.row [.int .i64 0] 28)]) (.refl _) (Rt cB aF h ke) ?_ ?_
   rotate_left 1
   ·rintro ct m' ga cn ⟨rfl,hle,he,rfl⟩;refine⟨_,rfl,.inr ⟨20,#[.pointer (some ⟨cK,0,none⟩)],#[],[(cK,.row [.int .i64 0] 28)],[],rfl,.refl _,anz.mono ?_⟩⟩;rintro vO m' ah ⟨hu,rfl,rfl⟩ _;exact .inl ⟨hu,_,[],.tmp rfl (.cell rfl (.head _) (iB (dm rfl) rfl) .nil),br _,hle,rfl,.inl ⟨by rw[oP];exact he,by rw[oP];rfl⟩⟩
   rintro v' m' bK hle ⟨aK,rfl,n',bQ,bH,rfl,fS⟩;have aX:addrEq bQ bQ=true:=fS.addr;obtain⟨hU,iH,jx,pX⟩:=sR n';have lY:=ys n' mf;have ahS:=xn (fj l);have vk:=anE (Q:=Q) (g0:=g0) (J:=bK) (ps:=g2 l) (s:=fj l) (bits:=k) (b:=bQ) (c:=bH) (by rw[j2];exact fS) (by rw[j2];exact hU) (by rw[j2];exact iH) (nX jx) I pX I;rw[j2] at vk;refine U V.ay ?_;refine bN (G:=vk) (h:=?_);rintro v' m' dT bi ⟨_,rfl,bL,bM,rfl,gC⟩;have aU:addrEq bL bL=true:=gC.addr;refine U V.au ?_;refine e9 ?_;refine aA ?_;refine ae.ret ?_;first
    |(refine⟨.returning,rfl,.inr ⟨20,#[.pointer (some ⟨cK,0,none⟩)],#[],[(cK,.row [.int .i64 2] 28)],[],rfl,.refl _,Lz.mono ?_⟩⟩
      rintro vO m' ah ⟨rfl,rfl,rfl⟩ _;exact .inl ⟨rfl,_,[],.tmp rfl (.cell rfl (.head _) (iB (dm rfl) rfl) .nil),br _,an.le.refl _,rfl,.inl ⟨by rw[he];decide,by rw[he];rfl⟩⟩)
    |(refine⟨.returning,rfl,.inr ⟨20,#[.pointer (some ⟨cK,0,none⟩)],#[],[(cK,.row [.int .i64 0] 28)],[],rfl,.refl _,Lz.mono ?_⟩⟩
      rintro vO m' ah ⟨rfl,rfl,rfl⟩ _;exact .inl ⟨rfl,_,[],.tmp rfl (.cell rfl (.head _) (iB (dm rfl) rfl) .nil),br _,aK.trans bi,rfl,.inr ⟨by rw[oP];exact n',bL,bM,rfl,gC⟩⟩)
theorem aco{l k:List cG}{b b':Option Addr}{c c':Nat}{e:TypeId}(cB:J 2=some (b7 .u8 pT,e))(aF:Nat.blt 2 (a1 Q g0).g0=true)(h:ew J 34 3 (hj J) (.slice b l.length c) l)(fR:ew J 34 3 (hj J) (.slice b' k.length c') k)(aD:l.length<=1000)(hk:k.length<=1000):
 Fn (a1 Q g0) 9 [.slice b l.length c,.slice b' k.length c'] [] J (IZ J l k):=by
 have kA:addrEq b b=true:=h.addr;have HM:addrEq b' b'=true:=fR.addr;have qu:=yw h;have Gt:=yw fR;refine s'.Za (s'.cr (cu Tryz.func9) rfl rfl fun H=>?_);refine rg ?_;refine' W.step rfl (.of (gx rfl rfl rfl (lb Q g0) rfl rfl rfl fun dn=>?_));refine' W.step rfl (.of (gx rfl rfl rfl (aaW Q g0) rfl rfl rfl fun cK=>?_));refine a2 ?_;refine U V.fn ?_;refine' W.defer rfl rfl rfl rfl rfl rfl rfl ?_;refine a2 ?_;refine U V.ay ?_;refine W.M5 rfl rfl rfl rfl rfl rfl rfl rfl (cj:=[]) (eB:=[(cK,.row [.int .i64 0] 28),(dn,.row [.bool false,.slice none 0 0,.slice none 0 0] 34)]) (.refl _) (Rt cB aF h aD) ?_ ?_
 rotate_left 1
 ·rintro ct m' ga cn ⟨rfl,hle,he,rfl⟩;refine⟨_,rfl,.inr ⟨26,#[.pointer (some ⟨cK,0,none⟩)],#[],[(cK,.row [.int .i64 0] 28)],[(dn,.row [.bool false,.slice none 0 0,.slice none 0 0] 34)],rfl,.refl _,TQ.mono ?_⟩⟩;rintro vO m' ah ⟨hu,rfl,rfl⟩ _;exact .inl ⟨hu,_,[],.cell rfl (.tail _ (.head _)) (fA (dm rfl) rfl) (.cell rfl (.head _) (iB (dm rfl) rfl) .nil),br _,hle,rfl,.inl ⟨by rw[Jb he];exact he,by rw[Jb he];rfl⟩⟩
 rintro v' m' bK hle ⟨aK,rfl,gN,bQ,bH,rfl,u5⟩;have aX:addrEq bQ bQ=true:=u5.addr;refine U V.ay ?_;refine W.M5 rfl rfl rfl rfl rfl rfl rfl rfl (cj:=[]) (eB:=[(cK,.row [.int .i64 0] 28),(dn,.row [.bool false,.slice none 0 0,.slice none 0 0] 34)]) (.refl _) (Rt (aK _ _ cB) aF (ew.mono (R':=hj bK) aK (fun _ _ q=>q.mono aK) fR) hk) ?_ ?_
 rotate_left 1
 ·rintro ct m' ga cn ⟨rfl,hle,he,rfl⟩;refine⟨_,rfl,.inr ⟨26,#[.pointer (some ⟨cK,0,none⟩)],#[],[(cK,.row [.int .i64 0] 28)],[(dn,.row [.bool false,.slice none 0 0,.slice none 0 0] 34)],rfl,.refl _,TQ.mono ?_⟩⟩;rintro vO m' ah ⟨hu,rfl,rfl⟩ _;exact .inl ⟨hu,_,[],.cell rfl (.tail _ (.head _)) (fA (dm rfl) rfl) (.cell rfl (.head _) (iB (dm rfl) rfl) .nil),br _,aK.trans hle,rfl,.inl ⟨by rw[Jc gN he];exact he,by rw[Jc gN he];rfl⟩⟩
 rintro v' m' dT hle ⟨bi,rfl,gO,bL,bM,rfl,CK⟩;have aU:addrEq bL bL=true:=CK.addr;have u5:=ew.mono (R':=mP dT) bi (fun _ _ q=>q.mono bi) u5;refine al ?_;refine a2 ?_;refine al ?_;refine U V.bb ?_;refine aA ?_;refine If (fun lU=>?_) fun lU=>?_
 ·have u':=TO gN gO I;refine rg ?_;refine U V.kW ?_;refine e9 ?_;refine e9 ?_;refine aA ?_;refine ae.ret ?_;first
   |(refine⟨.returning,rfl,.inr ⟨26,#[.pointer (some ⟨cK,0,none⟩)],#[],[(cK,.row [.int .i64 10] 28)],[(dn,.row [.bool false,.slice none 0 0,.slice none 0 0] 34)],rfl,.refl _,Jd.mono ?_⟩⟩
     rintro vO m' ah ⟨rfl,rfl,rfl⟩ _;exact .inl ⟨rfl,_,[],.cell rfl (.tail _ (.head _)) (fA (dm rfl) rfl) (.cell rfl (.head _) (iB (dm rfl) rfl) .nil),br _,aK.trans bi,rfl,.inl ⟨by rw[u'];decide,by rw[u'];rfl⟩⟩)
   |(refine⟨.returning,rfl,.inr ⟨26,#[.pointer (some ⟨cK,0,none⟩)],#[],[(cK,.row [.int .i64 0] 28)],[(dn,.row (qj (rP l k) (.slice fI _ gV) (.slice gz _ e7)) 34)],rfl,.refl _,Jd.mono ?_⟩⟩
     rintro vO m' ah ⟨rfl,rfl,rfl⟩ _;exact .inl ⟨rfl,_,[],.cell rfl (.tail _ (.head _)) (fA (dm rfl) rfl) (.cell rfl (.head _) (iB (dm rfl) rfl) .nil),br _,aK.trans (bi.trans (cn.trans eL)),rfl,.inr ⟨u',_,_,rfl,jt⟩⟩)
 ·have wZ:l.length=k.length:=I
  have u':=TP gN gO wZ;obtain⟨hU,iH,jx,pX⟩:=sR gN;obtain⟨du,dt,BT,BU⟩:=sR gO;have a7:=ys gN qu;have a0:=ys gO Gt;have bJ:=xn (fj l);have cO:=xn (fj k);have lA:=Sc gN gO qu Gt;have Gz:=aaB gN gO;have bm:=xn (rP l k).z.natAbs;have bW:=xn (rP l k).d;have F4:hW 30000 (rP l k):=⟨I,I⟩;have Kp:=apX (Q:=Q) (g0:=g0) (J:=dT) (ps:=g2 l) (dJ:=g2 k) (b:=bQ) (b':=bL) (c:=bH) (c':=bM) (by rw[j2];exact u5) (by rw[j2];exact CK) (nX jx) (nX BT) I I pX BU (by rw[j2];omega) (by rw[j2,j2];exact wZ);rw[j2,j2] at Kp;refine fy ?_;refine al ?_;refine bN (G:=Kp) (h:=?_);rintro v' m' ga cn ⟨_,rfl,bm,bW,rfl,b4⟩;have b4:fZ ga (rP l k) bm bW:=b4;have nu:=b4;obtain⟨cZ,en,db,rfl,b0,_,_⟩:=b4.n.b6;obtain⟨dE,fH,dZ,rfl,dN,_,_⟩:=b4.d.b6;refine bN (G:=alB nu F4 (jl (im Gz).1) I I) (h:=?_);rintro v' m' mQ eL ⟨_,rfl,bm,bW,rfl,c0⟩;have jt:=c0;obtain⟨fI,gV,rfl,gl⟩:=c0.n.bG;obtain⟨gz,e7,rfl,iC⟩:=c0.d.bG;refine al ?_;refine e9 ?_;refine e9 ?_;refine aA ?_;refine ae.ret ?_;first
   |(refine⟨.returning,rfl,.inr ⟨26,#[.pointer (some ⟨cK,0,none⟩)],#[],[(cK,.row [.int .i64 10] 28)],[(dn,.row [.bool false,.slice none 0 0,.slice none 0 0] 34)],rfl,.refl _,Jd.mono ?_⟩⟩
     rintro vO m' ah ⟨rfl,rfl,rfl⟩ _;exact .inl ⟨rfl,_,[],.cell rfl (.tail _ (.head _)) (fA (dm rfl) rfl) (.cell rfl (.head _) (iB (dm rfl) rfl) .nil),br _,aK.trans bi,rfl,.inl ⟨by rw[u'];decide,by rw[u'];rfl⟩⟩)
   |(refine⟨.returning,rfl,.inr ⟨26,#[.pointer (some ⟨cK,0,none⟩)],#[],[(cK,.row [.int .i64 0] 28)],[(dn,.row (qj (rP l k) (.slice fI _ gV) (.slice gz _ e7)) 34)],rfl,.refl _,Jd.mono ?_⟩⟩
     rintro vO m' ah ⟨rfl,rfl,rfl⟩ _;exact .inl ⟨rfl,_,[],.cell rfl (.tail _ (.head _)) (fA (dm rfl) rfl) (.cell rfl (.head _) (iB (dm rfl) rfl) .nil),br _,aK.trans (bi.trans (cn.trans eL)),rfl,.inr ⟨u',_,_,rfl,jt⟩⟩)
end
end
end Go.Opn
namespace Go.Opn
noncomputable section
theorem T'{f:Int->Int->Int}:∀{j:Nat} {l:List Int} {i:Nat},j<l.length->j<i->(kD f j l).getD i 0=l.getD i 0:=by
 intro j
 induction j with
 |zero=>intro l i _ _;rfl
 |succ j aZ=>
  intro l i aD ar
  unfold kD
  split
  ·rw[aZ (by rw[BC];omega) I,xR aD,bd I,bd I]
  ·rfl
theorem acE{f f':Int->Int->Int}:∀{j:Nat} {l:List Int},j<l.length->(∀i,i<j->(f (l.getD j 0) (l.getD i 0)<0↔f' (l.getD j 0) (l.getD i 0)<0))->kD f j l=kD f' j l:=by
 intro j
 induction j with
 |zero=>intro l _ _;rfl
 |succ j aZ=>
  intro l aD h
  have bf:=h j I
  unfold kD
  by_cases q:f (l.getD (j+1) 0) (l.getD j 0)<0
  ·rw[bj q,bj (bf.1 q)]
   refine aZ (by rw[BC];omega) fun i ar=>?_
   rw[xR aD,xR aD,bj rfl,bd I,bd I]
   exact h i I
  ·rw[bd q,bd fun dG=>q (bf.2 dG)]
theorem acF{f:Int->Int->Int}{B:Int}:∀{j:Nat} {l:List Int},j<l.length->(∀i,i<=j->l.getD i 0<=B)->∀i,i<=j->(kD f j l).getD i 0<=B:=by
 intro j
 induction j with
 |zero=>intro l _ h i ar;exact h i ar
 |succ j aZ=>
  intro l aD h i ar
  unfold kD
  split
  ·by_cases q:i=j+1
   ·subst q
    rw[T' (by rw[BC];omega) I,xR aD,bd I,bj rfl]
    exact h j I
   ·refine aZ (by rw[BC];omega) (fun k hk=>?_) i I
    rw[xR aD]
    split
    ·exact h _ (bX _)
    ·split
     ·omega
     ·exact h k I
  ·exact h i ar
theorem WZ{f:Int->Int->Int}:∀{k:Nat} {l:List Int} {i:Nat},k<l.length->k<i->(mh f k l).getD i 0=l.getD i 0:=by
 intro k
 induction k with
 |zero=>intro l i _ _;rfl
 |succ k aZ=>
  intro l i aD ar
  show(kD f (k+1) (mh f k l)).getD i 0=_
  rw[T' (by rw[(Dn I).length_eq];omega) ar,aZ I I]
theorem Qg{n i:Nat}(h:i<n):(jI n).getD i 0=(i:Int):=by rw[g5,KA h];rfl
theorem ajO{f:Int->Int->Int}{n:Nat}:∀{k:Nat},k<n->∀i,i<=k->(mh f k (jI n)).getD i 0<=k:=by
 intro k
 induction k with
 |zero=>
  intro h i ar
  show(jI n).getD i 0<=_
  rw[Qg I];omega
 |succ k aZ=>
  intro h i ar
  have aD:(mh f k (jI n)).length=n:=by rw[(Dn (by rw[pD];omega)).length_eq,pD]
  refine acF (f:=f) I (fun j bf=>?_) i ar
  by_cases q:j=k+1
  ·subst q
   rw[WZ (by rw[pD];omega) I,Qg h]
   omega
  ·have:=aZ I j I
   omega
theorem ajN{f f':Int->Int->Int}{n:Nat}(h:∀x y:Int,y<x->0<x->x<n->(f x y<0↔f' x y<0)):∀{k:Nat},k<n->mh f k (jI n)=mh f' k (jI n):=by
 intro k
 induction k with
 |zero=>intro _;rfl
 |succ k aZ=>
  intro hk
  have aD:(mh f k (jI n)).length=n:=by rw[(Dn (by rw[pD];omega)).length_eq,pD]
  show kD f (k+1) (mh f k (jI n))=kD f' (k+1) (mh f' k (jI n))
  rw[<-aZ I]
  refine acE I fun i ar=>?_
  have ad:(mh f k (jI n)).getD (k+1) 0=((k+1:Nat):Int):=by rw[WZ (by rw[pD];omega) I,Qg hk]
  have af:=ajO (f:=f) (n:=n) (k:=k) I i I
  rw[ad]
  exact h _ _ I I I
def sQ(n:Nat)(r:Int->Nat)(i:Int):Nat:=r i*(n+1)+(n -i.toNat)
theorem anw{n:Nat}{r:Int->Nat}{x y:Int}(h:y<x)(aO:0<x)(aE:x<n):sQ n r y<sQ n r x↔r y<r x:=by
 unfold sQ
 have aB:y.toNat<x.toNat:=I
 constructor
 ·intro q
  apply jh
  intro aU
  have:=e0 (n+1) (qW aU)
  omega
 ·intro q
  have:=e0 (n+1) (EG q)
  rw[o9] at this
  omega
theorem anv{n:Nat}{r:Int->Nat}{x y:Int}(ab:0<=x/\x<n)(aB:0<=y/\y<n)(h:sQ n r x<=sQ n r y):r x<=r y/\(r x=r y->y<=x):=by
 unfold sQ at h
 constructor
 ·apply jh
  intro q
  have:=e0 (n+1) (EG (IW q))
  rw[o9] at this
  omega
 ·intro q
  rw[q] at h
  omega
theorem amo{ps:List Nat}{s M:Nat}(aE:1<=ps.length):I1 (sQ ps.length fun i=>b1 M s (ps.getD i.toNat 0)) (fW ps s M) (ps.length -1):=by
 unfold fW
 rw[ajN (n:=ps.length) (k:=ps.length -1) (f:=yr ps s M) (f':=fun a b=>jq (sQ ps.length (fun i=>b1 M s (ps.getD i.toNat 0)) b) (sQ ps.length (fun i=>b1 M s (ps.getD i.toNat 0)) a)) (fun x y h aO ab=>by
  rw[Jq,anw h aO ab];exact Jq) I]
 exact WY (r:=sQ ps.length fun i=>b1 M s (ps.getD i.toNat 0)) (k:=ps.length -1) (l:=jI ps.length) (fun a b=>Jq) (by rw[pD];omega)
def np(zs:List Int):Nat->Nat
 |0=>0
 |k+1=>if zs.getD (np zs k) 0<zs.getD (k+1) 0 then k+1 else np zs k
theorem T9{zs:List Int}:∀{k:Nat},np zs k<=k/\(∀i,i<=k->zs.getD i 0<=zs.getD (np zs k) 0)/\∀i,i<np zs k->zs.getD i 0<zs.getD (np zs k) 0:=by
 intro k
 induction k with
 |zero=>exact⟨bX _,fun i ar=>by rw[show i=0 by omega];exact SK _,fun i ar=>absurd ar (EE _)⟩
 |succ k aZ=>
  obtain⟨ad,af,aV⟩:=aZ
  unfold np
  split
  ·next q=>
   refine⟨bX _,fun i ar=>?_,fun i ar=>?_⟩
   ·by_cases e:i=k+1
    ·rw[e];exact SK _
    ·have:=af i I;omega
   ·have:=af i I;omega
  ·next q=>
   refine⟨I,fun i ar=>?_,aV⟩
   by_cases e:i=k+1
   ·rw[e];omega
   ·exact af i I
theorem acB{zs:List Int}{k b:Nat}(ak:b<=k)(af:∀i,i<=k->zs.getD i 0<=zs.getD b 0)(aV:∀i,i<b->zs.getD i 0<zs.getD b 0):np zs k=b:=by
 obtain⟨a7,a0,bJ⟩:=T9 (zs:=zs) (k:=k)
 rcases Tg (np zs k) b with q|q|q
 ·have:=aV _ q;have:=a0 b ak;omega
 ·exact q
 ·have:=bJ _ q;have:=af _ a7;omega
def lC(ps:List Nat)(s M t:Nat):List Int:=((fW ps s M).take t).foldl (fun z i=>z.set i.toNat (-(s:Int))) (ps.map fun p=>((b1 M s p:Nat):Int))
theorem Zx{v:Int}:∀{is:List Int} {z:List Int},(is.foldl (fun z i=>z.set i.toNat v) z).length=z.length
 |[],_=>rfl
 |i::is,z=>by rw[IH,Zx,hr]
theorem Zv{v:Int}:∀{is:List Int} {z:List Int} {i:Nat},(∀x∈is,0<=x)->i<z.length->(is.foldl (fun z i=>z.set i.toNat v) z).getD i 0=if(i:Int)∈is then v else z.getD i 0
 |[],z,i,_,_=>by rw[bd (by intro q;cases q)];rfl
 |k::is,z,i,aO,ar=>by
  have hk:=aO k (.head _)
  rw[IH,Zv (fun x ab=>aO x (.tail _ ab)) (by rw[hr];exact ar)]
  by_cases hm:(i:Int)∈is
  ·rw[bj hm,bj (.tail _ hm)]
  ·rw[bd hm,g5,mS]
   by_cases sr:k.toNat=i
   ·rw[bj sr,bj I,bj (by rw[show(i:Int)=k by omega];exact .head _)];rfl
   ·rw[bd sr,bd (fun q=>by rcases gb.1 q with q|q;exact sr I;exact hm q),<-g5]
theorem akv{ps:List Nat}{s M t:Nat}:(lC ps s M t).length=ps.length:=by unfold lC;rw[Zx,g6]
theorem aku{ps:List Nat}{s M t:Nat}{x:Int}(aE:1<=ps.length)(ag:0<s)(ap:ps.sum=s)(ab:(fW ps s M)[t]?=some x):np (lC ps s M t) (ps.length -1)=x.toNat:=by
 have F:=Ly (M:=M) aE ag ap
 have aS:t<ps.length:=by have:=(gS.1 ab).1;rw[F.Hw] at this;exact this
 have AU:=F.xB x (jS ab)
 have Gu:=amo (s:=s) (M:=M) aE
 have aL:∀i,i<ps.length->(lC ps s M t).getD i 0=if(i:Int)∈(fW ps s M).take t then -(s:Int) else((b1 M s (ps.getD i 0):Nat):Int):=fun i ar=>by
  unfold lC
  rw[Zv (fun y aB=>(F.xB y (x' aB)).1) (by rw[g6];exact ar)]
  have e:(ps.map fun p=>((b1 M s p:Nat):Int)).getD i 0=((b1 M s (ps.getD i 0):Nat):Int):=by
   rw[g5,ko,eE ar,g5,eE ar];rfl
  rw[e]
 have dk:x∉(fW ps s M).take t:=fun q=>by
  obtain⟨u,hu⟩:=Mc q
  have vo:=(gS.1 hu).1
  rw[dY] at vo
  rw[Ev I] at hu
  have:=(List.getElem?_inj (i:=u) (j:=t) I F.DR).1 (hu.trans ab.symm)
  omega
 have WV:(lC ps s M t).getD x.toNat 0=((b1 M s (ps.getD x.toNat 0):Nat):Int):=by
  rw[aL _ I,bd (by rw[show((x.toNat:Nat):Int)=x by omega];exact dk)]
 have key:∀i,i<ps.length->(i:Int)∉(fW ps s M).take t->b1 M s (ps.getD i 0)<=b1 M s (ps.getD x.toNat 0)/\(b1 M s (ps.getD i 0)=b1 M s (ps.getD x.toNat 0)->x<=(i:Int)):=fun i ar st=>by
  have C9:(fW ps s M).Perm (jI ps.length):=Dn (by rw[pD];omega)
  have aii:(i:Int)∈fW ps s M:=C9.mem_iff.2 (jS (KA ar))
  obtain⟨u,hu⟩:=Mc aii
  have vo:=(gS.1 hu).1
  rw[F.Hw] at vo
  have Kn:t<=u:=by
   apply jh
   intro q
   exact st (jS (show((fW ps s M).take t)[u]?=some (i:Int) by rw[Ev I];exact hu))
  have F1:(fW ps s M).getD u 0=(i:Int):=by rw[g5,hu];rfl
  have J3:(fW ps s M).getD t 0=x:=by rw[g5,ab];rfl
  have aiV:sQ ps.length (fun i=>b1 M s (ps.getD i.toNat 0)) (i:Int)<=sQ ps.length (fun i=>b1 M s (ps.getD i.toNat 0)) x:=by
   rcases iK t u with q|q
   ·have:=Gu t u q I
    rw[F1,J3] at this;exact this
   ·have e:u=t:=I
    subst e
    rw[hu] at ab;injection ab with ab;rw[ab];exact bX _
  have:=anv (r:=fun i=>b1 M s (ps.getD i.toNat 0)) (x:=(i:Int)) (y:=x) I AU aiV
  rw[jy] at this
  exact this
 refine acB I (fun i ar=>?_) fun i ar=>?_
 ·rw[WV,aL i I]
  split
  ·omega
  ·next q=>have:=(key i I q).1;omega
 ·rw[WV,aL i I]
  split
  ·omega
  ·next q=>
   have ad:=key i I q
   have af:=ad.1
   by_cases e:b1 M s (ps.getD i 0)=b1 M s (ps.getD x.toNat 0)
   ·have:=ad.2 e;omega
   ·omega
theorem acz{zs:List Int}{i:Nat}(ad:1<=i)(h:zs.getD (np zs (i -1)) 0<zs.getD i 0):i=np zs (i+1 -1):=by
 obtain⟨k,rfl⟩:∃k,i=k+1:=⟨i -1,I⟩
 rw[ld] at h
 rw[ld]
 exact(bj h).symm
theorem acA{zs:List Int}{i:Nat}(ad:1<=i)(h:¬zs.getD (np zs (i -1)) 0<zs.getD i 0):np zs (i -1)=np zs (i+1 -1):=by
 obtain⟨k,rfl⟩:∃k,i=k+1:=⟨i -1,I⟩
 rw[ld] at h ⊢
 rw[ld]
 exact(bd h).symm
theorem Zw{v:Int}{s:Nat}(az:v.natAbs<=s):∀{is:List Int} {z:List Int},(∀x∈z,x.natAbs<=s)->∀x∈is.foldl (fun z i=>z.set i.toNat v) z,x.natAbs<=s
 |[],_,h=>h
 |i::is,z,h=>Zw az (is:=is) (z:=z.set i.toNat v) fun x ab=>by
  rcases S4 ab with q|q
  ·exact h x q
  ·rw[q];exact az
theorem Xr{ps:List Nat}{s M t:Nat}(ag:0<s):∀x∈lC ps s M t,x.natAbs<=s:=by
 unfold lC
 refine Zw I fun x ab=>?_
 obtain⟨p,_,rfl⟩:=rW.1 ab
 have:b1 M s p<s:=fJ _ ag
 omega
theorem akw{ps:List Nat}{s M t:Nat}{x:Int}(ab:(fW ps s M)[t]?=some x):lC ps s M (t+1)=(lC ps s M t).set x.toNat (-(s:Int)):=by
 unfold lC
 rw[oz,ab,List.foldl_append];rfl
end
end Go.Opn
