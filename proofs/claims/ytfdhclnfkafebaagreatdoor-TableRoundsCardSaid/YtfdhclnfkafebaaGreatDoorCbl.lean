/- The law TableRounds returns true, whatever its arguments, and they read afterwards as before: the card of TableRounds. Conditions: none beyond the row's own; the listed variables are as the program's text lays them (the tie is given). -/
import Derived.Test.YtfdhclnfkafebaaGreatDoorCbk
import Derived.Test.YtfdhclnfkafebaaGreatDoorCak
import Derived.Test.YtfdhclnfkafebaaGreatDoorProg
import Derived.KernelRfl
import Derived.Test.YtfdhclnfkafebaaGreatDoorCao
import Derived.Test.YtfdhclnfkafebaaGreatDoorCap
import Derived.Conc.Holds
import Derived.SevenTiedAt
import Derived.Test.YtfdhclnfkafebaaGreatDoorCards
import Derived.Test.YtfdhclnfkafebaaGreatDoorTie
import Derived.WalkKit
import Derived.ProofKit
import Derived.OpenShut
import Derived.Deep.DeepHandedRow
import Derived.Lib.LaidTab
import Derived.LaidHandle
import Derived.LaidMore
import Derived.Stop.LaidErr
import Derived.Carry
set_option maxRecDepth 100000
set_option maxHeartbeats 8000000
set_option linter.unusedVariables false
set_option linter.unusedSimpArgs false
namespace Go.Opn
noncomputable section
open Go.Cre Go.RowKit Go.Proofs
abbrev abP(v:Value)(J:an):Value->a8->an->Prop:=fun w m' ah=>w=v/\m'=[]/\ah=J
open Classical in
def zl (l:List cG)(bits:Int):List Nat:=if vK l bits=0 then By (g2 l) (fj l) (2 ^ bits.toNat) else[]
open Classical in
def zX (l k:List cG):cE:=if qc l k=0 then rP l k else⟨0,0⟩
theorem anh{l:List cG}{bits:Int}(h:vK l bits=0):g1 l=0:=by
 by_cases q:bits<1\/30<bits
 ·rw[Rr q] at h;cases h
 ·rwa [Rs q] at h
theorem ZC{l:List cG}{bits:Int}:(zl l bits).length=if vK l bits=0 then l.length else 0:=by
 unfold zl;by_cases q:vK l bits=0
 ·rw[bj q,bj q]
  obtain⟨hU,iH,jx,pX⟩:=sR (anh q);rw[(Zc (by rw[j2];exact hU) (nX jx) pX).len,j2]
 ·rw[bd q,bd q];rfl
theorem acj{l k:List cG}(h:qc l k=0):g1 l=0/\g1 k=0:=by
 by_cases q:g1 l=0
 ·by_cases aU:g1 k=0
  ·exact⟨q,aU⟩
  ·rw[Jc q aU] at h;exact absurd h aU
 ·rw[Jb q] at h;exact absurd h q
theorem ack{l k:List cG}(bq:ou l)(fL:ou k):(ai (zX l k).z.natAbs).length<=100/\(ai (zX l k).d).length<=100:=by
 unfold zX;by_cases q:qc l k=0
 ·rw[bj q]
  obtain⟨ad,af⟩:=acj q;exact Sc ad af bq fL
 ·rw[bd q]
  show(ai 0).length<=100/\(ai 0).length<=100;rw[l5];exact⟨ep _,ep _⟩
theorem I0.H4{J ah:an}{l:List cG}{bits:Int}{u:Value}{m':a8}(h:I0 J l bits u m' ah):J.le ah/\m'=[]/\∃b c,u=.tuple #[.slice b (zl l bits).length c,.int .i64 (vK l bits)]/\cR .i64 ah (.slice b (zl l bits).length c) (zl l bits):=by
 obtain⟨ad,af,h⟩:=h;refine⟨ad,af,?_⟩;rcases h with⟨aV,rfl⟩|⟨aV,b,c,rfl,gC⟩
 ·have e:zl l bits=[]:=bd aV
  rw[e];exact⟨none,0,rfl,cR.nil⟩
 ·have e:(zl l bits).length=l.length:=by rw[ZC,bj aV]
  refine⟨b,c,by rw[e,aV],?_⟩;rw[e];have aW:zl l bits=By (g2 l) (fj l) (2 ^ bits.toNat):=bj aV;rw[aW];exact gC
theorem IZ.H4{J ah:an}{l k:List cG}{u:Value}{m':a8}(h:IZ J l k u m' ah):J.le ah/\m'=[]/\∃v1 v2,u=.tuple #[c8 (zX l k) v1 v2,.int .i64 (qc l k)]/\fO ah (zX l k) v1 v2:=by
 obtain⟨ad,af,h⟩:=h;refine⟨ad,af,?_⟩;rcases h with⟨aV,rfl⟩|⟨aV,v1,v2,rfl,c0⟩
 ·have e:zX l k=⟨0,0⟩:=bd aV
  rw[e];have aL:∀J:an,cM J (.slice none 0 0) 0:=fun J=>by unfold cM;rw[l5];exact cR.nil
  exact⟨.slice none 0 0,.slice none 0 0,rfl,⟨aL _,aL _⟩⟩
 ·have e:zX l k=rP l k:=bj aV
  rw[e,aV];exact⟨v1,v2,rfl,c0⟩
theorem ew.tight{J:an}{e:TypeId}{v:Value}{l:List cG}(h:ew J e 3 (zC J) v l)(ag:ou l):ew J e 3 (hj J) v l:=by
 obtain⟨cs,ad,af⟩:=h;refine⟨cs,ad,fun i x ab=>?_⟩;obtain⟨v1,v2,a7,a0⟩:=af i x ab;have:=ag x (jS ab);exact⟨v1,v2,a7,⟨a0.n,a0.d,this.1,this.2⟩⟩
section
variable {Q:dD Tryz.prog}{g0:Nat}{J:an}
open Classical in
theorem akh{l k:List cG}{bits:Int}{b b':Option Addr}{c c':Nat}{e:TypeId}(gX:∀J,Fn (a1 Q g0) 5 [] [] J (abP (.bool true) J))(cB:J 2=some (b7 .u8 pT,e))(aF:Nat.blt 2 (a1 Q g0).g0=true)(h:ew J 34 3 (zC J) (.slice b l.length c) l)(fR:ew J 34 3 (zC J) (.slice b' k.length c') k)(ke:l.length<=9223372036854775807)(lx:k.length<=9223372036854775807):
 Fn (a1 Q g0) 3 [.slice b l.length c,.slice b' k.length c',.int .i64 bits] [] J (fun v m' ah=>v=.bool true):=by
 have kA:addrEq b b=true:=h.addr;have HM:addrEq b' b'=true:=fR.addr;refine Fn.cr (cu Tryz.func3) rfl rfl fun H=>?_;refine rg ?_;refine U V.au ?_;refine a3 ?_;refine eP [0,1,2] ?_;refine ao ?_;refine' ae.hf 0 [(22,.bool (decide ((KK l\/KK k))))] ?m0 ?m2;case m0=>
  refine ae.region ?_;refine U V.ay ?_;refine bN (G:=Xy h ke) (h:=?_);rintro v' m' ah hle ⟨rfl,rfl,rfl⟩;refine U V.ay ?_;refine ft 19 (fun FG=>?_) fun FG=>?_
  ·refine bs ?_;refine W.wH rfl rfl rfl rfl rfl ?_;refine U V.bt ?_;refine a3 ?_;refine'⟨⟨_,rfl,⟨?QP,rfl,rfl,rfl,trivial⟩⟩,bx _,rfl⟩;case QP=>first|exact fw rfl (by first|(simp_all;done))|exact fu rfl (by first|(simp_all;done))|exact fv rfl (by first|(simp_all;done))|exact fE rfl (by first|(simp_all;done))
  ·refine bo V.ay ?_;refine qf (G:=Xy fR lx) (h:=?_);rintro v' m' ah hle ⟨rfl,rfl,rfl⟩;refine U V.bt ?_;refine a3 ?_;refine'⟨⟨_,rfl,⟨?QP,rfl,rfl,rfl,trivial⟩⟩,bx _,rfl⟩;case QP=>first|exact fw rfl (by first|(simp_all;done))|exact fu rfl (by first|(simp_all;done))|exact fv rfl (by first|(simp_all;done))|exact fE rfl (by first|(simp_all;done))
 case m2=>
  refine ao ?_;refine If (fun MY=>?_) fun MY=>?_
  ·refine rg ?_;refine bN (G:=gX _) (h:=?_);rintro v' m' ah hle ⟨rfl,rfl,rfl⟩;refine U V.au ?_;refine aA ?_;refine ae.ret ?_;refine'⟨.inr rfl,rfl,_,[],.tmp rfl .nil,br _,rfl⟩
  ·have gN:ou l/\l.length<=15:=jh fun q=>MY (.inl q);have gO:ou k/\k.length<=15:=jh fun q=>MY (.inr q);have fS:=h.tight gN.1;have FK:=fR.tight gO.1;have h2:=ack gN.1 gO.1;refine fy ?_;refine U V.ay ?_;refine bN (G:=YE fS I) (h:=?_);rintro v' m' bK hle ⟨aK,rfl,bQ,bH,rfl,u9⟩;have aX:addrEq bQ bQ=true:=u9.addr;have FK:=ew.mono (R':=hj bK) aK (fun _ _ q=>q.mono aK) FK;refine U V.ay ?_;refine bN (G:=YE FK I) (h:=?_);rintro v' m' dT hle ⟨bi,rfl,bL,bM,rfl,Ov⟩;have aU:addrEq bL bL=true:=Ov.addr;have u9:=ew.mono (R':=hj dT) bi (fun _ _ q=>q.mono bi) u9;refine al ?_;refine a2 ?_;refine al ?_;refine bN (G:=anB (bi _ _ (aK _ _ cB)) aF u9 I) (h:=?_);rintro v' m' ga hle Ox;obtain⟨cn,rfl,cZ,db,rfl,Vo⟩:=Ox.H4;have b0:addrEq cZ cZ=true:=Vo.addr;refine al ?_;refine a2 ?_;refine al ?_;refine bN (G:=anA (ew.mono (R':=hj ga) ((aK.trans bi).trans cn) (fun _ _ q=>q.mono ((aK.trans bi).trans cn)) fS) I) (h:=?_);rintro v' m' mQ hle Ox;obtain⟨eL,rfl,dE,dZ,rfl,Vp⟩:=Ox.H4;have dN:addrEq dE dE=true:=Vp.addr;have wY:=cn.trans eL;refine al ?_;refine a2 ?_;refine al ?_;refine bN (G:=aco (wY _ _ (bi _ _ (aK _ _ cB))) aF (ew.mono (R':=hj mQ) wY (fun _ _ q=>q.mono wY) u9) (ew.mono (R':=hj mQ) wY (fun _ _ q=>q.mono wY) Ov) I I) (h:=?_);rintro v' m' p4 hle Oe;obtain⟨gu,rfl,du,dt,rfl,c0⟩:=Oe.H4;have jt:=c0;obtain⟨fI,gV,rfl,gl⟩:=c0.n.bG;obtain⟨gz,e7,rfl,iC⟩:=c0.d.bG;have J9:=((aK.trans bi).trans wY).trans gu;refine al ?_
   refine' W.step rfl (.of (gx rfl rfl rfl (lb Q g0) rfl rfl rfl fun abY=>?_));refine e9 ?_;refine U V.au ?_;refine a2 ?_;refine al ?_;refine bN (G:=acn (ew.mono (R':=hj p4) J9 (fun _ _ q=>q.mono J9) fS) (ew.mono (R':=hj p4) ((bi.trans wY).trans gu) (fun _ _ q=>q.mono ((bi.trans wY).trans gu)) FK) I I) (h:=?_);rintro v' m' uC hle Oe;obtain⟨h5,rfl,du,dt,rfl,ax⟩:=Oe.H4;have sl:=ax;obtain⟨mB,hE,rfl,nH⟩:=ax.n.bG;obtain⟨mW,jU,rfl,oq⟩:=ax.d.bG;have C2:=(wY.trans gu).trans h5;refine al ?_;refine' W.step rfl (.of (gx rfl rfl rfl (lb Q g0) rfl rfl rfl fun qa=>?_));refine e9 ?_;refine U V.au ?_;refine a2 ?_;refine al ?_;refine bN (G:=ab' (by rw[ZC];split<;>omega) (((Vo.mono eL).mono gu).mono h5) ((Vp.mono gu).mono h5)) (h:=?_);rintro v' m' ah hle ⟨rfl,rfl,rfl⟩;refine U V.ay ?_;refine ft 55 (fun FH=>?_) fun FH=>?_
   ·refine bo V.ay ?_;refine bo V.ay ?_;refine bo V.bb ?_;refine U V.bt ?_;refine U V.ay ?_;refine ft 60 (fun N'=>?_) fun N'=>?_
    ·refine bo V.hT ?_;refine bo V.hT ?_;refine qf (G:=anO (jt.mono h5) sl I I) (h:=?_);rintro v' m' ah hle ⟨rfl,rfl,acC,rfl,As⟩;have As:=As.2 rfl;subst As;refine U V.bt ?_;refine U V.ay ?_;refine ft 65 (fun N6=>?_) fun N6=>?_
     ·refine bo V.ay ?_;refine bo V.ay ?_;refine bo V.bb ?_;refine U V.bt ?_;refine U V.ay ?_;refine ft 70 (fun N7=>?_) fun N7=>?_
      ·
        refine bo V.ay ?_;refine bo V.ay ?_;refine qf (G:=Zp I (ew.mono (R':=hj uC) C2 (fun _ _ q=>q.mono C2) u9) (ew.mono (R':=hj uC) (J9.trans h5) (fun _ _ q=>q.mono (J9.trans h5)) fS)) (h:=?_);rintro v' m' ah hle ⟨rfl,rfl,rfl⟩;refine U V.bt ?_;refine U V.ay ?_;refine ft 75 (fun N8=>?_) fun N8=>?_
        ·refine bo V.ay ?_;refine bo V.ay ?_;refine qf (G:=Zp I (ew.mono (R':=hj uC) C2 (fun _ _ q=>q.mono C2) Ov) (ew.mono (R':=hj uC) (bi.trans C2) (fun _ _ q=>q.mono (bi.trans C2)) FK)) (h:=?_);rintro v' m' ah hle ⟨rfl,rfl,rfl⟩;refine U V.bt ?_;refine U V.ay ?_;refine ft 80 (fun N9=>?_) fun N9=>?_
         ·refine qf (G:=gX _) (h:=?_);rintro v' m' ah hle ⟨rfl,rfl,rfl⟩;refine U V.bt ?_;refine U V.au ?_;refine aA ?_;refine ae.ret ?_;refine'⟨.inr rfl,rfl,_,[],.tmp rfl .nil,br _,rfl⟩
         ·exfalso;first|cases N9|exact N9 rfl
        ·exfalso;first|cases N8|exact N8 rfl
      ·
        exfalso;first|cases N7|exact N7 rfl
     ·exfalso;first|cases N6|exact N6 rfl
    ·exfalso;first|cases N'|exact N' rfl
   ·exfalso;first|cases FH|exact FH rfl
end
end
end Go.Opn
namespace Go.Opn
noncomputable section
open Go Go.Cre Go.RowKit Go.Proofs
def Q8:List Int:=[0,1,56,2,57,49,28,3,61,58,42,50,38,29,17,4,62,47,59,36,45,43,51,22,53,39,33,30,24,18,12,5,63,55,48,27,60,41,37,16,46,35,44,21,52,32,23,11,54,26,40,15,34,20,31,10,25,14,19,9,13,8,7,6]
def adq:List Value:=Q8.map fun z=>Value.int .u8 z
def Z1:List (Nat×TypeId×List Value):=[(2,184,adq)]
def H0:aw:=UX 3 2 Z1
theorem akG:isTrue ((uY Tryz.prog (CD Tryz.prog) 10000).body 5 [] false .run H0)=true:=by kernel_rfl
end
end Go.Opn
namespace Go.Opn
noncomputable section
open Go Go.Cre Go.RowKit
section
variable {H:Type}{P:Program}{enc:TypeId×Value->H}{W:World}{fuel:Nat}{t e:TypeId}{cs:List Value}{x:DataW H×List MemPlace}
theorem UJ{α:Type}{sz:Nat}{R:α->List Value->Prop}(aS:P.underlying t=some (.slice e))(ea:P.cellsOf e=sz)(aO:0<sz)(h:rK enc P W fuel t cs=some x)
 (av:∀m cN y,rK enc P W m e cN=some y->∃a:α,R a (cN.map (iM P W))):
 ∃(xs:List α) (b:Option Addr) (c:Nat),cs.map (iM P W)=[.slice b xs.length c]/\ew (pE P W) e sz R (.slice b xs.length c) xs/\xs.length<=maxLen:=by
 obtain⟨b,n,c,rows,el,ds,m,ad,_,aV,bq,fL,hv,nt,CI⟩:=an9 aS ea aO h;have n7:∀i:Fin n,∃a:α,R a (((rows.map (iM P W)).drop (i.1*sz)).take sz):=fun i=>by
  obtain⟨aX,aU,y,b0,dN⟩:=hv i.1 _ (eE (show i.1<el.length by have:=i.2;omega));obtain⟨a,r⟩:=av _ _ _ dN;refine⟨a,?_⟩;rw[<-S2,<-zI,aU];exact r
 refine⟨List.ofFn fun i=>Classical.choose (n7 i),b,c,by rw[S0];exact ad,⟨rows.map (iM P W),by rw[S0];exact aV e,fun i a aI=>?_⟩,by rw[S0];exact CI⟩;have ar:i<n:=by have:=(gS.1 aI).1;simpa using this
 rw[List.getElem?_ofFn,dif_pos ar] at aI;injection aI with aI
 rw[<-aI];exact SF (n7 ⟨i,ar⟩)
end
end
end Go.Opn
namespace Go.Cre
noncomputable section
end
end Go.Cre
namespace Go.Opn
noncomputable section
open Go Go.Cre Go.RowKit Go.Proofs Go.ChangeShapes Go.WideShapes Go.ChangeAt
open Go.Proofs.YtfdhclnfkafebaaGreatDoor
abbrev PP:=Tryz.prog
theorem xV:PP.underlying 3=some (.int .i64):=by kernel_rfl
theorem R4:PP.underlying 22=some (.slice 34):=by kernel_rfl
theorem u32:PP.underlying 32=some (.slice 72):=by kernel_rfl
theorem api:PP.underlying 72=some (.int .u32):=by kernel_rfl
theorem BH:PP.underlying 4=some .bool:=by kernel_rfl
theorem ac5:PP.cellsOf 72=1:=by kernel_rfl
theorem dZ:PP.cellsOf 4=1:=by kernel_rfl
theorem r9:PP.cellsOf 32=1:=by kernel_rfl
theorem yn:PP.cellsOf 34=3:=by kernel_rfl
theorem anM:RR PP 34=some 3:=by kernel_rfl
theorem afT:FB PP 34 0=some (4,0):=by kernel_rfl
theorem afU:FB PP 34 1=some (32,1):=by kernel_rfl
theorem afV:FB PP 34 2=some (32,2):=by kernel_rfl
theorem db:PP.cellsOf 3=1:=by kernel_rfl
theorem ajS{P:Program}{W:World}{base:Nat}{t:TypeId}{v:Value}{k:IntKind}(hu:P.underlying t=some (.int k))(h:Value.okWide P W .any base t v):v.cells.toList=[v]:=by
 unfold Value.okWide at h;rw[hu] at h;simp only at h;unfold Cell.okWide at h;rw[hu] at h;cases v with
 |agg cs=>simp[Cell.ok,hu] at h
 |_=>rfl
theorem trodAll_three{H:Type}{enc:TypeId×Value->H}{P:Program}{w:World}{base:Nat}{spare:Nat->Bool}{held:Bool}{t0 t1 t2:TypeId}{args:Array Value}{ds:List (DataW H)}{ps:List MemPlace}(h:DataW.TrodAll enc P w base spare held [t0,t1,t2] args.toList ds ps):
 ∃v0 v1 v2 d0 d1 d2 jw dr hC,args=#[v0,v1,v2]/\ds=[d0,d1,d2]/\ps=jw++dr++hC/\DataW.Trod enc P w base spare held t0 v0 d0 jw/\DataW.Trod enc P w base spare held t1 v1 d1 dr/\DataW.Trod enc P w base spare held t2 v2 d2 hC:=by
 obtain⟨v0,aaH,d0,arE,jw,iq,aI,rfl,rfl,aO,h⟩:=trodAll_cons h;obtain⟨v1,ap2,d1,uW,dr,aX,rfl,rfl,rfl,ad,h⟩:=trodAll_cons h;obtain⟨v2,atP,d2,arF,hC,aU,rfl,rfl,rfl,af,h⟩:=trodAll_cons h;obtain⟨rfl,rfl,rfl⟩:=trodAll_nil h;exact⟨v0,v1,v2,d0,d1,d2,jw,dr,hC,by cases args;simp_all,rfl,by simp,aO,ad,af⟩
theorem ZI{P:Program}{W:World}{base:Nat}{t e:TypeId}{v:Value}(hu:P.underlying t=some (.slice e))(h:Value.okWide P W .any base t v):v.cells.toList=[v]:=by
 unfold Value.okWide at h;rw[hu] at h;simp only at h;unfold Cell.okWide at h;rw[hu] at h;cases v with
 |agg cs=>simp[Cell.ok,hu] at h
 |_=>rfl
theorem anF{W:World}{g:Nat}{t:TypeId}{f:Nat×Nat}(h:W.heap[g]?=some (.cells (b7 .u8 pT).toArray t f)):pE PP W g=some (b7 .u8 pT,t):=by
 show ug PP W g=_;rw[LA (Ry h)];have e:(b7 .u8 pT).toArray.toList.map (iM PP W)=b7 .u8 pT:=by
  unfold b7;rw[List.toList_toArray,S3];exact List.map_congr_left fun b _=>EM rfl
 rw[e]
theorem akA{H:Type}{enc:TypeId×Value->H}{P:Program}{W:World}{fuel:Nat}{t:TypeId}{cs:List Value}{x:DataW H×List MemPlace}(aS:P.underlying t=some (.int .u32))(h:rK enc P W fuel t cs=some x):∃y:Nat,cs.map (iM P W)=[.int .u32 (y:Int)]:=by
 obtain⟨i,rfl,_,vp⟩:=DataW.trod_int aS h;have av:0<=i:=by
  have vp:(decide (IntKind.u32.min<=i)&&decide (i<=IntKind.u32.max))=true:=vp;rw[gI] at vp;exact Hr vp.1
 exact⟨i.toNat,by rw[uF,EM rfl,show((i.toNat:Nat):Int)=i by omega];rfl⟩
theorem alA{J:an}{e:TypeId}{v:Value}{l:List Nat}(h:ew J e 1 (fun(z:Nat) cs=>cs=[.int .u32 (z:Int)]) v l):cR .u32 J v l:=by
 obtain⟨cs,ad,af⟩:=h;refine⟨e,?_⟩;have aD:=ad.len;have aC:cs=b7 .u32 l:=by
  refine IG fun i=>?_;by_cases ar:i<l.length
  ·have aV:=af i _ (eE ar);have bq:((cs.drop (i*1)).take 1)[0]?=cs[i]?:=by rw[ji,bj I,p5,gT,iI]
   rw[aV] at bq;rw[<-bq,La (eE ar)];rfl
  ·rw[qT I,qT (by rw[oU];omega)]
 rw[<-aC];exact ad
theorem X8{H:Type}{enc:TypeId×Value->H}{W:World}{fuel:Nat}{cs:List Value}{x:DataW H×List MemPlace}(h:rK enc PP W fuel 32 cs=some x):∃(l:List Nat) (b:Option Addr) (c:Nat),cs.map (iM PP W)=[.slice b l.length c]/\cR .u32 (pE PP W) (.slice b l.length c) l:=by
 obtain⟨l,b,c,ad,af,_⟩:=UJ (α:=Nat) (R:=fun z cs=>cs=[.int .u32 (z:Int)]) u32 ac5 Nat.one_pos h fun m cN y aB=>akA api aB;exact⟨l,b,c,ad,alA af⟩
theorem anc{H:Type}{enc:TypeId×Value->H}{W:World}{fuel:Nat}{cs:List Value}{x:DataW H×List MemPlace}(h:rK enc PP W fuel 34 cs=some x):∃a:cG,zC (pE PP W) a (cs.map (iM PP W)):=by
 obtain⟨n,aD,aM⟩:=aoG anM h;rw[yn] at aD;obtain⟨l9,aO,_⟩:=aM 0 4 0 1 bC afT dZ;obtain⟨hU,ad,_⟩:=aM 1 32 1 1 bC afU r9;obtain⟨iH,af,_⟩:=aM 2 32 2 1 bC afV r9
 match cs,aD,aO,ad,af with
 |[p,q,r],_,aO,ad,af=>
  obtain⟨fo,jC⟩:∃fo:Bool,[p]=[Value.bool fo]:=by
   obtain⟨fo,e,_⟩:=DataW.trod_bool BH aO;exact⟨fo,e⟩
  obtain⟨dF,bQ,bH,aC,a7⟩:=X8 ad;obtain⟨dq,bL,bM,aW,a0⟩:=X8 af;injection jC with jC _
  subst jC;refine⟨⟨fo,dF,dq⟩,.slice bQ dF.length bH,.slice bL dq.length bM,?_,⟨a7,a0⟩⟩;have aC:iM PP W q=.slice bQ dF.length bH:=by have:[iM PP W q]=[.slice bQ dF.length bH]:=aC;injection this
  have aW:iM PP W r=.slice bL dq.length bM:=by have:[iM PP W r]=[.slice bL dq.length bM]:=aW;injection this
  show[iM PP W (.bool fo),iM PP W q,iM PP W r]=_;rw[aC,aW,EM rfl]
theorem aaC{H:Type}{enc:TypeId×Value->H}{W:World}{fuel:Nat}{cs:List Value}{x:DataW H×List MemPlace}(h:rK enc PP W fuel 22 cs=some x):∃(l:List cG) (b:Option Addr) (c:Nat),cs.map (iM PP W)=[.slice b l.length c]/\ew (pE PP W) 34 3 (zC (pE PP W)) (.slice b l.length c) l/\l.length<=9223372036854775807:=by
 obtain⟨l,b,c,ad,af,aV⟩:=UJ (α:=cG) (R:=zC (pE PP W)) R4 yn bC h fun m cN y aB=>anc aB;have Pk:maxLen=9223372036854775807:=by decide
 exact⟨l,b,c,ad,af,I⟩
open Go.Proofs.YtfdhclnfkafebaaGreatDoor
theorem own:ownKnob Tryz.prog.godebug=none:=by kernel_rfl
theorem NY:Tryz.prog.globalNamed "math/bits.deBruijn64tab"=some 2:=by kernel_rfl
theorem agl:(Tryz.prog.globals[2]?).map (·.type)=some 184:=by kernel_rfl
theorem agm:Tryz.prog.underlying 184=some (.array 64 5):=by kernel_rfl
theorem agj:Tryz.prog.underlying 5=some (.int .u8):=by kernel_rfl
theorem agk:Tryz.prog.cellsOf 5=1:=by kernel_rfl
theorem agi:Tryz.prog.cellsOf 184=64:=by kernel_rfl
theorem U7:(((begin Tryz.prog (fun _ _=>0) default).world.heap[2]?).bind Obj.row?).map (·.2)=some 184:=by kernel_rfl
theorem U6:2<Tryz.prog.globals.size:=by decide+kernel
theorem tables{W:World}(h:laidMetH Tryz.prog Rows.tableRoundsRow.laid W):Lib.TabIs Tryz.prog W "math/bits.deBruijn64tab" .u8 Q8:=by
 have aO:laidMet Tryz.prog [("math/bits.deBruijn64tab",Lib.tabData .u8 Q8)] W:=h;exact Lib.tabIs_of_head NY agl agm agj agk agi aO
theorem first{W:World}(h:laidMetH Tryz.prog Rows.tableRoundsRow.laid W)(ag:W.ShapedOpen Tryz.prog):Laid Tryz.prog W H0:=by
 refine ake fun g e cells hm=>?_;have aS:=tables h;simp only[Z1,gb,dK,IL,or_false] at hm;obtain⟨rfl,rfl,rfl⟩:=hm;exact⟨by decide,Xc NY U6 U7 ag aS,by kernel_rfl,by decide+kernel⟩
theorem akH:∃c,Tryz.f5.body=some c:=⟨_,rfl⟩
theorem akg:∃c,Tryz.f3.body=some c:=⟨_,rfl⟩
theorem laidOut:laidOutB Tryz.prog=true:=by kernel_rfl
theorem ani:∀t∈Tryz.f3.params.toList,PP.readableRec t=true/\t<PP.types.size:=by
 intro t aS;rw[Tryz.params3] at aS;simp only[gb,IL,or_false] at aS;rcases aS with rfl|rfl|rfl<;>exact⟨by kernel_rfl,Hr (by kernel_rfl)⟩
set_option maxRecDepth 100000 in
theorem ad4(H:Type)(enc:TypeId×Value->H)(W:World)(base:Nat)(args:Array Value)(ds gs:List (DataW H))(before:List MemPlace)
 (k1:∀(j:Nat) t v,Tryz.f3.params[j]?=some t->args[j]?=some v->Value.okWide Tryz.prog W .any base t v)
 (gX:DataW.Whole enc Tryz.prog Tryz.f3.params.toList Rows.tableRoundsSpec.vars false W args.toList ds gs before)
 (aL:(DataW.weightsEach Tryz.prog Tryz.f3.params.toList ds).all (·<=reachBytes)=true)
 (bB:laidMetH Tryz.prog Rows.tableRoundsRow.laid W)(ax:W.ShapedOpen Tryz.prog):
 Calls Tryz.prog 3 args W fun e nQ=>∃v,e=.returned v/\Rows.tableRoundsSpec.post enc Tryz.prog Tryz.f3 false true false false W args v nQ:=by
 have Oy:=gX;obtain⟨p,q,hF,jX,rfl,F4,ez⟩:=gX;have eT:DataW.TrodAll enc Tryz.prog W 0 (fun _=>true) true Tryz.f3.params.toList args.toList ds p:=hF;obtain⟨rfl,rfl⟩:=trodVars_none jX;rw[Tryz.params3] at eT k1 aL;obtain⟨v0,v1,v2,d0,d1,d2,jw,dr,hC,rfl,rfl,rfl,⟨atp,t0⟩,⟨dv,t1⟩,⟨dV,t2⟩⟩:=trodAll_three eT;have lu:=ZI R4 (k1 0 22 v0 rfl rfl);have vc:=ZI R4 (k1 1 22 v1 rfl rfl);have gY:=ajS xV (k1 2 3 v2 rfl rfl);rw[lu] at t0;rw[vc] at t1;rw[gY] at t2;obtain⟨l,th,W8,jC,aD,ke⟩:=aaC t0;obtain⟨k,MS,A1,aC,hk,lx⟩:=aaC t1;obtain⟨i2,_,aW⟩:=ajR xV t2;simp at jC aC aW;obtain⟨q3,tE⟩:=akH;obtain⟨yp,lY⟩:=akg;have VP:=first bB ax;obtain⟨fF,Y1⟩:=Xc NY U6 U7 ax (tables bB);have lt:=(L3.1 Y1).1
 have b4:=akh (Q:=Sj Tryz.prog H0) (g0:=W.heap.size) (J:=pE PP W) (l:=l) (k:=k) (bits:=i2) (b:=th) (b':=MS) (c:=W8) (c':=A1)
  (fun J=>Fn.closed (K:=a1 (Sj Tryz.prog H0) W.heap.size) (H0:=H0) rfl Tryz.func5 tE (fun _ _ h=>h) (fun w h=>adT (YI sJ num) Tryz.func5 tE h akG))
  (anF Y1) (by simpa[Nat.blt,v8] using lt) aD hk ke lx
 have Gq:ca (ry PP W) [.slice th l.length W8,.slice MS k.length A1,.int .i64 i2] (#[v0,v1,v2]:Array Value).toList:=by
  have iq:=I8 (P:=PP) (w:=W) v0;have aX:=I8 (P:=PP) (w:=W) v1;rw[jC] at iq;have aU:=I8 (P:=PP) (w:=W) v2;rw[aC] at aX;rw[aW] at aU;exact .cons iq (.cons aX (.cons aU (.nil _)))
 refine(amk (K:=a1 (Sj Tryz.prog H0) W.heap.size) (w:=W) (b:=true) ⟨VP,VP.ajM⟩ rfl Tryz.func3 lY Gq b4).mono fun e nQ bS=>?_;obtain⟨he,ak⟩:=bS;subst he;exact⟨_,rfl,amQ Oy ak laidOut ani rfl rfl rfl (fun _ _ _=>trodAll_cons_mk (shut_bool Tryz.underlying4 _) trodAll_mk0)⟩
def Qk (os:Os):World:=World.doorLaid Tryz.prog 400 os
def Je:Array Value:=#[.slice none 0 0,.slice none 0 0,.int .i64 0]
def aee{H:Type}:List (DataW H):=[.nil,.nil,.lit (.int .i64 0)]
theorem akd(os:Os):laidMetH Tryz.prog Rows.tableRoundsRow.laid ((Qk os).forCall (fun _ _=>0) ⟨#[],Je,[]⟩).memory:=
 laidMetH_of_parts3 (fuel:=8) (laidMet_of_run' 8 (by kernel_rfl) (by kernel_rfl)) (by kernel_rfl) (by kernel_rfl)
theorem reads(os:Os){H:Type}(enc:TypeId×Value->H):∃places,DataW.whole enc Tryz.prog ((Qk os).forCall (fun _ _=>0) ⟨#[],Je,[]⟩).memory Tryz.f3.params.toList Rows.tableRoundsSpec.vars false Je.toList 8=some (aee,[],places):=
 ⟨[],by kernel_rfl⟩
set_option maxRecDepth 100000 in
theorem lifted(os:Os)(started:os.Started)(H:Type)(enc:TypeId×Value->H)(F:Stop.Interp):
 ReturnsInHanded {} Tryz.checked os 3 .any ((OpenSpec.ofChange Rows.tableRoundsSpec).preRow enc Tryz.prog Tryz.f3 Rows.tableRoundsRow.domain false Rows.tableRoundsRow.laid) (((OpenSpec.ofChange Rows.tableRoundsSpec).at F).post enc Tryz.prog Tryz.f3 false true false false):=by
 obtain⟨places,ab⟩:=reads os enc
 refine returnsInHanded_of_row (C:=Tryz.checked) (s:=OpenSpec.ofChange Rows.tableRoundsSpec) own started (by kernel_rfl) Tryz.func3
  (witness_row_at (enc:=enc) (C:=Tryz.checked) false (Qk os) Je rfl (by kernel_rfl) (by kernel_rfl) (by kernel_rfl)
   (OpenSpec.preRow_of_cond 8 ab (by kernel_rfl) (fun k hk=>by cases hk) (by kernel_rfl) (akd os))) ?_
 intro W base args ds gs before k1 gX _ _ aL bB ax _;have aF:gs=[]:=by
  obtain⟨p,q,_,jX,_⟩:=gX;exact(trodVars_none jX).1
 subst aF;refine ad4 H enc W base args ds [] before k1 gX ?_ bB ax;have sC:(OpenSpec.ofChange Rows.tableRoundsSpec).bare.plain.varTypes Tryz.checked.prog=[]:=by kernel_rfl
 rw[sC,iU,iU] at aL;exact aL
theorem said:Rows.TableRoundsSaid:=
 OpenClaim.holds_of_cond 3 Tryz.f3 rfl rfl rfl rfl rfl rfl rfl ⟨rfl,rfl,rfl,rfl,rfl⟩ rfl rfl rfl rfl rfl (by kernel_rfl) Tryz.func3 (by kernel_rfl)
  (Hr (by kernel_rfl)) (by unfold Func.isWrapper;first|(rw[bj (by decide+kernel)];kernel_rfl)|(rw[bd (by decide+kernel)];exact⟨rfl,rfl⟩))
  (fun os started H enc _ F=>by rw[OpenClaim.pre_eq_preRow];exact lifted os started H enc F)
theorem ZU:Tryz.prog.wantsStandIn 22=false:=by kernel_rfl
theorem aoD:Tryz.prog.wantsStandIn 3=false:=by kernel_rfl
theorem om(f:FuncId)(fn:Func)(aM:Tryz.pinned.checked.prog.funcNamed "parlour/parlourlaw31.TableRounds"=some f)(CX:Tryz.pinned.checked.prog.funcs[f]?=some fn):
 true=Tryz.pinned.checked.prog.looks []/\∀(j:Nat) t,fn.params[j]?=some t->Tryz.pinned.checked.prog.wantsStandIn t=false:=by
 obtain rfl:f=3:=v9 ((show Tryz.prog.funcNamed "parlour/parlourlaw31.TableRounds"=some 3 by kernel_rfl).symm.trans aM) |>.symm
 obtain rfl:fn=Tryz.f3:=(v9 (Tryz.func3.symm.trans CX)).symm;refine⟨by kernel_rfl,fun j t aS=>?_⟩;rw[Tryz.params3] at aS
 match j,aS with
 |0,aS=>simp at aS;subst aS;exact ZU
 |1,aS=>simp at aS;subst aS;exact ZU
 |2,aS=>simp at aS;subst aS;exact aoD
 |j+3,aS=>simp at aS
theorem card:Rows.TableRoundsCardSaid:=
 Claim7.holds_tied_plain_at .later [] _ _ _ _ said (fun _ h=>by cases h) (by kernel_rfl) (fun _ h=>by cases h) tableRounds_row_tie rfl ⟨rfl,rfl⟩ (by kernel_rfl) rfl om (by kernel_rfl)
end
end Go.Opn
namespace Go.Proofs.YtfdhclnfkafebaaGreatDoor
theorem openTableRounds : Rows.TableRoundsCardSaid := Go.Opn.card
end Go.Proofs.YtfdhclnfkafebaaGreatDoor
