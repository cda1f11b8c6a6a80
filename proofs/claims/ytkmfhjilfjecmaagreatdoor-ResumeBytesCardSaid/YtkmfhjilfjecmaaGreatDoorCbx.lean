/- A part of the proof of ResumeBytes. -/
import Derived.Test.YtkmfhjilfjecmaaGreatDoorCbw
import Derived.Test.YtkmfhjilfjecmaaGreatDoorCbq
import Derived.Test.YtkmfhjilfjecmaaGreatDoorCaz
import Derived.Test.YtkmfhjilfjecmaaGreatDoorCax
set_option maxRecDepth 100000
set_option maxHeartbeats 8000000
set_option linter.unusedVariables false
set_option linter.unusedSimpArgs false
namespace Go.Opn
noncomputable section
open Go.Cre Go.RowKit Go.Proofs
section
variable {Q:dD Tryz.prog}{g0:Nat}{J:aH}
open Classical in
theorem anU{g:bq}{t:gI}{aT aK bs ct:Option Addr}{aQ ci cs cE N:Nat}(hw:jg g)(aq:fH J g aT aQ aK ci)(aB:jj J t bs cs ct cE)(dd:fp g t.sum t.pl 0)(rK:kj g=0)(mZ:N<=30)(aw:t.r=0)(hs:1<=t.s)(jN:t.s<=2147483646):
 Fn (bd Q g0) 17 [hb g aT aQ aK ci,nu t bs cs ct cE,.int .i64 (N:Int)] [] J (fun u m' af=>J.le af/\m'=[]/\∃ek bs cs ct cE,u=.tuple #[nu ek bs cs ct cE,.int .i64 0]/\jj af ek bs cs ct cE/\fp g ek.sum ek.pl (450*N)/\ek.r=N/\1<=ek.s/\ek.s<=2147483646):=by
 have fX:addrEq aK aK=true:=aq.i.addr;have gq:addrEq aT aT=true:=aq.n.addr;have ta:addrEq bs bs=true:=aB.s.addr;have zT:addrEq ct ct=true:=aB.p.addr;have i2:=hw.i2;obtain⟨Ms,Mt,CB,CC⟩:=dd.len hw;refine Fn.cH (cM Tryz.func17) rfl rfl fun H=>?_;refine rg ?_;refine dK fun a3=>?_;refine dK fun a4=>?_;refine' W.step rfl (.of (eT rfl rfl rfl (kY Q g0) rfl rfl rfl fun da=>?_));refine I V.az ?_;refine bi ?_;refine I V.gV ?_;refine I V.gV ?_;refine cl (G:=YV aq aB (by omega) (fun r aw=>by have:=CB r aw;omega) (by omega) (fun r aw=>by have:=CC r aw;omega)) (h:=?_);rintro v m' dO ch ⟨rfl,rfl,_⟩;refine I V.az ?_;refine bi ?_;refine I V.ag ?_;refine I V.aZ ?_;refine ns ?_;refine If (fun kN=>?_) fun kN=>?_
 ·exfalso;exact kN (dd.check rK (by omega) (by omega) (by omega) (by omega) jN)
 ·refine aj ?_;refine ab.skip ?_;refine fR [2,3,4,6] ?_;refine aj ?_;refine' ab.hl 0 [(36,.bool (decide ((t.s=0\/(N:Int)<0\/20000<(N:Int)\/1000000<t.r+N))))] ?tF ?tI;case tF=>
   refine ab.region ?_;refine I V.ba ?_;refine I V.bJ ?_;refine I V.aZ ?_;refine I V.ag ?_;refine dr 22 (fun py=>?_) fun py=>?_
   ·refine ah ?_;refine ah ?_;refine I V.aU ?_;refine I V.ag ?_;refine ah ?_;refine ah ?_;refine I V.aU ?_;refine I V.ag ?_;refine ah ?_;refine ah ?_;refine ah ?_;refine ah ?_;refine ah ?_;refine I V.aU ?_;refine a6 ?_;refine'⟨⟨_,rfl,⟨?n36,rfl,rfl,rfl,rfl,trivial⟩⟩,bu _,rfl⟩;case n36=>first|exact iV rfl (by omega)|exact iT rfl (by omega)|exact iU rfl (by omega)
   ·refine aX V.ag ?_;refine aX V.aZ ?_;refine I V.aU ?_;refine I V.ag ?_;refine dr 26 (fun Om=>?_) fun Om=>?_
    ·refine ah ?_;refine ah ?_;refine I V.aU ?_;refine I V.ag ?_;refine ah ?_;refine ah ?_;refine ah ?_;refine ah ?_;refine ah ?_;refine I V.aU ?_;refine a6 ?_;refine'⟨⟨_,rfl,⟨?n36,rfl,rfl,rfl,rfl,trivial⟩⟩,bu _,rfl⟩;case n36=>first|exact iV rfl (by omega)|exact iT rfl (by omega)|exact iU rfl (by omega)
    ·refine aX V.ag ?_;refine aX V.aZ ?_;refine I V.aU ?_;refine I V.ag ?_;refine dr 30 (fun agx=>?_) fun agx=>?_
     ·refine ah ?_;refine ah ?_;refine ah ?_;refine ah ?_;refine ah ?_;refine I V.aU ?_;refine a6 ?_;refine'⟨⟨_,rfl,⟨?n36,rfl,rfl,rfl,rfl,trivial⟩⟩,bu _,rfl⟩;case n36=>first|exact iV rfl (by omega)|exact iT rfl (by omega)|exact iU rfl (by omega)
     ·refine aX V.ba ?_;refine aX V.bJ ?_;refine aX V.ag ?_;refine aX V.bt ?_;refine aX V.aZ ?_;refine I V.aU ?_;refine a6 ?_;refine'⟨⟨_,rfl,⟨?n36,rfl,rfl,rfl,rfl,trivial⟩⟩,bu _,rfl⟩;case n36=>first|exact iV rfl (by omega)|exact iT rfl (by omega)|exact iU rfl (by omega)
  case tI=>
   refine aj ?_;refine If (fun fW=>?_) fun fW=>?_
   ·exfalso;omega
   ·refine aj ?_;refine ab.skip ?_;refine rg ?_;refine I V.gV ?_;refine cl (G:=Ym (aB.mono ch) (by omega) (by omega) (fun r aw=>by have:=CB r aw;omega) (fun r aw=>by have:=CC r aw;omega)) (h:=?_);rintro v m' e2 cF ⟨_,ez,hK,fi,fI,hJ,fA,gX,sp,uu,us,rfl,rfl,gT,ju⟩;refine' W.step rfl (.of (eT rfl rfl rfl (kY Q g0) rfl rfl rfl fun a9=>?_));refine dC ?_;refine a6 ?_;refine ab.gN (m':=gX++(sp++[(a9,.row [.int .i64 t.r,.int .i64 t.s,.slice ez hK fi,.slice fI hJ fA] 30),(da,.row [.int .i64 0,.int .i64 0,.slice none 0 0,.slice none 0 0] 30),(a4,.row (hI t bs cs ct cE) 30),dh a3 g aT aQ aK ci])) (jz (r:=(a9,.row [.int .i64 t.r,.int .i64 t.s,.slice ez hK fi,.slice fI hJ fA] 30)::((gX++sp)++[(da,.row [.int .i64 0,.int .i64 0,.slice none 0 0,.slice none 0 0] 30),(a4,.row (hI t bs cs ct cE) 30),dh a3 g aT aQ aK ci]))) ?_;refine gT.hQ (fun _ _ _ h=>h.ok) (.refl _) fun Ar lP xq=>?_;refine(ju.mono lP).hQ (fun _ _ _ h=>h.ok) (.refl _) fun k0 kQ xr=>?_;subst uu;subst us;have ng:=ch.trans (cF.trans (lP.trans kQ));have dn:jj k0 t ez fi fI fA:=⟨xq.mono kQ fun _ _ q=>q.mono kQ,xr⟩;refine aj ?_;refine ab.block ?_;refine' ab.c0 (l':=[(2,.int .i64 ((N):Int)),(3,_),(6,_),(9,_)]) ⟨?hi,rfl,rfl,rfl,trivial⟩ (bu _) ?_;case hi=>exact bP
    refine aj ?_;refine' ab.dF (fun(bC:Nat×gI×(Option Addr)×Nat×(Option Addr)×Nat×aH)=>match bC with|(k,nD,b1,c1,b2,c2,dX)=>⟨[(2,.int .i64 (k:Int))],[(a9,.row (hI nD b1 c1 b2 c2) 30),(da,.row [.int .i64 0,.int .i64 0,.slice none 0 0,.slice none 0 0] 30),(a4,.row (hI t bs cs ct cE) 30),dh a3 g aT aQ aK ci],dX,k<=N/\k0.le dX/\jj dX nD b1 c1 b2 c2/\fp g nD.sum nD.pl (450*(N -k))/\nD.r+k=N/\1<=nD.s/\nD.s<=2147483646,k⟩) ⟨N,t,ez,fi,fI,fA,k0⟩ ?hs ?bA
    case hs=>exact⟨cW _,aH.le.refl _,dn,dd.wide (by omega),by rw[aw];simp,hs,jN⟩
    case bA=>
     rintro⟨k,nD,b1,c1,b2,c2,dX⟩ hinv;try simp only at hinv
     obtain⟨aO,dp,dn,xp,pH,BI,P6⟩:=hinv;refine rg ?_;refine I V.ag ?_;refine I V.aZ ?_;refine ns ?_;refine If (fun Nq=>?_) fun Nq=>?_
     ·have xL:=ng.trans dp;have bb:addrEq b1 b1=true:=dn.s.addr;have a7:addrEq b2 b2=true:=dn.p.addr;refine c7 ?_;refine aj ?_;refine ab.block ?_;refine rg ?_;refine I V.gV ?_;refine I V.gV ?_;refine cl (G:=amX hw (aq.mono xL) dn xp (by omega) (by omega) (by omega) (by omega) (by omega)) (h:=?_);rintro v m' As o2 ⟨_,rfl,JV,b3,c3,b4,p',rfl,ON,Ox,HP,ajE,ajF⟩;refine aM ?_;refine' W.step rfl (.of (eT rfl rfl rfl (kY Q g0) rfl rfl rfl fun si=>?_));refine dC ?_;refine I V.az ?_;refine bi ?_;refine I V.ag ?_;refine I V.aZ ?_;refine ns ?_;refine If (fun TX=>?_) fun TX=>?_
      ·exfalso;exact TX rfl
      ·refine aj ?_;refine ab.skip ?_;refine rg ?_;refine I V.gV ?_;refine dC ?_;refine bi ?_;refine I V.ag ?_;refine I V.bt ?_;refine I V.az ?_;refine a6 ?_;refine cB ⟨k -1,JV,b3,c3,b4,p',As⟩ ?_ (hm:=.cons _ (.refl _));exact⟨by omega,dp.trans o2,ON,Ox.wide (by omega),by omega,ajE,ajF⟩
     ·obtain rfl:k=0:=by omega
      refine aj ?_;refine ab.exit ?_;refine rg ?_;refine I V.gV ?_;refine dC ?_;refine I V.az ?_;refine ns ?_;refine ab.ret ?_;refine'⟨.inr rfl,rfl,_,[],.cell rfl (by repeat first|exact .head _|refine .tail _ ?_|refine hT _ ?_) (mm (eW rfl) rfl) (.tmp rfl .nil),h5 _,⟨ng.trans dp,rfl,nD,b1,c1,b2,c2,rfl,dn,xp.wide (by omega),by omega,BI,P6⟩⟩
end
end
end Go.Opn
set_option maxHeartbeats 4000000
namespace Go.Opn
noncomputable section
open Go.Cre Go.RowKit Go.Proofs
section
variable {Q:dD Tryz.prog}{g0:Nat}{J:aH}
end
abbrev qF(dc:Nat)(p:Option Addr)(w:Value):Nat×cC:=(dc,.row [.pointer p,w] 60)
def n0(dc:Nat)(bs:List UInt8)(m:aN):Prop:=∃p w aY,m=qF dc p w::aY/\(p=none\/p=some ⟨dc,0,none⟩)/\Acc 5 1 w bs.length (bs.map tw) aY/\mH aY
theorem aca(s:List UInt8):(s.map tw).all eM=true:=by
 induction s with
 |nil=>rfl
 |cons x r aI=>simp only[nz,sb,aI,wH];rfl
theorem ab9(s:List UInt8):(s.map tw).length=s.length*1:=by simp
theorem aln:mH []:=fun a c e q=>by cases q
section
variable {Q:dD Tryz.prog}{g0:Nat}{J:aH}
theorem adk{dc:Nat}{w:Value}(hw:eM w=true):
 Fn (bd Q g0) 65 [.pointer (some ⟨dc,0,none⟩)] [qF dc none w] J (fun _ m' af=>J=af/\m'=[qF dc (some ⟨dc,0,none⟩) w]):=by
 refine Fn.cH (cM Tryz.func65) rfl rfl fun H=>?_;refine rg ?_;refine aM ?_;refine I V.aG ?_;refine' W.step rfl (Exec.val rfl rfl (Z' rfl rfl rfl (by kernel_rfl) (.inl ⟨rfl,rfl⟩)) ?_);refine ns ?_;refine If (fun qa=>?_) fun qa=>?_
 ·refine rg ?_;refine aM ?_;refine' W.step rfl (Exec.val rfl rfl (apC rfl rfl (by kernel_rfl) ?aw ?av) ?_);case aw=>exact qr
  case av=>rfl
  refine cl (G:=Fn.same (cM Tryz.func86) rfl rfl rfl rfl) (h:=?_);rintro v m' af hle ⟨rfl,rfl,rfl⟩;refine' W.step rfl (Exec.val rfl rfl (apy rfl rfl ?aw (by kernel_rfl)) ?_);case aw=>repeat first|exact .head _|refine .tail _ ?_|refine hT _ ?_
  refine aM ?_;refine dC ?_;refine a6 ?_;refine'⟨.inl rfl,rfl,_,_,.nil,bu _,⟨rfl,rfl⟩⟩
 ·exfalso;simp at qa
theorem adl{dc:Nat}{w:Value}(hw:eM w=true):
 Fn (bd Q g0) 65 [.pointer (some ⟨dc,0,none⟩)] [qF dc (some ⟨dc,0,none⟩) w] J (fun _ m' af=>J=af/\m'=[qF dc (some ⟨dc,0,none⟩) w]):=by
 refine Fn.cH (cM Tryz.func65) rfl rfl fun H=>?_;refine rg ?_;refine aM ?_;refine I V.aG ?_;refine' W.step rfl (Exec.val rfl rfl (Z' rfl rfl rfl (by kernel_rfl) (.inl ⟨rfl,rfl⟩)) ?_);refine ns ?_;refine If (fun qa=>?_) fun qa=>?_
 ·exfalso;simp at qa
 ·refine rg ?_;refine aM ?_;refine I V.aG ?_;refine I V.ag ?_;refine' W.step rfl (Exec.val rfl rfl (apA rfl rfl rfl (by kernel_rfl) (.inr ⟨rfl,rfl⟩)) ?_);refine ns ?_;refine If (fun hA=>?_) fun hA=>?_
  ·exfalso;simp at hA
  ·refine aj ?_;refine ab.skip ?_;refine'⟨.inl rfl,rfl,_,_,.nil,bu _,⟨rfl,rfl⟩⟩
theorem Um{dc:Nat}{p:Option Addr}{w:Value}(au:p=none\/p=some ⟨dc,0,none⟩)(hw:eM w=true):
 Fn (bd Q g0) 65 [.pointer (some ⟨dc,0,none⟩)] [qF dc p w] J (fun _ m' af=>J=af/\m'=[qF dc (some ⟨dc,0,none⟩) w]):=by
 rcases au with rfl|rfl
 ·exact adk hw
 ·exact adl hw
theorem aaz{dc:Nat}{bs s:List UInt8}{m:aN}(um:n0 dc bs m)(av:bs.length+s.length<=1000000):
 Fn (bd Q g0) 40 [.pointer (some ⟨dc,0,none⟩),.string ⟨⟨s⟩⟩] m J (fun _ m' af=>J=af/\n0 dc (bs++s) m'):=by
 obtain⟨p,w,aY,rfl,au,cw,aP⟩:=um;obtain⟨b,c,rfl⟩:=cw.form;refine Fn.cH (cM Tryz.func40) rfl rfl fun H=>?_;refine rg ?_;refine aM ?_;refine bi ?_;refine I V.ag ?_;refine' W.step rfl (Exec.call rfl rfl rfl rfl rfl rfl rfl (bf:=[qF dc _ _]) (bM:=aY) (.refl _) trivial (Um au rfl) ?_);rintro v m' af hle ⟨rfl,rfl⟩;refine bi ?_;refine aM ?_;refine I V.aG ?_;refine I V.ag ?_;refine' W.step rfl (.of (Aj rfl rfl rfl rfl rfl rfl (Rv Q g0) (apa Q g0) (fun i q=>by cases q) ?cw ?hm ?U ?cr ?ca ?av fun CK XK Hn Qk=>?_));case cw=>assumption
 case hm=>exact hU (l₁:=[_])
 case U=>exact hR
 case cr=>exact ab9 _
 case ca=>exact aca _
 case av=>exact cc
 obtain⟨abL,lF,rfl⟩:=Hn.form;refine aM ?_;refine dC ?_;refine a6 ?_;refine ab.gN (hU (l₁:=[_])) ?_;refine rg ?_;refine aM ?_;refine ns ?_;refine ab.ret ?_;refine'⟨.inr rfl,rfl,_,_,.tmp rfl (.tmp rfl .nil),bu _,⟨rfl,_,_,_,rfl,.inr rfl,by rw[dP,MY];exact Hn,Qk.2 aP⟩⟩
theorem aax{dc:Nat}{bs:List UInt8}{x:UInt8}{m:aN}(um:n0 dc bs m)(av:bs.length+1<=1000000):
 Fn (bd Q g0) 41 [.pointer (some ⟨dc,0,none⟩),.int .u8 x.toNat] m J (fun _ m' af=>J=af/\n0 dc (bs++[x]) m'):=by
 obtain⟨p,w,aY,rfl,au,cw,aP⟩:=um;obtain⟨b,c,rfl⟩:=cw.form;refine Fn.cH (cM Tryz.func41) rfl rfl fun H=>?_;refine rg ?_;refine I V.az ?_;refine bi ?_;refine I V.ag ?_;refine' W.step rfl (Exec.call rfl rfl rfl rfl rfl rfl rfl (bf:=[qF dc _ _]) (bM:=aY) (.refl _) trivial (Um au rfl) ?_);rintro v m' af hle ⟨rfl,rfl⟩;refine bi ?_;refine aM ?_;refine I V.aG ?_;refine I V.ag ?_;refine jK (Rv Q g0) fun yJ=>?_;refine' W.step rfl (.of (Aj rfl rfl rfl rfl rfl rfl (Rv Q g0) (ao8 Q g0) (fun i q=>by cases q) ?cw ?hm ?U ?cr ?ca ?av fun CK XK Hn Qk=>?_));case cw=>assumption
 case hm=>exact hU (l₁:=[_,_])
 case U=>exact hR
 case cr=>first|rfl|(simp;done)|(simp;omega)
 case ca=>first|rfl|exact hf _
 case av=>exact cc
 obtain⟨abL,lF,rfl⟩:=Hn.form;refine aM ?_;refine dC ?_;refine a6 ?_;refine ab.gN (m':=qF dc _ _::(_,_)::XK) ((List.Perm.swap _ _ _).trans (hU (l₁:=[_,_]))) ?_;refine rg ?_;refine I V.az ?_;refine ns ?_;refine ab.ret ?_;refine'⟨.inr rfl,rfl,_,qF dc _ _::_,.tmp rfl .nil,.cons_cons _ (.cons _ (.refl _)),⟨rfl,_,_,_,rfl,.inr rfl,by rw[dP,MY];exact Hn,Qk.2 aP⟩⟩
theorem CO{dc:Nat}{bs s:List UInt8}{m:aN}(um:n0 dc bs m)(av:bs.length+s.length<=1000000):
 Fn (bd Q g0) 19 [.pointer (some ⟨dc,0,none⟩),.string ⟨⟨s⟩⟩] m J (fun u m' af=>u=.pointer (some ⟨dc,0,none⟩)/\J=af/\n0 dc (bs++s) m'):=by
 refine Fn.cH (cM Tryz.func19) rfl rfl fun H=>?_;refine rg ?_;refine I V.az ?_;refine bi ?_;refine aM ?_;refine' W.step rfl (Exec.call rfl rfl rfl rfl rfl rfl rfl (bf:=m) (bM:=[]) (by rw[gj]) trivial (aaz um av) ?_);rintro v m1 af hle ⟨rfl,BB⟩;rw[gj];refine bi ?_;refine aM ?_;refine ns ?_;refine ab.ret ?_;refine'⟨.inr rfl,rfl,_,m1,.tmp rfl .nil,bu _,⟨rfl,rfl,BB⟩⟩
theorem DK{dc:Nat}{bs:List UInt8}{m:aN}(um:n0 dc bs m)(av:bs.length+1<=1000000):
 Fn (bd Q g0) 20 [.pointer (some ⟨dc,0,none⟩)] m J (fun _ m' af=>J=af/\n0 dc (bs++[10]) m'):=by
 refine Fn.cH (cM Tryz.func20) rfl rfl fun H=>?_;refine rg ?_;refine aM ?_;refine' W.step rfl (Exec.call rfl rfl rfl rfl rfl rfl rfl (bf:=m) (bM:=[]) (by rw[gj]) trivial (aax (x:=10) um av) ?_);rintro v m1 af hle ⟨rfl,BB⟩;rw[gj];refine a6 ?_;refine'⟨.inl rfl,rfl,_,m1,.nil,bu _,⟨rfl,BB⟩⟩
end
def JC(Q:dD Tryz.prog)(g0:Nat):Prop:=∀(n:Int) (J:aH),-9223372036854775808<=n->n<=9223372036854775807->Fn (bd Q g0) 42 [.int .i64 n] [] J (M3 (.string ⟨⟨Lib.itoa n⟩⟩) J)
section
variable {Q:dD Tryz.prog}{g0:Nat}{J:aH}
theorem E2(vQ:JC Q g0){dc:Nat}{bs:List UInt8}{m aY:aN}{b:Option Addr}{c:Nat}{l:List Int}(um:n0 dc bs m)(av:jX aY J b l)(aP:l.length<=1000)(U:∀x∈l,-9223372036854775808<=x/\x<=9223372036854775807)(ap:bs.length+22*l.length<=1000000):
 Fn (bd Q g0) 21 [.pointer (some ⟨dc,0,none⟩),.slice b l.length c] (m++aY) J (fun u m' af=>u=.pointer (some ⟨dc,0,none⟩)/\J=af/\n0 dc (bs++ih l) m'):=by
 refine Fn.cH (cM Tryz.func21) rfl rfl fun H=>?_;refine rg ?_;refine I V.az ?_;refine bi ?_;refine aM ?_;refine ns ?_;refine ab.block ?_;refine' ab.c0 (l':=[(9,.int .i64 ((0):Int)),(0,_),(7,_),(8,_)]) ⟨?p3,rfl,rfl,rfl,trivial⟩ (bu _) ?_;case p3=>exact bP
 refine aj ?_;refine' ab.dF (fun(bC:Nat×aN)=>match bC with|(i,bf)=>⟨[(9,.int .i64 (i:Int))],bf++aY,J,i<=l.length/\n0 dc (bs++ih (l.take i)) bf,l.length -i⟩) ⟨0,m⟩ ?hs ?bA
 case hs=>exact⟨cy _,by simpa[ih] using um⟩
 case bA=>
  rintro⟨i,bf⟩ hinv;try simp only at hinv
  obtain⟨ao,PW⟩:=hinv;refine rg ?_;refine I V.aZ ?_;refine ns ?_;refine If (fun eF=>?_) fun eF=>?_
  ·obtain⟨a,off,cells,rfl,lh,ec⟩:=av (by omega);obtain⟨x,iC,e4⟩:=ec i (by omega) (by omega);rw[cx] at iC;have H7:=U x (cb iC);have kS:=Lib.itoa_length_le x H7.1 H7.2;have hlen:(ih (l.take i)).length<=22*i:=by
    have:=X6 (l:=l.take i) fun x h=>U x (SI h);rw[iu] at this;omega
   refine c7 ?_;refine aj ?_;refine ab.block ?_;refine rg ?_;refine I V.aW ?_;refine' W.step rfl (Exec.val rfl rfl (gP rfl rfl ?aw (ho (eW rfl) ?ay)) ?_);case aw=>exact lh.sub (fun _ q=>hT _ q)
   case ay=>first|rfl|assumption
   refine I V.az ?_;refine bi ?_;refine aM ?_;refine' W.step rfl (Exec.call rfl rfl rfl rfl rfl rfl rfl (bf:=bf) (bM:=aY) (.refl _) trivial (aax (x:=32) PW (by rw[dP];omega)) ?_);rintro v m1 af hle ⟨rfl,BB⟩;refine ns ?_;refine ab.draw rfl (by kernel_rfl) (bc:=[.val 0,.val 1,.val 2,.val 3,.bR 4,.cA [2,1,0],.bR 5]) (by kernel_rfl) ?_;refine cq ?_;refine dl rfl (G:=vQ x _ H7.1 H7.2) (h:=?_);rintro v m' af hle ⟨rfl,rfl,rfl⟩;refine a8.cA eX ?_;refine' a8.call rfl rfl rfl rfl rfl rfl rfl rfl rfl rfl (bf:=m1) (bM:=aY) (.refl _) trivial (aaz BB (by rw[dP,dP,tl];omega)) ?_;rintro v m2 af hle ⟨rfl,PU⟩;refine a8.nil ?_;refine rg ?_;refine I V.bt ?_;refine I V.ag ?_;refine a6 ?_;refine cB ⟨i+1,m2⟩ ?_;exact⟨by omega,by rw[alF iC];simpa using PU⟩
  ·refine aj ?_;refine ab.exit ?_;rw[eo (by omega)] at PW;refine rg ?_;refine aM ?_;refine ns ?_;refine ab.ret ?_;refine'⟨.inr rfl,rfl,_,bf,.tmp rfl .nil,q6 _ _,⟨rfl,rfl,PW⟩⟩
theorem Acc.amM{e:TypeId}{sz k:Nat}{v:Value}{cells:List Value}{aY:aN}(h:Acc e sz v k cells aY)(aP:mH aY)(aO:0<k):∃a rest z,v=.slice (some ⟨a,0,none⟩) k cZ/\aY=[(a,.opn cells e rest z)]/\z<=cells.length/\cells.length=k*sz:=by
 cases h with
 |nil=>omega
 |kt a=>omega
 |opn aa ae=>exact⟨_,_,_,rfl,rfl,ae,aa⟩
 |cap=>exact absurd (.head _) (aP _ _ _)
theorem TG{dc:Nat}{bs:List UInt8}{m:aN}(um:n0 dc bs m)(bw:0<bs.length)(aa:bs.length<=1000000):
 Fn (bd Q g0) 22 [.pointer (some ⟨dc,0,none⟩)] m J (fun u m' af=>u=.string ⟨⟨bs⟩⟩/\J=af/\n0 dc bs m'):=by
 obtain⟨p,w,aY,rfl,au,cw,aP⟩:=um;obtain⟨a,rest,z,rfl,rfl,bE,av⟩:=cw.amM aP bw;refine Fn.cH (cM Tryz.func22) rfl rfl fun H=>?_;refine rg ?_;refine I V.az ?_;refine ns ?_;refine ab.draw rfl (by kernel_rfl) (bc:=[.val 0,.val 1,.val 2,.val 3,.val 5,.val 6,.val 7,.val 8,.val 9,.bR 4,.cA [9,8,7,6,5],.bR 10,.val 11]) (by kernel_rfl) ?_;refine cq ?_;refine al rfl V.aG ?_;refine cq ?_;refine al rfl V.aG ?_;refine al rfl V.bL ?_;refine' a8.Ug rfl rfl rfl rfl (apB rfl rfl rfl ?bw ?aa) ?_;case bw=>exact bw
 case aa=>(unfold cZ;omega)
 refine a8.cA eX ?_;refine' a8.fP rfl rfl (aqi rfl rfl rfl rfl rfl rfl (by kernel_rfl) (by kernel_rfl) ?hm ?aO ?bw ?aa ?_);case hm=>exact List.Perm.swap _ _ _
 case aO=>rfl
 case bw=>exact bw
 case aa=>exact aa
 refine al rfl V.az ?_;refine a8.nil ?_;refine ab.gN (List.Perm.swap _ _ _) ?_;refine aj ?_;refine ab.ret ?_;refine'⟨.inr rfl,rfl,_,[qF dc _ _,(a,_)],.tmp rfl .nil,bu _,⟨rfl,rfl,_,_,_,rfl,au,.opn av (Nat.max_le.2 ⟨bE,by rw[av];omega⟩),x8⟩⟩
end
def CM:List UInt8:=[112,97,114,108,111,117,114,32,114,117,110,32,49]
def Fm:List UInt8:=[103,97,109,101]
def CL:List UInt8:=[114,111,117,110,100]
def CN:List UInt8:=[32,115,101,101,100]
def Ag:List UInt8:=[115,117,109]
def Af:List UInt8:=[112,108,97,121,115]
def Fl:List UInt8:=[101,110,100]
def od(g:bq)(t:gI):List UInt8:=CM++[10]++Fm++ih [rk g]++[10]++CL++ih [t.r]++CN++ih [t.s]++[10]
def uH(x:List Int×List Int):List UInt8:=Ag++ih x.1++[10]++Af++ih x.2++[10]
def tb(t:gI)(k:Nat):List UInt8:=((t.sum.zip t.pl).take k).flatMap uH
def jm(g:bq)(t:gI):List UInt8:=od g t++tb t t.sum.length
def jS(g:bq)(t:gI):List UInt8:=jm g t++Fl++ih [ri (jm g t)]++[10]
theorem Y'{t:gI}{k:Nat}{a b:List Int}(aa:t.sum[k]?=some a)(ae:t.pl[k]?=some b):tb t (k+1)=tb t k++uH (a,b):=by
 unfold tb;have:(t.sum.zip t.pl)[k]?=some (a,b):=by rw[aa5];exact⟨aa,ae⟩
 rw[nY,this];simp
theorem adY:∀(l:List Int) (d:Int),-2147483647<d/\d<2147483647->-2147483647<dg d l/\dg d l<2147483647:=by
 intro l;induction l with
 |nil=>intro d h;exact h
 |cons x r aI=>
  intro d h;refine aI _ ?_;unfold NQ;generalize IntKind.i64.wrap _+1000001=y at*;have aa:=Int.tmod_lt_of_pos (IntKind.i64.wrap y) (show(0:Int)<2147483647 by decide);have ae:=Int.lt_tmod_of_pos (IntKind.i64.wrap y) (show(0:Int)<2147483647 by decide);omega
theorem NR(g:bq):-9223372036854775808<=rk g/\rk g<=9223372036854775807:=by
 have:=adY (LL g) 1 (by decide);unfold rk;omega
structure C0 (l:List (List Int)):Prop where
 n:l.length<=60
 r:∀r∈l,r.length<=20
def Fw(l:List (List Int)):Prop:=∀r∈l,∀x∈r,-9223372036854775808<=x/\x<=9223372036854775807
theorem anP{cm:Int}:∀{l:List (List Int)} {ys:List (Int×Int)},r3 cm l ys=0->l.length<=ys.length->∀r∈l,∀x∈r,cm<=x/\x<=70368744177664:=by
 intro l;induction l with
 |nil=>intro ys _ _ r aw;cases aw
 |cons a l aI=>
  intro ys h av r aw;cases ys with
  |nil=>simp at av
  |cons y ys=>
   have h:(if(a.length:Int)≠y.2 then 3 else if a.any (hG cm 70368744177664)=true then 2 else r3 cm l ys)=0:=h;split at h
   ·omega
   ·split at h
    ·omega
    ·rename_i aP
     rcases e3.1 aw with q|q
     ·subst q
      intro x U;apply qW
      intro c;apply aP
      rw[JE];exact⟨x,U,by simp[hG];omega⟩
     ·exact aI h (by simpa using av) r q
theorem Xv{g:bq}{l:List (List Int)}{cm:Int}(h:nk g l cm=0)(lg:-9223372036854775808<=cm):l.length=g.is.length/\Fw l:=by
 unfold nk at h;split at h
 ·omega
 ·rename_i q
  have q:l.length=g.is.length:=gQ.1 q;exact⟨q,fun r aw x U=>by have:=anP h (by omega) r aw x U;omega⟩
structure Sn (g:bq) (t:gI):Prop where
 f:h8 g=0
 r:-9223372036854775808<=t.r/\t.r<=9223372036854775807
 s:-9223372036854775808<=t.s/\t.s<=9223372036854775807
 l:t.pl.length=t.sum.length
 bs:Fw t.sum
 ct:Fw t.pl
theorem Uc{g:bq}{t:gI}(h:nH g t=0):Sn g t:=by
 unfold nH at h;split at h
 ·omega
 rename_i aa;have aa:kj g=0:=gQ.1 aa;have aD:h8 g=0:=by
  unfold kj at aa;split at aa
  ·omega
  ·rename_i q;exact gQ.1 q
 unfold r8 at h;split at h
 ·omega
 split at h
 ·omega
 rename_i ae aF;obtain⟨bm,a2⟩:=Xv (gQ.1 aF) (by omega);obtain⟨b1,b2⟩:=Xv h (by omega);exact⟨aD,by omega,by omega,by omega,a2,b2⟩
theorem s6{l:List Int}(h:∀x∈l,-9223372036854775808<=x/\x<=9223372036854775807){n:Nat}(aP:l.length<=n):(ih l).length<=22*n:=p7 (X6 h) (Nat.mul_le_mul_left _ aP)
theorem s7{d:Int}(h:-9223372036854775808<=d/\d<=9223372036854775807):∀x∈[d],-9223372036854775808<=x/\x<=9223372036854775807:=fun x U=>by simp at U;subst U;exact h
theorem V1{g:bq}{t:gI}(h:Sn g t):(od g t).length<=200:=by
 have aa:=s6 (s7 (NR g)) (cW 1);have ae:=s6 (s7 h.r) (cW 1);have aF:=s6 (s7 h.s) (cW 1);unfold od;simp only[dP,tl];have aL:CM.length=13:=rfl;have bk:Fm.length=4:=rfl;have cG:CL.length=5:=rfl;have eL:CN.length=5:=rfl;omega
theorem Y9{t:gI}(aa:C0 t.sum)(ae:C0 t.pl)(av:t.pl.length=t.sum.length)(b1:Fw t.sum)(b2:Fw t.pl):∀k,k<=t.sum.length->(tb t k).length<=1000*k:=by
 intro k;induction k with
 |zero=>intro _;simp[tb]
 |succ k aI=>
  intro aO;have bb:=dj (l:=t.sum) (i:=k) (by omega);have a7:=dj (l:=t.pl) (i:=k) (by omega);have m1:=cb bb;have m2:=cb a7;have cN:=s6 (b1 _ m1) (aa.r _ m1);have dW:=s6 (b2 _ m2) (ae.r _ m2);rw[Y' bb a7,dP];have:=aI (by omega);unfold uH;simp only[dP,tl];have aL:Ag.length=3:=rfl;have bk:Af.length=5:=rfl;omega
theorem YF{α:Type}{m r:List α}{x:α}:((m++[x])++r).Perm (x::(m++r)):=by rw[gw];exact wM
theorem amK{α:Type}{m r:List α}{x y:α}:(m++x::y::r).Perm (x::y::(m++r)):=List.perm_middle.trans (List.Perm.cons _ wM)
theorem amL{α:Type}{m r:List α}{x y:α}:((m++[y])++x::r).Perm (m++x::y::r):=by rw[gw];exact At _ (List.Perm.swap _ _ _)
def Ct (g:bq)(t:gI):Value:=.tuple #[.string ⟨⟨if nH g t=0 then jS g t else[]⟩⟩,.int .i64 (nH g t)]
section
variable {Q:dD Tryz.prog}{g0:Nat}{J:aH}
theorem anZ(vQ:JC Q g0){g:bq}{aT aK:Option Addr}{aQ ci:Nat}{t:gI}{bs ct:Option Addr}{cs cE:Nat}(aq:fH J g aT aQ aK ci)(aB:jj J t bs cs ct cE)(aa:C0 t.sum)(ae:C0 t.pl):
 Fn (bd Q g0) 6 [hb g aT aQ aK ci,nu t bs cs ct cE] [] J (tr (Ct g t) J):=by
 have fX:addrEq aK aK=true:=aq.i.addr;have gq:addrEq aT aT=true:=aq.n.addr;have ta:addrEq bs bs=true:=aB.s.addr;have zT:addrEq ct ct=true:=aB.p.addr;refine Fn.cH (cM Tryz.func6) rfl rfl fun H=>?_;refine rg ?_;refine dK fun a2=>?_;refine dK fun a3=>?_;refine aM ?_;refine bi ?_;refine I V.c9 ?_;refine I V.c9 ?_;refine cl (G:=acT aq aB (by have:=aa.n;omega) (fun r aw=>by have:=aa.r r aw;omega) (by have:=ae.n;omega) (fun r aw=>by have:=ae.r r aw;omega)) (h:=?_);rintro v m' dO ch ⟨rfl,rfl,_⟩;refine I V.az ?_;refine bi ?_;refine I V.ag ?_;refine I V.aZ ?_;refine ns ?_;refine If (fun kN=>?_) fun kN=>?_
 ·refine rg ?_;refine aM ?_;refine ns ?_;refine ab.ret ?_;refine c5 ?_;first
   |(have c:=Ww
     refine⟨?_,rfl,ch.trans cF⟩;unfold Ct;rw[aE ib,ib];rfl)
   |(refine⟨?_,rfl,ch⟩
     unfold Ct;rw[an kN];rfl)
 ·have ib:=gQ.1 kN;have ld:=Uc ib;have pC:=aq.mono ch;have WK:=aB.mono ch;have ata:=V1 ld;have Er:=Y9 aa ae ld.l ld.bs ld.ct;have kR:=aa.n;have aG:=s6 (s7 (NR g)) (cW 1);have at5:=s6 (s7 ld.r) (cW 1);have at6:=s6 (s7 ld.s) (cW 1);have akP:=fun x=>s6 (s7 (R1 x)) (cW 1);have aL:CM.length=13:=rfl;have bk:Fm.length=4:=rfl;have cG:CL.length=5:=rfl;have eL:CN.length=5:=rfl;have cu:Ag.length=3:=rfl;have jr:Af.length=5:=rfl;have Ko:Fl.length=3:=rfl;refine ln ?_;refine I V.c9 ?_;refine cl (G:=Uv (fun af hle=>Oa (pC.mono hle)) pC) (h:=?_);rintro v m' e2 cF ⟨rfl,rfl,_⟩;refine aM ?_;refine bi ?_;refine I V.ag ?_;refine I V.aZ ?_;refine ns ?_;refine If (fun mU=>?_) fun mU=>?_
  ·exfalso;exact mU ld.f
  ·refine aj ?_;refine ab.skip ?_;refine rg ?_;refine' W.step rfl (.of (eT rfl rfl rfl (aqA Q g0) rfl rfl rfl fun a9=>?_));refine bi ?_;have ai6:n0 a9 [] [qF a9 none (.slice none 0 0)]:=⟨none,_,[],rfl,.inl rfl,.nil,aln⟩;refine' W.step rfl (Exec.call rfl rfl rfl rfl rfl rfl rfl (bf:=[qF a9 none _]) (bM:=_) (.refl _) trivial (CO (s:=CM) ai6 (by simp;omega)) ?_);rintro v m1 af hle ⟨rfl,rfl,BB⟩;refine' W.step rfl (Exec.call rfl rfl rfl rfl rfl rfl rfl (bf:=m1) (bM:=_) (.refl _) trivial (DK BB (by simp;omega)) ?_);rintro v m2 af hle ⟨rfl,PU⟩;refine bi ?_;refine' W.step rfl (Exec.call rfl rfl rfl rfl rfl rfl rfl (bf:=m2) (bM:=_) (.refl _) trivial (CO (s:=Fm) PU (by simp;omega)) ?_);rintro v m3 af hle ⟨rfl,rfl,ajh⟩;refine I V.ag ?_;refine jK (e0 Q g0) fun FW=>?_;rw[aE ld.f];refine' W.step rfl (Exec.call rfl rfl rfl rfl rfl rfl rfl (bf:=m3++[(FW,_)]) (bM:=_) YF trivial (E2 vQ ajh (l:=[rk g]) (jX.own (.head _)) (by simp) (s7 (NR g)) (by simp;omega)) ?_);rintro v m4 af hle ⟨rfl,rfl,aji⟩;refine' W.step rfl (Exec.call rfl rfl rfl rfl rfl rfl rfl (bf:=m4) (bM:=_) (.refl _) trivial (DK aji (by simp;omega)) ?_);rintro v m5 af hle ⟨rfl,ajj⟩;refine ns ?_;refine ab.draw rfl (by kernel_rfl) (bc:=[.val 1,.val 2,.gk 3,.val 6,.val 7,.gk 8,.cA [7,6,2,1],.bR 0,.cA [7,6,2,1],.bR 4,.cA [7,6],.bR 5,.cA [7,6],.bR 9,.bR 10]) (by kernel_rfl) ?_;refine al rfl V.ba ?_;refine al rfl V.aG ?_;refine a8.buildSlice rfl rfl rfl rfl rfl rfl (e0 Q g0) rfl rfl rfl fun AE=>?_;refine al rfl V.ba ?_;refine al rfl V.aG ?_;refine a8.buildSlice rfl rfl rfl rfl rfl rfl (e0 Q g0) rfl rfl rfl fun S0=>?_;refine a8.alp (a:=S0) (b:=AE) (.refl _) fun ca=>?_
   refine a8.cA eX ?_;refine' a8.call rfl rfl rfl rfl rfl rfl rfl rfl rfl rfl (bf:=m5) (bM:=_) amK trivial (CO (s:=CL) ajj (by simp;omega)) ?_;rintro v m6 af hle ⟨rfl,rfl,ajk⟩;refine a8.cA eX ?_;refine' a8.call rfl rfl rfl rfl rfl rfl rfl rfl rfl rfl (bf:=m6++[(AE,_)]) (bM:=_) amL trivial (E2 vQ ajk (l:=[t.r]) (jX.own (.head _)) (by simp) (s7 ld.r) (by simp;omega)) ?_;rintro v m7 af hle ⟨rfl,rfl,ajl⟩;refine a8.cA eX ?_;refine' a8.Kg rfl rfl rfl rfl rfl rfl rfl rfl rfl (by simp[CL,CN]) (bf:=m7) (bM:=_) (.refl _) trivial (CO (s:=CN) ajl (by simp;omega)) ?_;rintro v m8 af hle ⟨rfl,rfl,ajm⟩;refine a8.cA eX ?_;refine' a8.Kg rfl rfl rfl rfl rfl rfl rfl rfl rfl (fun q=>ca (by simp at q;first|done|exact q)) (bf:=m8++[(S0,_)]) (bM:=_) (by rw[gw];exact .refl _) trivial (E2 vQ ajm (l:=[t.s]) (jX.own (.head _)) (by simp) (s7 ld.s) (by simp;omega)) ?_;rintro v m9 af hle ⟨rfl,rfl,ajn⟩;refine' a8.call rfl rfl rfl rfl rfl rfl rfl rfl rfl rfl (bf:=m9) (bM:=_) (.refl _) trivial (DK ajn (by simp;omega)) ?_;rintro v m10 af hle ⟨rfl,ai7⟩;refine a8.nil ?_;obtain⟨_,Ed⟩:=(WK.mono cF).s.at;obtain⟨_,aic⟩:=(WK.mono cF).p.at;have vP:n0 a9 (od g t++tb t 0) m10:=by simpa[od,tb] using ai7
   refine rg ?_;refine I V.ba ?_;refine I V.aG ?_;refine aM ?_;refine ns ?_;refine ab.block ?_;refine' ab.c0 (l':=[(47,.int .i64 ((0):Int)),(3,_),(9,_),(46,_)]) ⟨?apW,rfl,rfl,rfl,trivial⟩ (bu _) ?_;case apW=>exact bP
   refine aj ?_;refine' ab.dF (fun(bC:Nat×aN)=>match bC with|(k,mk)=>⟨[(47,.int .i64 (k:Int))],mk++[(a3,.row (hI t bs cs ct cE) 30),(a2,.row (iw g aT aQ aK ci) 27)],e2,k<=t.sum.length/\n0 a9 (od g t++tb t k) mk,t.sum.length -k⟩) ⟨0,m10⟩ ?hs ?bA
   case hs=>exact⟨cy _,vP⟩
   case bA=>
    rintro⟨k,mk⟩ hinv;try simp only at hinv
    obtain⟨aO,Wx⟩:=hinv;have atH:=Er k aO;refine rg ?_;refine I V.aZ ?_;refine ns ?_;refine If (fun Nr=>?_) fun Nr=>?_
    ·obtain⟨FY,IH,Gt,GH,rfl,l9,uf⟩:=Ed (by omega);obtain⟨ye,vn,vX,vL,mg,jn,ks,rfl,oi⟩:=uf k (by omega) (by omega);have sP:=mg 0 _ (by decide) rfl;have dE:=ld.l;obtain⟨aq5,aum,arK,asl,rfl,asE,aip⟩:=aic (by omega);obtain⟨yf,arU,vY,as6,aiB,TE,arP,rfl,WB⟩:=aip k (by omega) (by omega);have atg:=aiB 0 _ (by decide) rfl;rw[cx] at vX vY;have Lx:=cb vX;have Ly:=cb vY;have la:=s6 (ld.bs _ Lx) (aa.r _ Lx);have at3:=s6 (ld.ct _ Ly) (ae.r _ Ly);have at1:=aa.r _ Lx;have at2:=ae.r _ Ly;have auP:addrEq jn jn=true:=by obtain⟨e,h⟩:=oi;exact h.addr
     have auQ:addrEq TE TE=true:=by obtain⟨e,h⟩:=WB;exact h.addr
     refine c7 ?_;refine aj ?_;refine ab.block ?_;refine rg ?_;refine aM ?_;refine ns ?_;refine ab.draw rfl (by kernel_rfl) (bc:=[.val 1,.val 2,.val 3,.val 4,.val 5,.bR 0,.cA [5,4,3,2,1],.bR 6,.bR 7]) (by kernel_rfl) ?_;refine al rfl V.ba ?_;refine al rfl V.aG ?_;refine al rfl V.ag ?_;refine al rfl V.aW ?_;refine al rfl V.aG ?_;refine' a8.call rfl rfl rfl rfl rfl rfl rfl rfl rfl rfl (bf:=mk) (bM:=_) (.refl _) trivial (CO (s:=Ag) Wx (by simp;omega)) ?_;rintro v m11 af hle ⟨rfl,rfl,ai8⟩;refine a8.cA eX ?_;refine' a8.call rfl rfl rfl rfl rfl rfl rfl rfl rfl rfl (bf:=m11++[]) (bM:=[_,_]) (by rw[gj]) trivial (E2 vQ ai8 (oi.iH []) (by omega) (ld.bs _ Lx) (by simp;omega)) ?_;rintro v m12 af hle ⟨rfl,rfl,ai9⟩;refine' a8.call rfl rfl rfl rfl rfl rfl rfl rfl rfl rfl (bf:=m12) (bM:=_) (.refl _) trivial (DK ai9 (by simp;omega)) ?_;rintro v m13 af hle ⟨rfl,ai'⟩;refine a8.nil ?_;refine aj ?_;refine ab.draw rfl (by kernel_rfl) (bc:=[.val 1,.val 2,.val 3,.val 4,.val 5,.bR 0,.cA [5,4,3,2,1],.bR 6,.bR 7]) (by kernel_rfl) ?_;refine al rfl V.ba ?_;refine al rfl V.aG ?_;refine al rfl V.ag ?_;refine al rfl V.aW ?_;refine al rfl V.aG ?_;refine' a8.call rfl rfl rfl rfl rfl rfl rfl rfl rfl rfl (bf:=m13) (bM:=_) (.refl _) trivial (CO (s:=Af) ai' (by simp;omega)) ?_;rintro v m14 af hle ⟨rfl,rfl,aja⟩;refine a8.cA eX ?_;refine' a8.call rfl rfl rfl rfl rfl rfl rfl rfl rfl rfl (bf:=m14++[]) (bM:=[_,_]) (by rw[gj]) trivial (E2 vQ aja (WB.iH []) (by omega) (ld.ct _ Ly) (by simp;omega)) ?_;rintro v m15 af hle ⟨rfl,rfl,ajb⟩;refine' a8.call rfl rfl rfl rfl rfl rfl rfl rfl rfl rfl (bf:=m15) (bM:=_) (.refl _) trivial (DK ajb (by simp;omega)) ?_
     rintro v m16 af hle ⟨rfl,ajc⟩;refine a8.nil ?_;refine rg ?_;refine I V.bt ?_;refine I V.ag ?_;refine a6 ?_;refine cB ⟨k+1,m16⟩ ?_;exact⟨by omega,by rw[Y' vX vY];simpa[uH] using ajc⟩
    ·obtain rfl:k=t.sum.length:=by omega
     have ap:n0 a9 (jm g t) mk:=Wx;have tX:(jm g t).length<=70000:=by unfold jm;rw[dP];omega
     have kc:0<(jm g t).length:=by unfold jm od;simp[CM]
     have akQ:=akP (IntKind.i64.wrap (65536*(k' 1 0 (jm g t)).2)+(k' 1 0 (jm g t)).1);rw[show IntKind.i64.wrap (IntKind.i64.wrap (65536*(k' 1 0 (jm g t)).2)+(k' 1 0 (jm g t)).1)=ri (jm g t) from rfl] at akQ;refine aj ?_;refine ab.exit ?_;refine rg ?_;refine I V.ba ?_;refine' W.step rfl (Exec.call rfl rfl rfl rfl rfl rfl rfl (bf:=mk) (bM:=_) (.refl _) trivial (TG ap kc (by omega)) ?_);rintro v m17 af hle ⟨rfl,rfl,ajd⟩;refine cl (G:=Ue (by omega)) (h:=?_);rintro v m' af hle ⟨rfl,rfl,rfl⟩;refine I V.az ?_;refine bi ?_;refine' W.step rfl (Exec.call rfl rfl rfl rfl rfl rfl rfl (bf:=m17) (bM:=_) (.refl _) trivial (CO (s:=Fl) ajd (by omega)) ?_);rintro v m18 af hle ⟨rfl,rfl,aje⟩;refine I V.ag ?_;refine jK (e0 Q g0) fun a72=>?_;refine' W.step rfl (Exec.call rfl rfl rfl rfl rfl rfl rfl (bf:=m18++[(a72,_)]) (bM:=_) YF trivial (E2 vQ aje (l:=[ri (jm g t)]) (jX.own (.head _)) (by simp) (s7 (R1 _)) (by simp;omega)) ?_);rintro v m19 af hle ⟨rfl,rfl,ajf⟩;refine' W.step rfl (Exec.call rfl rfl rfl rfl rfl rfl rfl (bf:=m19) (bM:=_) (.refl _) trivial (DK ajf (by simp;omega)) ?_);rintro v m20 af hle ⟨rfl,ajg⟩;refine bi ?_;refine I V.ba ?_;refine' W.step rfl (Exec.call rfl rfl rfl rfl rfl rfl rfl (bf:=m20) (bM:=_) (.refl _) trivial (TG ajg (by simp;omega) (by simp;omega)) ?_);rintro v m21 af hle ⟨rfl,rfl,Ww⟩;refine aM ?_;refine ns ?_;refine ab.ret ?_;refine c5 ?_;first
        |(have c:=Ww
          refine⟨?_,rfl,ch.trans cF⟩;unfold Ct;rw[aE ib,ib];rfl)
        |(refine⟨?_,rfl,ch⟩
          unfold Ct;rw[an kN];rfl)
end
end
end Go.Opn
