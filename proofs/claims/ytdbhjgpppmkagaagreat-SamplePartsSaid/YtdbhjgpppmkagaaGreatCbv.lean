/- The law SampleParts returns true, whatever its arguments, and they read afterwards as before. Conditions: none beyond the row's own. -/
import Derived.Test.YtdbhjgpppmkagaaGreatCbu
import Derived.Test.YtdbhjgpppmkagaaGreatCbj
import Derived.Test.YtdbhjgpppmkagaaGreatCbn
import Derived.Test.YtdbhjgpppmkagaaGreatCbb
import Derived.Test.YtdbhjgpppmkagaaGreatCaq
import Derived.Test.YtdbhjgpppmkagaaGreatProg
import Derived.KernelRfl
import Derived.Test.YtdbhjgpppmkagaaGreatCaw
import Derived.Test.YtdbhjgpppmkagaaGreatCax
import Derived.Conc.Holds
import Derived.SevenTiedAt
import Derived.Test.YtdbhjgpppmkagaaGreatRows
import Derived.WalkKit
import Derived.ProofKit
import Derived.OpenShut
import Derived.Deep.DeepHandedRow
import Derived.Lib.LaidTab
import Derived.LaidHandle
import Derived.LaidMore
import Derived.Stop.LaidErr
import Derived.Carry
set_option maxRecDepth 100000
set_option maxHeartbeats 8000000
set_option linter.unusedVariables false
set_option linter.unusedSimpArgs false
namespace Go.Opn
noncomputable section
open Go.Cre Go.RowKit Go.Proofs
theorem fk.addr{hN:List Int->Value->Nat×cI->Prop}{J:aA}{e:TypeId}{b:Option Addr}{n c:Nat}{cr:List (List Int)}{bs:aI}(h:fk hN J e (.slice b n c) cr bs):addrEq b b=true:=by
 obtain⟨vs,h,_⟩:=h;exact h.addr
theorem ahG{α:Type}{R H cu P X:List α}{s c a n e:α}:(cu++(P++(([s,c,a,n,e]++(R++H))++X))).Perm (s::c::a::n::e::((R++(H++(cu++P)))++X)):=by open Classical in exact iu
theorem ahH{α:Type}{cu P X:List α}{x:α}:(cu++(P++(x::X))).Perm (x::((cu++P)++X)):=by open Classical in exact iu
section
variable {Q:db Tryz.prog}{g0:Nat}{J:aA}
theorem Wd{s:Int}(aa:1<=s)(ab:s<2147483647):Fn (a2 Q g0) 9 [.int .i64 s] [] J (fun v m' ag=>v=.tuple #[.int .i64 (mx s),.int .i64 0]/\m'=[]/\J=ag):=by
 refine Fn.dw (dB Tryz.func9) rfl rfl fun H=>?_;refine rg ?_;refine aV ?_;refine bu ?_;refine kq [0] ?_;refine aJ ?_;refine' ae.mi 0 [(9,.bool (decide ((s<1\/2147483647<=s))))] ?qY ?sa;case qY=>
  refine ae.region ?_;refine U V.az ?_;refine U V.bm ?_;refine U V.az ?_;refine eu 6 (fun tI=>?_) fun tI=>?_
  ·refine a0 ?_;refine a0 ?_;refine U V.bc ?_;refine bu ?_;exact ce
  ·refine bg V.az ?_;refine bg V.bm ?_;refine U V.bc ?_;refine bu ?_;exact ce
 case sa=>
  refine aJ ?_;refine If (fun jr=>?_) fun jr=>?_
  ·exfalso;omega
  ·refine aJ ?_;refine ae.skip ?_;refine rg ?_;refine U V.az ?_;refine U V.va ?_;refine U V.tz ?_;refine aV ?_;refine ns ?_;refine ae.ret ?_;refine hk ?_;exact⟨rfl,rfl,rfl⟩
theorem aiI{t u:kM}{bE bS cJ gy:Option Addr}{bx bT dA nE:Nat}(aN:tf J t bE bx bS bT)(hu:tf J u cJ dA gy nE)(ay:t.sum.length<=1000000)(ax:∀r∈t.sum,r.length<=1000000)(de:t.pl.length<=1000000)(ad1:∀r∈t.pl,r.length<=1000000)(h:t=u):
 Fn (a2 Q g0) 10 [Aa t bE bx bS bT,Aa u cJ dA gy nE] [] J (fun v m' ag=>v=.bool true/\m'=[]/\J=ag):=by
 subst h;have aZ:addrEq bE bE=true:=aN.s.addr;have aR:addrEq bS bS=true:=aN.p.addr;have bY:addrEq cJ cJ=true:=hu.s.addr;have ep:addrEq gy gy=true:=hu.p.addr;refine Fn.dw (dB Tryz.func10) rfl rfl fun H=>?_;refine rg ?_;refine fG fun bF=>?_;refine fG fun bO=>?_;refine U V.a7 ?_;refine bP ?_;refine U V.bU ?_;refine U V.a9 ?_;refine U V.bU ?_;refine U V.a9 ?_;refine U V.bm ?_;refine U V.az ?_;refine eu 10 (fun R7=>?_) fun R7=>?_
 ·refine bg V.bU ?_;refine bg V.a9 ?_;refine bg V.bU ?_;refine bg V.a9 ?_;refine bg V.bm ?_;refine U V.bc ?_;refine U V.az ?_;refine eu 17 (fun R5=>?_) fun R5=>?_
  ·refine bg V.bU ?_;refine bg V.a9 ?_;refine bg V.bU ?_;refine bg V.a9 ?_;refine qX (G:=T9 aN.s hu.s ay ax) (h:=?_);rintro v m' ag hle ⟨rfl,rfl,rfl⟩;refine U V.bc ?_;refine U V.az ?_;refine eu 24 (fun R6=>?_) fun R6=>?_
   ·refine bg V.bU ?_;refine bg V.a9 ?_;refine bg V.bU ?_;refine bg V.a9 ?_;refine qX (G:=T9 aN.p hu.p de ad1) (h:=?_);rintro v m' ag hle ⟨rfl,rfl,rfl⟩;refine U V.bc ?_;refine U V.a7 ?_;refine ns ?_;refine ae.ret ?_;refine hk ?_;exact⟨by simp[qt],rfl,rfl⟩
   ·exfalso;simp at R6
  ·exfalso;simp at R5
 ·exfalso;exact R7 rfl
theorem ajc{g:bp}{aT bi:Option Addr}{aP ci:Nat}{s:Int}(hw:hV g)(ar:hB J g aT aP bi ci)(au:rK g=0)(h6:1<=s)(iM:s<2147483647):
 Fn (a2 Q g0) 7 [p0 g aT aP bi ci,.int .i64 s] [] J (fun u m' ag=>J.le ag/\m'=[]/\∃bs cs hE gM,u=.tuple #[Aa (z' g s) bs cs hE gM,.int .i64 0]/\tf ag (z' g s) bs cs hE gM):=by
 have kZ:addrEq bi bi=true:=ar.i.addr;have lj:addrEq aT aT=true:=ar.n.addr;have E9:=qH (g:=g);refine Fn.dw (dB Tryz.func7) rfl rfl fun H=>?_;refine rg ?_;refine fG fun bF=>?_;refine' W.step rfl (.of (ic rfl rfl rfl (yg Q g0) rfl rfl rfl fun b3=>?_));refine U V.a7 ?_;refine bP ?_;refine U V.hb ?_;refine cl (G:=aj2 hw ar au) (h:=?_);rintro v m' cN eL ⟨_,bE,kG,bx,bS,nx,bT,s1,s2,rfl,rfl,rfl,rfl,nL,lU⟩;have aZ:addrEq bE bE=true:=nL.addr;have aR:addrEq bS bS=true:=lU.addr;refine aV ?_;refine' W.step rfl (.of (ic rfl rfl rfl (yg Q g0) rfl rfl rfl fun cX=>?_));refine fF ?_;refine U V.a7 ?_;refine bP ?_;refine U V.az ?_;refine U V.bm ?_;refine ns ?_;refine If (fun ng=>?_) fun ng=>?_
 ·exfalso;exact ng rfl
 ·refine aJ ?_;refine ae.skip ?_;refine kq [1,4,6] ?_;refine aJ ?_;refine' ae.mi 0 [(22,.bool (decide ((s<1\/2147483647<=s))))] ?yJ ?yO;case yJ=>
   refine ae.region ?_;refine U V.az ?_;refine U V.bm ?_;refine U V.az ?_;refine eu 19 (fun abM=>?_) fun abM=>?_
   ·refine a0 ?_;refine a0 ?_;refine U V.bc ?_;refine bu ?_;exact ce
   ·refine bg V.az ?_;refine bg V.bm ?_;refine U V.bc ?_;refine bu ?_;exact ce
  case yO=>
   refine aJ ?_;refine If (fun YP=>?_) fun YP=>?_
   ·exfalso;omega
   ·refine aJ ?_;refine ae.skip ?_;refine rg ?_;refine aV ?_;refine fF ?_;refine bP ?_;refine U V.hb ?_;refine fF ?_;refine U V.a7 ?_;refine bu ?_;refine ae.gZ ahH ?_;refine nL.l4 (fun _ _ _ h=>h.ok) (.refl _) fun XG EF A7=>?_;refine(lU.mono EF).l4 (fun _ _ _ h=>h.ok) (.refl _) fun J0 zq LJ=>?_;refine aJ ?_;refine ae.ret ?_;refine'⟨.inr rfl,rfl,_,[],.cell rfl (by repeat first|exact .head _|refine .tail _ ?_|refine lm _ ?_) (v5 (hh rfl) rfl) (.tmp rfl .nil),mc _,?_⟩;refine⟨eL.trans (EF.trans zq),rfl,bE,bx,bS,bT,?_,⟨?_,?_⟩⟩
    ·show _=Value.tuple #[.agg #[.int .i64 0,.int .i64 s,.slice bE (jl g).length bx,.slice bS (jl g).length bT],.int .i64 0]
     rw[E9];rfl
    ·show fX _ _ _ _ (.slice bE (jl g).length bx) _
     rw[E9];exact fX.mono (R':=k3 J0) zq (fun _ _ r=>r.mono zq) A7
    ·show fX _ _ _ _ (.slice bS (jl g).length bT) _
     rw[E9];exact LJ
open Classical in
theorem OB{g:bp}{t:kM}{aT bi bs hE:Option Addr}{aP ci cs gM M n:Nat}(hw:hV g)(aw:uJ g)(ar:hB J g aT aP bi ci)(aN:tf J t bs cs hE gM)(dF:ht g t.sum t.pl M)(A8:M+228*n<=60000)(k9:rK g=0)(aM:n<=100)(xp:0<=t.r)(sC:t.r<=100)(h6:1<=t.s)(iM:t.s<2147483647):
 Fn (a2 Q g0) 8 [p0 g aT aP bi ci,Aa t bs cs hE gM,.int .i64 (n:Int)] [] J (fun u m' ag=>J.le ag/\m'=[]/\∃bs cs hE gM,u=.tuple #[Aa (kF g n t) bs cs hE gM,.int .i64 0]/\tf ag (kF g n t) bs cs hE gM):=by
 have kZ:addrEq bi bi=true:=ar.i.addr;have lj:addrEq aT aT=true:=ar.n.addr;have fq:addrEq bs bs=true:=aN.s.addr;have aii:addrEq hE hE=true:=aN.p.addr;have i2:=hw.i2;obtain⟨ao3,ao4,aj0,aj1⟩:=dF.len hw;refine Fn.dw (dB Tryz.func8) rfl rfl fun H=>?_;refine rg ?_;refine fG fun bO=>?_;refine fG fun b3=>?_;refine' W.step rfl (.of (ic rfl rfl rfl (yg Q g0) rfl rfl rfl fun cX=>?_));refine U V.a7 ?_;refine bP ?_;refine U V.qk ?_;refine U V.qk ?_;refine cl (G:=Zb ar aN (by omega) (fun r ax=>by have:=aj0 r ax;omega) (by omega) (fun r ax=>by have:=aj1 r ax;omega)) (h:=?_);rintro v m' cN eL ⟨rfl,rfl,_⟩;refine U V.a7 ?_;refine bP ?_;refine U V.az ?_;refine U V.bm ?_;refine ns ?_;refine If (fun ng=>?_) fun ng=>?_
 ·exfalso;exact ng (dF.check k9 (by omega) (by omega) (by omega) (by omega) (by omega))
 ·refine aJ ?_;refine ae.skip ?_;refine kq [2,3,4,6] ?_;refine aJ ?_;refine' ae.mi 0 [(34,.bool (decide ((t.s=0\/(n:Int)<0\/20000<(n:Int)\/1000000<t.r+n))))] ?yJ ?yO;case yJ=>
   refine ae.region ?_;refine U V.bU ?_;refine U V.bL ?_;refine U V.bm ?_;refine U V.az ?_;refine eu 20 (fun ot=>?_) fun ot=>?_
   ·refine a0 ?_;refine a0 ?_;refine U V.bc ?_;refine U V.az ?_;refine a0 ?_;refine a0 ?_;refine U V.bc ?_;refine U V.az ?_;refine a0 ?_;refine a0 ?_;refine a0 ?_;refine a0 ?_;refine a0 ?_;refine U V.bc ?_;refine bu ?_;refine'⟨⟨_,rfl,⟨?zM,rfl,rfl,rfl,rfl,trivial⟩⟩,bV _,rfl⟩;case zM=>first|exact u9 rfl (by omega)|exact u6 rfl (by omega)|exact u7 rfl (by omega)|exact u5 rfl (by omega)
   ·refine bg V.az ?_;refine bg V.bm ?_;refine U V.bc ?_;refine U V.az ?_;refine eu 24 (fun LG=>?_) fun LG=>?_
    ·refine a0 ?_;refine a0 ?_;refine U V.bc ?_;refine U V.az ?_;refine a0 ?_;refine a0 ?_;refine a0 ?_;refine a0 ?_;refine a0 ?_;refine U V.bc ?_;refine bu ?_;refine'⟨⟨_,rfl,⟨?zM,rfl,rfl,rfl,rfl,trivial⟩⟩,bV _,rfl⟩;case zM=>first|exact u9 rfl (by omega)|exact u6 rfl (by omega)|exact u7 rfl (by omega)|exact u5 rfl (by omega)
    ·refine bg V.az ?_;refine bg V.bm ?_;refine U V.bc ?_;refine U V.az ?_;refine eu 28 (fun abL=>?_) fun abL=>?_
     ·refine a0 ?_;refine a0 ?_;refine a0 ?_;refine a0 ?_;refine a0 ?_;refine U V.bc ?_;refine bu ?_;refine'⟨⟨_,rfl,⟨?zM,rfl,rfl,rfl,rfl,trivial⟩⟩,bV _,rfl⟩;case zM=>first|exact u9 rfl (by omega)|exact u6 rfl (by omega)|exact u7 rfl (by omega)|exact u5 rfl (by omega)
     ·refine bg V.bU ?_;refine bg V.bL ?_;refine bg V.az ?_;refine bg V.va ?_;refine bg V.bm ?_;refine U V.bc ?_;refine bu ?_;refine'⟨⟨_,rfl,⟨?zM,rfl,rfl,rfl,rfl,trivial⟩⟩,bV _,rfl⟩;case zM=>first|exact u9 rfl (by omega)|exact u6 rfl (by omega)|exact u7 rfl (by omega)|exact u5 rfl (by omega)
  case yO=>
   refine aJ ?_;refine If (fun Dr=>?_) fun Dr=>?_
   ·exfalso;omega
   ·refine aJ ?_;refine ae.skip ?_;refine rg ?_;refine U V.qk ?_;refine U V.qk ?_;refine cl (G:=af4 hw (ar.mono eL) (aN.mono eL) dF.1 dF.2) (h:=?_);rintro v Fq hs fu ⟨_,ck,rfl,aC⟩;refine U V.a7 ?_;refine bP ?_;refine aV ?_;refine ns ?_;refine ae.block ?_;refine' ae.fy (l':=[(40,.int .i64 ((0):Int)),(6,_),(9,_),(39,_)]) ⟨?W7,rfl,rfl,rfl,trivial⟩ (bV _) ?_;case W7=>exact ec
    refine aJ ?_;refine' ae.cf (fun(cU:Nat×aI×aA)=>match cU with|(k,mk,eW)=>⟨[(40,.int .i64 (k:Int))],mk++[(cX,.row [.int .i64 0,.int .i64 0,.slice none 0 0,.slice none 0 0] 32),(b3,.row (wg t bs cs hE gM) 32),je bO g aT aP bi ci],eW,k<=n/\hs.le eW/\GD g aT aP bi ci eW ck (kF g k t) mk,n -k⟩) ⟨0,Fq,hs⟩ ?al ?cp
    case al=>exact⟨dV _,aA.le.refl _,aC⟩
    case cp=>
     rintro⟨k,mk,eW⟩ hinv;try simp only at hinv
     obtain⟨aH,ev,aC⟩:=hinv;obtain⟨bE,bS,cJ⟩:=Jm hw aw dF h6 iM k;have gy:=Jn (g:=g) (t:=t) k;refine rg ?_;refine U V.bm ?_;refine ns ?_;refine If (fun YQ=>?_) fun YQ=>?_
     ·refine aJ ?_;refine ae.skip ?_;refine aJ ?_;refine ae.block ?_;refine rg ?_;refine U V.az ?_;refine' W.step rfl (Exec.call rfl rfl rfl rfl rfl rfl rfl (a4:=mk) (b2:=[(cX,.row [.int .i64 0,.int .i64 0,.slice none 0 0,.slice none 0 0] 32),(b3,.row (wg t bs cs hE gM) 32),je bO g aT aP bi ci]) (.refl _) trivial (aiD hw aw (ar.mono (eL.trans (fu.trans ev))) bE (by omega) bS cJ (by omega) (by omega) aC) ?_);rintro v l1 mA gO ⟨rfl,_,acn⟩;refine U V.oL ?_;refine ns ?_;refine If (fun QX=>?_) fun QX=>?_
      ·exfalso;simp at QX
      ·refine aJ ?_;refine ae.skip ?_;refine rg ?_;refine U V.va ?_;refine U V.az ?_;refine bu ?_;refine e2 ⟨k+1,l1,mA⟩ ?_;exact⟨by omega,ev.trans gO,acn⟩
     ·obtain rfl:k=n:=by omega
      obtain⟨ac,cj,a1,cb,bK,bv,eY,cells,e,pU,wO,lr,cT,c3,lo,k6,dd,c8,p,cS,cG,cy,eX,C4,CK,R,dE,cu,lO,rfl,za,Es,vk,A9,bB,gi,sm,sq,Em,LV,Sh,LM,k7,kd⟩:=aC;have aox:addrEq cT cT=true:=k7.addr;have aoy:addrEq lo lo=true:=kd.addr;refine aJ ?_;refine ae.exit ?_;refine rg ?_;refine aV ?_;refine U V.qk ?_;refine fF ?_;refine U V.a7 ?_;refine bu ?_;refine ae.gZ (ahG (R:=R) (H:=dE) (cu:=cu) (P:=lO)) ?_;refine k7.l4 (fun _ _ _ h=>h.ok) (.refl _) fun XG EF A7=>?_;refine(kd.mono EF).l4 (fun _ _ _ h=>h.ok) (.refl _) fun J0 zq LJ=>?_;refine aJ ?_;refine ae.ret ?_;refine'⟨.inr rfl,rfl,_,[],.cell rfl (by repeat first|exact .head _|refine .tail _ ?_|refine lm _ ?_) (v5 (hh rfl) rfl) (.tmp rfl .nil),mc _,?_⟩;have M6:(kF g k t).sum.length=g.is.length:=bE.1.1;have dq:(kF g k t).pl.length=g.is.length:=bE.2.1;refine⟨eL.trans (fu.trans (ev.trans (EF.trans zq))),rfl,cT,c3,lo,k6,?_,⟨?_,?_⟩⟩
      ·show _=Value.tuple #[.agg #[.int .i64 (kF g k t).r,.int .i64 (kF g k t).s,.slice cT (kF g k t).sum.length c3,.slice lo (kF g k t).pl.length k6],.int .i64 0]
       rw[M6,dq];rfl
      ·rw[M6]
       exact fX.mono (R':=k3 J0) zq (fun _ _ r=>r.mono zq) A7
      ·rw[dq]
       exact LJ
end
theorem aiX{i:Int}:∀{ns:List cH} {j:Nat} {x:Int},x∈fx i j ns->fx i j ns≠[]:=fun h q=>by rw[q] at h;cases h
theorem ac6{l:List Int}(h:l≠[]):nP l∈l:=by
 cases l with
 |nil=>exact absurd rfl h
 |cons x l=>exact .head _
theorem abx{aY:Int}{pl:Nat}{l:List Int}(hm:1<=aY)(EH:aY<=25)(k':1<=pl)(sB:pl<=3):hV (ly aY pl l)/\kR (ly aY pl l)=0/\rK (ly aY pl l)=0:=by
 obtain⟨a',bd⟩:=Um (pl:=pl) (k:=(1+eg l 5).toNat) (l:=gm l 5);have ad4:=oJ (l:=l) (n:=5) (by omega);have jQ:zH pl (Fk pl l):=fun p au=>by
  obtain⟨aa,ab,aK,bh,_⟩:=a' p au;exact⟨aa,ab,aK,bh⟩
 have ay:(Fk pl l).length<=40:=by show(sK pl _ _).1.length<=40;rw[bd];omega
 have hw:hV (ly aY pl l):=abA jQ hm EH k' sB;have aw:kR (ly aY pl l)=0:=aby jQ hm (by omega) k' (by omega) ay;refine⟨hw,aw,?_⟩;unfold rK;rw[aq (by simp[aw]),aq ?_];rintro⟨p,_,_,aM⟩;refine aM fun i s y al ah TK=>fun x I=>?_;have MZ:s=fx (i:Int) 0 (ly aY pl l).ns:=by
  unfold jE at al;rw[gG,wz (hH ah)] at al;injection al with al;exact al.symm
 have aN:=NW (Hr aw);rw[MZ] at I ⊢;rw[<-TK];exact abz jQ hm aN ah I (ac6 (aiX I))
theorem aiL{s:Int}(aa:0<=s):mx s=(s*48271) % 2147483647:=by
 unfold mx;exact XD (by omega)
theorem VX{s:Int}(aa:1<=s)(ab:s<2147483647):(mx s*1899818559) % 2147483647=s:=by
 rw[aiL (by omega)];omega
theorem aiM{s u:Int}(aa:1<=s)(ab:s<2147483647)(aK:1<=u)(bh:u<2147483647):(mx s=mx u)↔(s=u):=by
 refine⟨fun h=>?_,fun h=>by rw[h]⟩;rw[<-VX aa ab,<-VX aK bh,h]
section
variable {Q:db Tryz.prog}{g0:Nat}{J:aA}
theorem afr(bB:∀J,Fn (a2 Q g0) 4 [] [] J (XX (.bool true) J)){l:List Int}{c5:Option Addr}{kl:Nat}{Jc fL other IG IQ:Int}(ay:ew J (.slice c5 l.length kl) l)(im:l.length<=9223372036854775807):
 Fn (a2 Q g0) 3 [.slice c5 l.length kl,.int .i64 Jc,.int .i64 fL,.int .i64 other,.int .i64 IG,.int .i64 IQ] [] J (fun v m' ag=>v=.bool true):=by
 have aif:addrEq c5 c5=true:=ay.addr;obtain⟨pl,dq⟩:∃pl:Nat,1+Jc % 3=(pl:Int):=⟨(1+Jc % 3).toNat,by omega⟩;obtain⟨M,A8⟩:∃N:Nat,IG % 31=(N:Int):=⟨(IG % 31).toNat,by omega⟩;obtain⟨N,jR⟩:∃N:Nat,IQ % 31=(N:Int):=⟨(IQ % 31).toNat,by omega⟩;obtain⟨s1,h6⟩:∃s,s=1+fL % 2147483646:=⟨_,rfl⟩;obtain⟨s2,iM⟩:∃s,s=1+other % 2147483646:=⟨_,rfl⟩;obtain⟨hw,aw,au⟩:=abx (aY:=25) (pl:=pl) (l:=l) (by decide) (by decide) (by omega) (by omega);have sv:=Hr aw;obtain⟨h4,hd⟩:=Ou (s:=s1) (by omega) (by omega);have Bh:=aiM (s:=s1) (u:=s2) (by omega) (by omega) (by omega) (by omega);have HI:ht (ly 25 pl l) (jl (ly 25 pl l)) (jl (ly 25 pl l)) 0:=ht.zero hw;refine Fn.dw (dB Tryz.func3) rfl rfl fun H=>?_;refine rg ?_;refine U V.a7 ?_;refine bP ?_;refine pV (G:=bB _) (h:=?_);refine U V.oL ?_;refine ns ?_;refine If (fun j8=>?_) fun j8=>?_
 ·exfalso;simp at j8
 ·refine aJ ?_;refine ae.skip ?_;refine rg ?_;refine aV ?_;refine U V.bm ?_;refine ns ?_;refine If (fun Dq=>?_) fun Dq=>?_
  ·refine rg ?_;refine U V.a7 ?_;refine ns ?_;refine ae.ret ?_;refine hk ?_;first|rfl|exact fl Value.bool (o8 hd)
  ·refine aJ ?_;refine ae.skip ?_;refine rg ?_;refine aV ?_;refine cl (G:=B0 (n:=3) (by decide) (by decide)) (h:=?_);rintro v m' ag hle ⟨rfl,rfl,rfl⟩;refine U V.va ?_;rw[dq];refine cl (G:=abB (pl:=pl) ay (by omega) (by omega) (by omega) (by decide) (by decide)) (h:=?_);rintro v m' cN eL ⟨_,rfl,aT,aP,bi,ci,rfl,ar⟩;have kZ:addrEq bi bi=true:=ar.i.addr;have lj:addrEq aT aT=true:=ar.n.addr;refine' W.step rfl (.of (ic rfl rfl rfl (Xg Q g0) rfl rfl rfl fun o4=>?_));refine fF ?_;refine bP ?_;refine U V.az ?_;refine cl (G:=B0 (n:=2147483646) (by decide) (by decide)) (h:=?_);rintro v m' ag hle ⟨rfl,rfl,rfl⟩;refine U V.va ?_;refine U V.az ?_;refine cl (G:=B0 (n:=2147483646) (by decide) (by decide)) (h:=?_);rintro v m' ag hle ⟨rfl,rfl,rfl⟩;refine U V.va ?_;refine aV ?_;refine bu ?_;rw[<-h6,<-iM];refine rg ?_;refine U V.az ?_;refine cl (G:=B0 (n:=31) (by decide) (by decide)) (h:=?_);rintro v m' ag hle ⟨rfl,rfl,rfl⟩;refine U V.az ?_;refine cl (G:=B0 (n:=31) (by decide) (by decide)) (h:=?_);rintro v m' ag hle ⟨rfl,rfl,rfl⟩;refine aV ?_;refine bu ?_;rw[A8,jR];refine rg ?_;refine U V.hb ?_;refine U V.az ?_;refine cl (G:=ajc hw ar au (by omega) (by omega)) (h:=?_);rintro v m' hs fu ⟨_,rfl,bE,bx,bS,bT,rfl,dK⟩;have xj:=ar.mono fu;have aZ:addrEq bE bE=true:=dK.s.addr;have aR:addrEq bS bS=true:=dK.p.addr;refine aV ?_;refine' W.step rfl (.of (ic rfl rfl rfl (yg Q g0) rfl rfl rfl fun ln=>?_));refine fF ?_;refine U V.a7 ?_;refine bP ?_;refine U V.hb ?_;refine U V.hb ?_;refine U V.az ?_;refine cl (G:=OB hw sv xj dK HI (n:=M) (by omega) au (by omega) (Ap 0) (show(0:Int)<=100 by decide) (show 1<=s1 by omega) (show s1<2147483647 by omega)) (h:=?_)
   rintro v m' mA gO ⟨_,rfl,cJ,dA,gy,nE,rfl,LZ⟩;have Bf:=xj.mono gO;have bY:addrEq cJ cJ=true:=LZ.s.addr;have ep:addrEq gy gy=true:=LZ.p.addr;obtain⟨iC,iU,iw⟩:=Jm (t:=z' (ly 25 pl l) s1) hw sv HI (show 1<=s1 by omega) (show s1<2147483647 by omega) M;have ao5:(kF (ly 25 pl l) M (z' (ly 25 pl l) s1)).r=0+M:=Jn M;refine aV ?_;refine' W.step rfl (.of (ic rfl rfl rfl (yg Q g0) rfl rfl rfl fun wG=>?_));refine fF ?_;refine U V.a7 ?_;refine bP ?_;refine U V.hb ?_;refine U V.hb ?_;refine U V.az ?_;refine cl (G:=OB hw sv Bf LZ iC (n:=N) (by omega) au (by omega) (by omega) (by omega) iU iw) (h:=?_);rintro v m' JZ xl ⟨_,rfl,nD,yC,r5,AJ,rfl,Er⟩;have adk:=Bf.mono xl;have gl:addrEq nD nD=true:=Er.s.addr;have kY:addrEq r5 r5=true:=Er.p.addr;refine aV ?_;refine' W.step rfl (.of (ic rfl rfl rfl (yg Q g0) rfl rfl rfl fun nc=>?_));refine fF ?_;refine U V.a7 ?_;refine bP ?_;refine U V.hb ?_;refine U V.hb ?_;refine aV ?_;refine U V.va ?_;rw[show(M:Int)+(N:Int)=((M+N:Nat):Int) by omega];refine cl (G:=OB hw sv adk ((dK.mono gO).mono xl) HI (n:=M+N) (by omega) au (by omega) (Ap 0) (show(0:Int)<=100 by decide) (show 1<=s1 by omega) (show s1<2147483647 by omega)) (h:=?_);rintro v m' PB qb ⟨_,rfl,Dc,Dt,Dd,yF,rfl,L0⟩;have pA:addrEq Dc Dc=true:=L0.s.addr;have Jh:addrEq Dd Dd=true:=L0.p.addr;obtain⟨d',gS,ia⟩:=Jm (t:=z' (ly 25 pl l) s1) hw sv HI (show 1<=s1 by omega) (show s1<2147483647 by omega) (M+N);have wr:(kF (ly 25 pl l) (M+N) (z' (ly 25 pl l) s1)).r=0+((M+N:Nat):Int):=Jn (M+N);have Er:=Er.mono qb;have Ga:=VE (g:=ly 25 pl l) (m:=M) (t:=z' (ly 25 pl l) s1) N;obtain⟨dZ,eJ,kV,mY⟩:=d'.len hw;have i2:=hw.i2
   refine aV ?_;refine' W.step rfl (.of (ic rfl rfl rfl (yg Q g0) rfl rfl rfl fun mH=>?_));refine fF ?_;refine U V.a7 ?_;refine bP ?_;refine U V.az ?_;refine cl (G:=Wd (s:=s1) (by omega) (by omega)) (h:=?_);rintro v m' ag hle ⟨rfl,rfl,rfl⟩;refine aV ?_;refine bP ?_;refine U V.az ?_;refine cl (G:=Wd (s:=s2) (by omega) (by omega)) (h:=?_);rintro v m' ag hle ⟨rfl,rfl,rfl⟩;refine aV ?_;refine bP ?_;refine U V.az ?_;refine U V.bm ?_;refine U V.az ?_;refine eu 87 (fun R2=>?_) fun R2=>?_
   ·refine bg V.az ?_;refine bg V.bm ?_;refine U V.bc ?_;refine U V.az ?_;refine eu 91 (fun LC=>?_) fun LC=>?_
    ·refine bg V.az ?_;refine bg V.bm ?_;refine U V.bc ?_;refine U V.az ?_;refine eu 95 (fun Lw=>?_) fun Lw=>?_
     ·refine bg V.az ?_;refine bg V.bm ?_;refine U V.bc ?_;refine U V.az ?_;refine eu 99 (fun Lx=>?_) fun Lx=>?_
      ·
        refine bg V.az ?_;refine bg V.bm ?_;refine U V.bc ?_;refine U V.az ?_;refine eu 103 (fun Ly=>?_) fun Ly=>?_
        ·refine bg V.az ?_;refine bg V.bm ?_;refine U V.bc ?_;refine U V.az ?_;refine eu 107 (fun Lz=>?_) fun Lz=>?_
         ·refine bg V.hb ?_;refine bg V.hb ?_;refine qX (G:=aiI Er L0 (by rw[<-Ga];omega) (fun r ax=>by rw[<-Ga] at ax;have:=kV r ax;omega) (by rw[<-Ga];omega) (fun r ax=>by rw[<-Ga] at ax;have:=mY r ax;omega) Ga.symm) (h:=?_);rintro v m' ag hle ⟨rfl,rfl,rfl⟩;refine U V.bc ?_;refine U V.az ?_;refine eu 112 (fun LA=>?_) fun LA=>?_
          ·refine bg V.bU ?_;refine bg V.a9 ?_;refine bg V.az ?_;refine bg V.az ?_;refine bg V.va ?_;refine bg V.bm ?_;refine U V.bc ?_;refine U V.az ?_;refine eu 120 (fun R3=>?_) fun R3=>?_
           ·refine bg V.az ?_;refine bg V.az ?_;refine bg V.bm ?_;refine bg V.az ?_;refine bg V.az ?_;refine bg V.bm ?_;refine' W.sk rfl rfl rfl (Exec.val rfl rfl (akf rfl rfl rfl (.inl ⟨rfl,rfl⟩) (by kernel_rfl)) ?_);refine U V.bc ?_;refine U V.az ?_;refine eu 129 (fun LB=>?_) fun LB=>?_
            ·refine bg V.az ?_;refine bg V.bm ?_;refine U V.bc ?_;refine U V.az ?_;refine eu 133 (fun R4=>?_) fun R4=>?_
             ·refine bg V.az ?_;refine bg V.bm ?_;refine U V.bc ?_;refine U V.a7 ?_;refine ns ?_;refine ae.ret ?_;refine hk ?_;first|rfl|exact fl Value.bool (o8 hd)
             ·exfalso;first|omega|(simp at R4;omega)
            ·exfalso;first|(simp[Bh] at LB;done)|(simp at LB;omega)
           ·exfalso;first|omega|(simp at R3;omega)
          ·exfalso;first|exact LA rfl|simp at LA
         ·exfalso;first|exact Lz rfl|simp at Lz
        ·exfalso;first|exact Ly rfl|simp at Ly
      ·
        exfalso;first|exact Lx rfl|simp at Lx
     ·exfalso;first|exact Lw rfl|simp at Lw
    ·exfalso;first|exact LC rfl|simp at LC
   ·exfalso;exact R2 rfl
end
end
end Go.Opn
namespace Go.Opn
noncomputable section
open Go Go.Cre Go.RowKit Go.Proofs
def H0:ao:=RQ 0 0 []
theorem afw:isTrue ((tD Tryz.prog (A3 Tryz.prog) 10000).body 4 [] false .run H0)=true:=by kernel_rfl
end
end Go.Opn
namespace Go.Opn
noncomputable section
open Go Go.Cre Go.RowKit
section
variable {H:Type}{P:Program}{enc:TypeId×Value->H}{W:World}{pZ:Nat}{t e:TypeId}{cs:List Value}{x:DataW H×List MemPlace}
end
end
end Go.Opn
namespace Go.Cre
noncomputable section
end
end Go.Cre
namespace Go.Opn
noncomputable section
open Go Go.Cre Go.RowKit Go.Proofs Go.ChangeShapes Go.WideShapes Go.ChangeAt
open Go.Proofs.YtdbhjgpppmkagaaGreat
abbrev PP:=Tryz.prog
theorem iw:PP.underlying 3=some (.int .i64):=by kernel_rfl
theorem OS:PP.underlying 22=some (.slice 3):=by kernel_rfl
theorem dA:PP.cellsOf 3=1:=by kernel_rfl
theorem Fe{P:Program}{W:World}{base:Nat}{t:TypeId}{v:Value}{k:IntKind}(hu:P.underlying t=some (.int k))(h:Value.okWide P W .any base t v):v.cells.toList=[v]:=by
 unfold Value.okWide at h;rw[hu] at h;simp only at h;unfold Cell.okWide at h;rw[hu] at h;cases v with
 |agg cs=>simp[Cell.ok,hu] at h
 |_=>rfl
theorem aj8{H:Type}{enc:TypeId×Value->H}{P:Program}{w:World}{base:Nat}{spare:Nat->Bool}{held:Bool}{t0 t1 t2 t3 t4 t5:TypeId}{args:Array Value}{ds:List (DataW H)}{dx:List MemPlace}(h:DataW.TrodAll enc P w base spare held [t0,t1,t2,t3,t4,t5] args.toList ds dx):
 ∃hr v1 v2 jX v4 oV d0 d1 d2 d3 d4 d5 hz dS ho hp jA hS,args=#[hr,v1,v2,jX,v4,oV]/\ds=[d0,d1,d2,d3,d4,d5]/\dx=hz++dS++ho++hp++jA++hS/\DataW.Trod enc P w base spare held t0 hr d0 hz/\DataW.Trod enc P w base spare held t1 v1 d1 dS/\DataW.Trod enc P w base spare held t2 v2 d2 ho/\DataW.Trod enc P w base spare held t3 jX d3 hp/\DataW.Trod enc P w base spare held t4 v4 d4 jA/\DataW.Trod enc P w base spare held t5 oV d5 hS:=by
 obtain⟨hr,W3,d0,amC,hz,mw,aW,rfl,rfl,bt,h⟩:=trodAll_cons h;obtain⟨v1,akH,d1,ty,dS,aZ,rfl,rfl,rfl,aa,h⟩:=trodAll_cons h;obtain⟨v2,ao6,d2,amD,ho,aR,rfl,rfl,rfl,ab,h⟩:=trodAll_cons h;obtain⟨jX,ao7,d3,amE,hp,bY,rfl,rfl,rfl,aK,h⟩:=trodAll_cons h;obtain⟨v4,ao8,d4,amF,jA,ep,rfl,rfl,rfl,bh,h⟩:=trodAll_cons h;obtain⟨oV,ao9,d5,amG,hS,gl,rfl,rfl,rfl,ff,h⟩:=trodAll_cons h;obtain⟨rfl,rfl,rfl⟩:=trodAll_nil h;exact⟨hr,v1,v2,jX,v4,oV,d0,d1,d2,d3,d4,d5,hz,dS,ho,hp,jA,hS,by cases args;simp_all,rfl,by simp,bt,aa,ab,aK,bh,ff⟩
theorem aja{P:Program}{W:World}{base:Nat}{t e:TypeId}{v:Value}(hu:P.underlying t=some (.slice e))(h:Value.okWide P W .any base t v):v.cells.toList=[v]:=by
 unfold Value.okWide at h;rw[hu] at h;simp only at h;unfold Cell.okWide at h;rw[hu] at h;cases v with
 |agg cs=>simp[Cell.ok,hu] at h
 |_=>rfl
open Go.Proofs.YtdbhjgpppmkagaaGreat
theorem own:ownKnob Tryz.prog.godebug=none:=by kernel_rfl
theorem afn{W:World}:Laid Tryz.prog W H0:=afp fun g e cells hm=>by cases hm
theorem afx:∃c,Tryz.f4.body=some c:=⟨_,rfl⟩
theorem afq:∃c,Tryz.f3.body=some c:=⟨_,rfl⟩
theorem laidOut:laidOutB Tryz.prog=true:=by kernel_rfl
theorem aip:∀t∈Tryz.f3.params.toList,PP.readableRec t=true/\t<PP.types.size:=by
 intro t aN;rw[Tryz.params3] at aN;simp only[ft,PQ,or_false] at aN;rcases aN with rfl|rfl|rfl|rfl|rfl|rfl<;>exact⟨by kernel_rfl,B7 (by kernel_rfl)⟩
set_option maxRecDepth 100000 in
theorem Zz(H:Type)(enc:TypeId×Value->H)(W:World)(base:Nat)(args:Array Value)(ds gs:List (DataW H))(before:List MemPlace)
 (sE:∀(j:Nat) t v,Tryz.f3.params[j]?=some t->args[j]?=some v->Value.okWide Tryz.prog W .any base t v)
 (kd:DataW.Whole enc Tryz.prog Tryz.f3.params.toList Rows.samplePartsSpec.vars false W args.toList ds gs before)
 (bC:(DataW.weightsEach Tryz.prog Tryz.f3.params.toList ds).all (·<=reachBytes)=true)
 (bB:laidMetH Tryz.prog Rows.samplePartsRow.laid W)(aC:W.ShapedOpen Tryz.prog):
 Calls Tryz.prog 3 args W fun e uS=>∃v,e=.returned v/\Rows.samplePartsSpec.post enc Tryz.prog Tryz.f3 false true false false W args v uS:=by
 have acy:=kd;obtain⟨p,q,abZ,lC,rfl,adj,dL⟩:=kd;have iL:DataW.TrodAll enc Tryz.prog W 0 (fun _=>true) true Tryz.f3.params.toList args.toList ds p:=abZ;obtain⟨rfl,rfl⟩:=trodVars_none lC;rw[Tryz.params3] at iL sE bC;obtain⟨hr,v1,v2,jX,v4,oV,d0,d1,d2,d3,d4,d5,hz,dS,ho,hp,jA,hS,rfl,rfl,rfl,⟨mZ,t0⟩,⟨b5,t1⟩,⟨dr,t2⟩,⟨ki,t3⟩,⟨qo,t4⟩,⟨m0,t5⟩⟩:=aj8 iL;have k8:=aja OS (sE 0 22 hr rfl rfl);have xd:=Fe iw (sE 1 3 v1 rfl rfl);have jv:=Fe iw (sE 2 3 v2 rfl rfl);have ov:=Fe iw (sE 3 3 jX rfl rfl);have acT:=Fe iw (sE 4 3 v4 rfl rfl);have acU:=Fe iw (sE 5 3 oV rfl rfl);rw[k8] at t0;rw[xd] at t1;rw[jv] at t2;rw[ov] at t3;rw[acT] at t4;rw[acU] at t5;obtain⟨l,c5,kl,kP,ay⟩:=ae3 OS iw dA t0;obtain⟨i1,_,aD⟩:=Fc iw t1;obtain⟨i2,_,a5⟩:=Fc iw t2;obtain⟨i3,_,cC⟩:=Fc iw t3;obtain⟨i4,_,e0⟩:=Fc iw t4;obtain⟨i5,_,ch⟩:=Fc iw t5;simp at kP aD a5 cC e0 ch;obtain⟨tr,sr⟩:=afx;obtain⟨ami,jw⟩:=afq;have SO:=afn (W:=W);have im:l.length<=9223372036854775807:=by
  obtain⟨b',n',b1,_,_,_,_,Hh,_,_,_,_,_,_,xn⟩:=Wc OS dA (by omega) t0;simp at Hh;rw[kP] at Hh;injection Hh with _ Hh _
  have S7:maxLen=9223372036854775807:=by decide
  omega
 have fz:=afr (Q:=O6 Tryz.prog H0) (g0:=W.heap.size) (J:=vO PP W) (l:=l) (c5:=c5) (kl:=kl) (Jc:=i1) (fL:=i2) (other:=i3) (IG:=i4) (IQ:=i5)
  (fun J=>Fn.closed (K:=a2 (O6 Tryz.prog H0) W.heap.size) (H0:=H0) rfl Tryz.func4 sr (fun _ _ h=>h) (fun w h=>Zw (Vj qm num) Tryz.func4 sr h afw))
  ⟨3,ay 3⟩ im
 have EQ:bN (qn PP W) [.slice c5 l.length kl,.int .i64 i1,.int .i64 i2,.int .i64 i3,.int .i64 i4,.int .i64 i5] (#[hr,v1,v2,jX,v4,oV]:Array Value).toList:=by
  have mw:=yv (P:=PP) (w:=W) hr;have aZ:=yv (P:=PP) (w:=W) v1;have aR:=yv (P:=PP) (w:=W) v2;have bY:=yv (P:=PP) (w:=W) jX;have ep:=yv (P:=PP) (w:=W) v4;have gl:=yv (P:=PP) (w:=W) oV;rw[kP] at mw;rw[aD] at aZ;rw[a5] at aR;rw[cC] at bY;rw[e0] at ep;rw[ch] at gl;exact .cons mw (.cons aZ (.cons aR (.cons bY (.cons ep (.cons gl (.nil _))))))
 refine(ag0 (K:=a2 (O6 Tryz.prog H0) W.heap.size) (w:=W) (b:=true) ⟨SO,SO.vL⟩ rfl Tryz.func3 jw EQ fz).mono fun e uS cn=>?_;obtain⟨he,ai⟩:=cn;subst he;exact⟨_,rfl,ahU acy ai laidOut aip rfl rfl rfl (fun _ _ _=>trodAll_cons_mk (shut_bool Tryz.underlying4 _) trodAll_mk0)⟩
def Nr (os:Os):World:=World.doorLaid Tryz.prog 400 os
def GS:Array Value:=#[.slice none 0 0,.int .i64 0,.int .i64 0,.int .i64 0,.int .i64 0,.int .i64 0]
def ZO{H:Type}:List (DataW H):=[.nil,.lit (.int .i64 0),.lit (.int .i64 0),.lit (.int .i64 0),.lit (.int .i64 0),.lit (.int .i64 0)]
theorem afo(os:Os):laidMetH Tryz.prog Rows.samplePartsRow.laid ((Nr os).forCall (fun _ _=>0) ⟨#[],GS,[]⟩).memory:=laidMetH_nil _ _
theorem reads(os:Os){H:Type}(enc:TypeId×Value->H):∃places,DataW.whole enc Tryz.prog ((Nr os).forCall (fun _ _=>0) ⟨#[],GS,[]⟩).memory Tryz.f3.params.toList Rows.samplePartsSpec.vars false GS.toList 8=some (ZO,[],places):=
 ⟨[],by kernel_rfl⟩
set_option maxRecDepth 100000 in
theorem lifted(os:Os)(started:os.Started)(H:Type)(enc:TypeId×Value->H)(F:Stop.Interp):
 ReturnsInHanded {} Tryz.checked os 3 .any ((OpenSpec.ofChange Rows.samplePartsSpec).preRow enc Tryz.prog Tryz.f3 Rows.samplePartsRow.domain false Rows.samplePartsRow.laid) (((OpenSpec.ofChange Rows.samplePartsSpec).at F).post enc Tryz.prog Tryz.f3 false true false false):=by
 obtain⟨places,I⟩:=reads os enc
 refine returnsInHanded_of_row (C:=Tryz.checked) (s:=OpenSpec.ofChange Rows.samplePartsSpec) own started (by kernel_rfl) Tryz.func3
  (witness_row_at (enc:=enc) (C:=Tryz.checked) false (Nr os) GS rfl (by kernel_rfl) (by kernel_rfl) (by kernel_rfl)
   (OpenSpec.preRow_of_cond 8 I (by kernel_rfl) (fun k aH=>by cases aH) (by kernel_rfl) (afo os))) ?_
 intro W base args ds gs before sE kd _ _ bC bB aC _;have ar:gs=[]:=by
  obtain⟨p,q,_,lC,_⟩:=kd;exact(trodVars_none lC).1
 subst ar;refine Zz H enc W base args ds [] before sE kd ?_ bB aC;have aeE:(OpenSpec.ofChange Rows.samplePartsSpec).bare.plain.varTypes Tryz.checked.prog=[]:=by kernel_rfl
 rw[aeE,fb,fb] at bC;exact bC
theorem card:Rows.SamplePartsSaid:=
 OpenClaim.holds_of_cond 3 Tryz.f3 rfl rfl rfl rfl rfl rfl rfl ⟨rfl,rfl,rfl,rfl,rfl⟩ rfl rfl rfl rfl rfl (by kernel_rfl) Tryz.func3 (by kernel_rfl)
  (B7 (by kernel_rfl)) (by unfold Func.isWrapper;first|(rw[aF (by decide+kernel)];kernel_rfl)|(rw[aq (by decide+kernel)];exact⟨rfl,rfl⟩))
  (fun os started H enc _ F=>by rw[OpenClaim.pre_eq_preRow];exact lifted os started H enc F)
end
end Go.Opn
namespace Go.Proofs.YtdbhjgpppmkagaaGreat
theorem openSampleParts : Rows.SamplePartsSaid := Go.Opn.card
end Go.Proofs.YtdbhjgpppmkagaaGreat
