/- A part of the proof of TableMetric. -/
import Derived.Test.YtmmfodofkbmfnaaGreatDoorCba
set_option maxRecDepth 100000
set_option maxHeartbeats 4000000
set_option linter.unusedVariables false
set_option linter.unusedSimpArgs false
namespace Go.Opn
noncomputable section
open Go.Cre Go.RowKit Go.Proofs
section
variable {Q:eF Tryz.prog}{g0:Nat}{J:an}
theorem uR{v w:Value}{x y:Nat}(j:cn J v x)(aC:cn J w y)(gC:x≠0)(oV:y≠0)(fl:x<4294967296)(fG:y<4294967296):Fn (aS Q g0) 65 [v,w] [] J (hS J (x*y)):=by
 have e7:=j;have hh:=aC;obtain⟨bV,cV,bE,rfl,aQ,eu,gI⟩:=j.un;obtain⟨b7,dn,b8,rfl,aP,eX,gW⟩:=aC.un;obtain rfl:cV=1:=by omega
 obtain rfl:dn=1:=by omega
 obtain⟨bP,l4,tq,aA,rfl,nl,kp⟩:=gI rfl;obtain⟨bS,nH,xY,aW,rfl,vN,qS⟩:=gW rfl;have dN:x*y<18446744073709551616:=jZ (Nat.mul_lt_mul'' fl fG) (by decide);refine Fn.cH (cK Tryz.func65) rfl rfl fun H=>?_;refine rg ?_;refine I V.aI ?_;refine bg ?_;refine aH ?_;refine I V.bk ?_;refine I V.aT ?_;refine gP 17 (fun jE=>?_) fun jE=>?_
 ·exfalso;omega
 ·refine bF V.aT ?_;refine bF V.h2 ?_;refine bF V.bk ?_;refine I V.bx ?_;refine aJ ?_;refine If (fun qp=>?_) fun qp=>?_
  ·exfalso;omega
  ·refine aM ?_;refine ad.skip ?_;refine rg ?_;refine I V.aT ?_;refine cm (G:=wC e7) (h:=?_);rintro v' m' ai hle ⟨rfl,rfl,rfl⟩;refine aJ ?_;refine If (fun n4=>?_) fun n4=>?_
   ·refine rg ?_;refine aH ?_;refine aJ ?_;refine ad.ret ?_;refine'⟨.inr rfl,rfl,_,[],.tmp rfl .nil,b1 _,?_⟩;first
     |(have c:=n4
       exact⟨an.le.refl _,rfl,by rw[c,AB];exact hh⟩)
     |exact⟨a',rfl,cn.row (uS (n:=1) hk a0 lS) hk hk (by decide) (an.h6 _ _ _)⟩
   ·refine aM ?_;refine ad.skip ?_;refine rg ?_;refine I V.aT ?_;refine cm (G:=wC hh) (h:=?_);rintro v' m' ai hle ⟨rfl,rfl,rfl⟩;refine aJ ?_;refine If (fun qs=>?_) fun qs=>?_
    ·refine rg ?_;refine aH ?_;refine aJ ?_;refine ad.ret ?_;refine'⟨.inr rfl,rfl,_,[],.tmp rfl .nil,b1 _,?_⟩;first
        |(have c:=qs
          exact⟨an.le.refl _,rfl,by rw[c,iE];exact e7⟩)
        |(have c:=n4
          exact⟨an.le.refl _,rfl,by rw[c,AB];exact hh⟩)
        |exact⟨a',rfl,cn.row (uS (n:=1) hk a0 lS) hk hk (by decide) (an.h6 _ _ _)⟩
    ·refine aM ?_;refine ad.skip ?_;refine rg ?_;refine aH ?_;refine I V.bX ?_;refine' W.step rfl (.of (xh rfl rfl rfl rfl rfl (jQ Q g0) ?a2 ?U ?ab fun Dl=>?_));case a2=>exact cQ
     case U=>exact cQ
     case ab=>exact cQ
     refine I V.aI ?_;refine bU ?_;rw[show(((1:Nat):Int)+((1:Nat):Int)).toNat=2 from rfl,zero_num];refine rg ?_;refine aH ?_;refine aJ ?_;refine ad.block ?_;refine' ad.eZ (l':=[(36,.int .i64 ((0):Int)),(1,_),(5,_),(34,_),(35,_)]) ⟨?Z8,rfl,rfl,rfl,rfl,trivial⟩ (cl _) ?_;case Z8=>first|exact cu|exact ak some (ak (Value.int .u64) (by omega))|exact ak some (ak (Value.int .i64) (by omega))
     refine aM ?_;refine' ad.hN (fun(i:Nat)=>⟨[(36,.int .i64 (i:Int))],[kz .u64 92 Dl (C0 (x*y) i)],J,i<=1,1 -i⟩) (0) ?ag ?b2;case ag=>exact fj _
     case b2=>
      rintro i hinv;try simp only at hinv
      have aq:=hinv;refine rg ?_;refine I V.bk ?_;refine aJ ?_;refine If (fun DG=>?_) fun DG=>?_
      ·
        obtain rfl:i=0:=by omega
        refine fJ ?_;refine aM ?_;refine ad.block ?_;refine rg ?_;refine I V.aT ?_;refine I V.bw ?_;refine I V.ec ?_;refine aH ?_;refine bg ?_;refine I V.aI ?_;refine bg ?_;refine aH ?_;refine aJ ?_;refine ad.block ?_;refine' ad.eZ (l':=[(43,.int .i64 ((0):Int)),(8,.int .u64 0),(1,_),(5,_),(6,_),(7,_),(34,_),(35,_),(36,_),(41,_),(42,_)]) ⟨?Z9,?uX,rfl,rfl,rfl,rfl,rfl,rfl,rfl,rfl,rfl,trivial⟩ (cl _) ?_;case Z9=>first|exact cu|exact ak some (ak (Value.int .u64) (by omega))|exact ak some (ak (Value.int .i64) (by omega))
        case uX=>first|exact cu|exact ak some (ak (Value.int .u64) (by omega))|exact ak some (ak (Value.int .i64) (by omega))
        refine aM ?_;refine' ad.hN (fun(aa:Nat)=>⟨[(43,.int .i64 (aa:Int)),(8,.int .u64 0)],[kz .u64 92 Dl (C0 (x*y) aa)],J,aa<=1,1 -aa⟩) (0) ?ag ?b2;case ag=>exact fj _
        case b2=>
         rintro aa hinv;try simp only at hinv
         have aX:=hinv;refine rg ?_;refine I V.bk ?_;refine aJ ?_;refine If (fun PR=>?_) fun PR=>?_
         ·obtain rfl:aa=0:=by omega
          have fC:nth (cj .u64 (C0 (x*y) 0)) (0+(((0:Nat):Int)+((0:Nat):Int)).toNat*1)=some (.int .u64 ((0:Nat):Int)):=rfl;refine fJ ?_;refine aM ?_;refine ad.block ?_;refine rg ?_;refine I V.aT ?_;refine I V.bw ?_;refine I V.ec ?_;refine aH ?_;refine bg ?_;refine aH ?_;refine cm (G:=V1 fl fG) (h:=?_);rintro v' m' ai hle ⟨rfl,rfl,rfl⟩;refine aH ?_;refine bg ?_;refine I V.aI ?_;refine bg ?_;refine aH ?_;refine I V.bX ?_;refine I V.bw ?_;refine I V.ec ?_;refine cm (G:=Dn (x:=x*y) (y:=0) (by omega)) (h:=?_);rintro v' m' ai hle ⟨rfl,rfl,rfl⟩;refine aH ?_;refine bg ?_;refine aH ?_;refine I V.bX ?_;refine I V.aI ?_;refine bg ?_;refine aH ?_;refine cm (G:=Dn (x:=x*y) (y:=0) (by omega)) (h:=?_);rintro v' m' ai hle ⟨rfl,rfl,rfl⟩;refine aH ?_;refine bg ?_;refine aH ?_;refine I V.bX ?_;refine aH ?_;refine I V.bX ?_;refine I V.bw ?_;refine' W.step rfl (.of (nP rfl rfl rfl rfl (lq rfl) rfl rfl rfl ?U ?ag ?ao ?_));case ao=>repeat first|exact .head _ _ _ _|apply e6.tail|apply e6.app
          case ag=>exact pP (l:=[0,0]) (x:=x*y) 0 (by decide) (by omega)
          case U=>first|rfl|assumption
          refine I V.aI ?_;refine bg ?_;refine I V.bX ?_;refine I V.aT ?_;refine bU ?_;refine hO (1) ?_;exact(c9 _)
         ·obtain rfl:aa=1:=by omega
          refine aM ?_;refine ad.exit ?_;refine rg ?_;refine aH ?_;refine I V.bX ?_;refine I V.aT ?_;refine I V.bw ?_;refine' W.step rfl (.of (nP rfl rfl rfl rfl (lq rfl) rfl rfl rfl ?U ?ag ?ao ?_));case ao=>repeat first|exact .head _ _ _ _|apply e6.tail|apply e6.app
          case ag=>exact pP (l:=[x*y,0]) (x:=0) 1 (by simp) (by omega)
          case U=>first|rfl|assumption
          refine bg ?_;refine I V.bX ?_;refine I V.aT ?_;refine bU ?_;refine hO (1) ?_;exact(c9 _)
      ·
        obtain rfl:i=1:=by omega
        refine aM ?_;refine ad.exit ?_;refine rg ?_;refine I V.aT ?_;refine' W.step rfl (Exec.call rfl rfl rfl rfl rfl rfl rfl (ck:=[kz .u64 92 Dl [x*y,0]]) (e8:=[]) (.refl _) trivial (zW (l:=[x*y,0]) (by simp) (by decide) (by decide)) ?_);rintro v' m' ai hle ⟨k,rfl,hk,a0,lS,rfl,rfl⟩;refine I V.aI ?_;refine bU ?_;refine ad.ju rfl fun a'=>?_;refine aM ?_;refine ad.ret ?_;refine'⟨.inr rfl,rfl,_,[],.tmp rfl .nil,b1 _,?_⟩;first
         |(have c:=qs
           exact⟨an.le.refl _,rfl,by rw[c,iE];exact e7⟩)
         |(have c:=n4
           exact⟨an.le.refl _,rfl,by rw[c,AB];exact hh⟩)
         |exact⟨a',rfl,cn.row (uS (n:=1) hk a0 lS) hk hk (by decide) (an.h6 _ _ _)⟩
theorem Ja{v:Value}{x d:Nat}(j:cn J v x)(gC:x≠0)(ax:0<d)(af:x<18446744073709551616):Fn (aS Q g0) 120 [v,.int .u64 (d:Int)] [] J (fun u m' ai=>J.le ai/\m'=[]/\∃w,u=.tuple #[w,.int .u64 ((x % d:Nat):Int)]/\cn ai w (x / d)):=by
 obtain⟨bV,cV,bE,rfl,aQ,eu,gI⟩:=j.un;obtain rfl:cV=1:=by omega
 obtain⟨bP,l4,tq,aA,rfl,nl,kp⟩:=gI rfl;refine Fn.cH (cK Tryz.func120) rfl rfl fun H=>?_;refine rg ?_;refine aH ?_;refine bg ?_;refine aH ?_;refine' W.step rfl (.of (xh rfl rfl rfl rfl rfl (jQ Q g0) ?a2 ?U ?ab fun ti=>?_));case a2=>exact cQ
 case U=>exact cQ
 case ab=>exact cQ
 refine I V.aI ?_;refine bU ?_;rw[show((1:Nat):Int).toNat=1 from rfl,zero_num];refine rg ?_;refine I V.aI ?_;refine bg ?_;refine aH ?_;refine I V.bX ?_;refine I V.aI ?_;refine aJ ?_;refine ad.block ?_;refine' ad.eZ (l':=[(8,.int .i64 (((1):Int) -1)),(7,.int .u64 ((Cz (x % d) (1):Nat):Int)),(0,_),(1,_),(6,_)]) ⟨?uX,?l9,rfl,rfl,rfl,trivial⟩ (cl _) ?_;case uX=>first|exact cu|exact ak some (ak (Value.int .u64) (by omega))|exact ak some (ak (Value.int .i64) (by omega))
 case l9=>first|exact cu|exact ak some (ak (Value.int .u64) (by omega))|exact ak some (ak (Value.int .i64) (by omega))
 refine aM ?_;refine' ad.hN (fun(k:Nat)=>⟨[(8,.int .i64 ((k:Int) -1)),(7,.int .u64 ((Cz (x % d) k:Nat):Int))],[kz .u64 92 ti (MI (x / d) k)],J,k<=1,k⟩) (1) ?ag ?b2;case ag=>exact c9 _
 case b2=>
  rintro k hinv;try simp only at hinv
  have hk:=hinv;refine rg ?_;refine I V.aT ?_;refine I V.bk ?_;refine aJ ?_;refine If (fun mn=>?_) fun mn=>?_
  ·obtain rfl:k=1:=by omega
   refine fJ ?_;refine aM ?_;refine ad.block ?_;refine rg ?_;refine aH ?_;refine I V.bw ?_;refine I V.ec ?_;refine I V.aT ?_;refine cm (G:=I' af ax) (h:=?_);rintro v' m' ai hle ⟨rfl,rfl,rfl⟩;refine aH ?_;refine I V.bw ?_;refine' W.step rfl (.of (nP rfl rfl rfl rfl (lq rfl) rfl rfl rfl ?U ?ag ?ao ?_));case ao=>repeat first|exact .head _ _ _ _|apply e6.tail|apply e6.app
   case ag=>exact pP (l:=[0]) (x:=x / d) 0 (by decide) (by omega)
   case U=>first|rfl|assumption
   refine I V.aI ?_;refine bg ?_;refine I V.aT ?_;refine I V.bX ?_;refine I V.aI ?_;refine bU ?_;refine hO (0) ?_;exact(fj _)
  ·obtain rfl:k=0:=by omega
   refine aM ?_;refine ad.exit ?_;refine rg ?_;refine I V.aT ?_;refine' W.step rfl (Exec.call rfl rfl rfl rfl rfl rfl rfl (ck:=[kz .u64 92 ti [x / d]]) (e8:=[]) (.refl _) trivial (zW (l:=[x / d]) (by simp) (by decide) (by decide)) ?_);rintro v' m' ai hle ⟨k,rfl,hk,a0,lS,rfl,rfl⟩;refine aH ?_;refine bU ?_;refine ad.ju rfl fun a'=>?_;refine aM ?_;refine ad.ret ?_;refine'⟨.inr rfl,rfl,_,[],.tmp rfl (.tmp rfl .nil),b1 _,⟨a',rfl,_,rfl,cn.row (uS (n:=0) hk a0 lS) hk hk (by decide) (an.h6 _ _ _)⟩⟩
theorem Q0{v w:Value}{x y:Nat}(j:cn J v x)(aC:cn J w y)(oV:y≠0)(af:x<18446744073709551616):Fn (aS Q g0) 96 [v,w] [] J (fun u m' ai=>J.le ai/\m'=[]/\∃q r,u=.tuple #[q,r]/\cn ai q (x / y)/\cn ai r (x % y)):=by
 have e7:=j;have hh:=aC;obtain⟨bV,cV,bE,rfl,aQ,eu,gI⟩:=j.un;obtain⟨b7,dn,b8,rfl,aP,eX,gW⟩:=aC.un;obtain rfl:dn=1:=by omega
 obtain⟨bS,nH,xY,aW,rfl,vN,qS⟩:=gW rfl;refine Fn.cH (cK Tryz.func96) rfl rfl fun H=>?_;refine rg ?_;refine aH ?_;refine bg ?_;refine aH ?_;refine cm (G:=x0 e7 hh) (h:=?_);rintro v' m' ai hle ⟨rfl,rfl,rfl⟩;refine I V.bk ?_;refine aJ ?_;refine If (fun mn=>?_) fun mn=>?_
 ·have cx:=rT.1 mn;refine rg ?_;refine aH ?_;refine aJ ?_;refine ad.ret ?_;refine'⟨.inr rfl,rfl,_,[],.tmp rfl (.tmp rfl .nil),b1 _,?_⟩;first
   |exact⟨an.le.refl _,rfl,_,_,rfl,by rw[o3 cx];exact cn.nil,by rw[qc cx];exact e7⟩
 ·have hZ:¬x<y:=fun h=>mn (rT.2 h);refine lf ?_;refine aH ?_;refine I V.bk ?_;refine aJ ?_;refine If (fun kk=>?_) fun kk=>?_
  ·refine rg ?_;refine aH ?_;refine I V.bw ?_;refine I V.ec ?_;refine cm (G:=Ja e7 (by omega) (by omega) af) (h:=?_);rintro v' m' bO a' ⟨_,rfl,Ob,rfl,sn⟩;obtain⟨c5,ep,dj,rfl,bC,_,_⟩:=sn.un;refine aH ?_;refine bg ?_;refine aH ?_;refine jA (jQ Q g0) fun Pa=>?_;refine' W.step rfl (Exec.call rfl rfl rfl rfl rfl rfl rfl (ck:=[kz .u64 92 Pa [x % y]]) (e8:=[]) (.refl _) trivial (zW (l:=[x % y]) (by simp) (by decide) (by decide)) ?_);rintro v' m' ai hle ⟨k,rfl,hk,a0,lS,rfl,rfl⟩;refine aH ?_;refine bU ?_;refine ad.ju rfl fun bW=>?_;refine aM ?_;refine ad.ret ?_;refine'⟨.inr rfl,rfl,_,[],.tmp rfl (.tmp rfl .nil),b1 _,?_⟩;first
    |(have c:=kk
      exact⟨a'.trans bW,rfl,_,_,rfl,sn.mono bW,cn.row (uS (n:=0) hk a0 lS) hk hk (by decide) (an.h6 _ _ _)⟩)
    |exact⟨an.le.refl _,rfl,_,_,rfl,by rw[o3 cx];exact cn.nil,by rw[qc cx];exact e7⟩
  ·exfalso;exact kk rfl
theorem sP{v w:Value}{x y:Nat}(j:cn J v x)(aC:cn J w y)(oV:y≠0)(af:x<18446744073709551616):Fn (aS Q g0) 70 [v,w] [] J (hS J (x / y)):=by
 have e7:=j;have hh:=aC;obtain⟨bV,cV,bE,rfl,aQ,eu,gI⟩:=j.un;obtain⟨b7,dn,b8,rfl,aP,eX,gW⟩:=aC.un;refine Fn.cH (cK Tryz.func70) rfl rfl fun H=>?_;refine rg ?_;refine I V.aI ?_;refine bg ?_;refine I V.aT ?_;refine cm (G:=wC hh) (h:=?_);rintro v' m' ai hle ⟨rfl,rfl,rfl⟩;refine aJ ?_;refine If (fun jB=>?_) fun jB=>?_
 ·refine rg ?_;refine aH ?_;refine aJ ?_;refine ad.ret ?_;refine'⟨.inr rfl,rfl,_,[],.tmp rfl .nil,b1 _,?_⟩;first
   |(have c:=jB
     first
         |exact⟨an.le.refl _,rfl,by rw[c,Nat.div_one];exact e7⟩
         |exact⟨a',rfl,sn⟩)
 ·refine aM ?_;refine ad.skip ?_;refine rg ?_;refine aH ?_;refine cm (G:=Q0 e7 hh oV af) (h:=?_);rintro v' m' bO a' ⟨_,rfl,Ob,wr,rfl,sn,UR⟩;obtain⟨c5,ep,dj,rfl,bC,_,_⟩:=sn.un;obtain⟨dM,fp,eg,rfl,dp,_,_⟩:=UR.un;refine aH ?_;refine bg ?_;refine aH ?_;refine aJ ?_;refine ad.ret ?_;refine'⟨.inr rfl,rfl,_,[],.tmp rfl .nil,b1 _,?_⟩;first
   |(have c:=jB
     first
         |exact⟨an.le.refl _,rfl,by rw[c,Nat.div_one];exact e7⟩
         |exact⟨a',rfl,sn⟩)
theorem Qt{v w:Value}{x y:Nat}(j:cn J v x)(aC:cn J w y)(fl:x<18446744073709551616)(fG:y<18446744073709551616):Fn (aS Q g0) 95 [v,w] [] J (hS J (Nat.gcd x y)):=by
 have e7:=j;have hh:=aC;obtain⟨bV,cV,bE,rfl,aQ,eu,gI⟩:=j.un;obtain⟨b7,dn,b8,rfl,aP,eX,gW⟩:=aC.un;refine Fn.cH (cK Tryz.func95) rfl rfl fun H=>?_;refine rg ?_;refine I V.aI ?_;refine bg ?_;refine aH ?_;refine cm (G:=x0 e7 hh) (h:=?_);rintro v' m' ai hle ⟨rfl,rfl,rfl⟩;refine I V.bk ?_;refine bU ?_;refine ma [0,1,18] ?_;refine aM ?_;refine' ad.I7 (α:=(Value)×(Value)×(Nat)×(Nat)) 3 (fun(cT:(Value)×(Value)×(Nat)×(Nat))=>match cT with|(bX,rn,a,b)=>[(0,bX),(1,rn)]) (fun(cT:(Value)×(Value)×(Nat)×(Nat))=>match cT with|(bX,rn,a,b)=>[]) (fun(cT:(Value)×(Value)×(Nat)×(Nat))=>match cT with|(bX,rn,a,b)=>J) (fun(cT:(Value)×(Value)×(Nat)×(Nat))=>match cT with|(bX,rn,a,b)=>cn J bX a/\cn J rn b/\b<=a/\a<18446744073709551616/\Nat.gcd a b=Nat.gcd x y) ?Qb ?Q1
 case Qb=>
  refine If (fun jh=>?_) fun jh=>?_
  ·refine rg ?_;refine aH ?_;refine bU ?_;refine'⟨⟨.slice b7 dn b8,.slice bV cV bE,y,x⟩,_,?hinv,rfl,⟨?dK,?cM,trivial⟩,BZ,rfl⟩;case dK=>first|exact cu|exact ak some (ak (Value.int .u64) (by omega))|exact ak some (ak (Value.int .i64) (by omega))
   case cM=>first|exact cu|exact ak some (ak (Value.int .u64) (by omega))|exact ak some (ak (Value.int .i64) (by omega))
   case hinv=>exact⟨hh,e7,by have:=rT.1 jh;omega,fG,o4 _ _⟩
  ·refine aM ?_;refine ad.skip ?_;refine'⟨⟨.slice bV cV bE,.slice b7 dn b8,x,y⟩,_,?hinv,rfl,⟨?dK,?cM,trivial⟩,BZ,rfl⟩;case dK=>first|exact cu|exact ak some (ak (Value.int .u64) (by omega))|exact ak some (ak (Value.int .i64) (by omega))
   case cM=>first|exact cu|exact ak some (ak (Value.int .u64) (by omega))|exact ak some (ak (Value.int .i64) (by omega))
   case hinv=>exact⟨e7,hh,Nat.le_of_not_lt fun h=>jh (rT.2 h),fl,rfl⟩
 case Q1=>
  rintro⟨bX,rn,a,b⟩ hinv;try simp only at hinv
  obtain⟨e3,fm,abK,yB,da⟩:=hinv;have jk:=e3;have k4:=fm;obtain⟨fF,hi,hb,rfl,gi,KE,ab3⟩:=e3.un;obtain⟨gp,ed,e1,rfl,iO,KF,Uh⟩:=fm.un;refine aM ?_;refine ad.block ?_;refine aM ?_;refine ad.F8 ?_;refine rg ?_;refine aH ?_;refine I V.bk ?_;refine aJ ?_;refine If (fun n4=>?_) fun n4=>?_
  ·exfalso;omega
  ·refine aM ?_;refine ad.exit ?_;refine rg ?_;refine aH ?_;refine I V.bk ?_;refine aJ ?_;refine If (fun DI=>?_) fun DI=>?_
   ·refine rg ?_;refine aH ?_;refine aJ ?_;refine ad.ret ?_;refine'⟨.inr rfl,rfl,_,[],.tmp rfl .nil,b1 _,?_⟩;first
      |(have c:=DI
        first
           |exact⟨an.le.refl _,rfl,by rw[<-da,show b=0 by omega,tf];exact jk⟩
           |exact⟨a'.trans bW,rfl,by
               obtain rfl:r=0:=by omega
               rw[<-EZ,tf];exact cn.row (n:=1) (l:=[g]) (by unfold iz;rw[a1 (by omega)];rfl) (by simp) (by simp) (by decide) (an.h6 _ _ _)⟩)
   ·obtain⟨ey,acy,aa6,hc,rfl,abt,ab5⟩:=Uh (by omega);refine lf ?_;refine I V.aT ?_;refine I V.bw ?_;refine I V.ec ?_;refine I V.aI ?_;refine bg ?_;refine aH ?_;refine cm (G:=Ja jk (by omega) (by omega) yB) (h:=?_);rintro v' m' bO a' ⟨_,rfl,Ob,rfl,sn⟩;obtain⟨c5,ep,dj,rfl,bC,_,_⟩:=sn.un;refine aH ?_;refine aJ ?_;refine ad.block ?_;refine' ad.eZ (l':=[(12,.int .u64 ((b):Int)),(14,.int .u64 ((a % b):Int))]) ⟨?Hd,?He,trivial⟩ (cl _) ?_;case Hd=>first|exact cu|exact ak some (ak (Value.int .u64) (by omega))|exact ak some (ak (Value.int .i64) (by omega))
    case He=>first|exact cu|exact ak some (ak (Value.int .u64) (by omega))|exact ak some (ak (Value.int .i64) (by omega))
    refine aM ?_;refine' ad.hN (fun(cT:Nat×Nat)=>match cT with|(g,r)=>⟨[(12,.int .u64 (g:Int)),(14,.int .u64 (r:Int))],[],bO,0<g/\Nat.gcd g r=Nat.gcd x y,r⟩) ⟨b,a % b⟩ ?ag ?b2
    case ag=>exact⟨by omega,by rw[<-da,o4 b,o4 a,Ay b a]⟩
    case b2=>
     rintro⟨g,r⟩ hinv;try simp only at hinv
     obtain⟨ar,EZ⟩:=hinv;refine rg ?_;refine I V.aT ?_;refine I V.bk ?_;refine aJ ?_;refine If (fun PU=>?_) fun PU=>?_
     ·refine aM ?_;refine ad.skip ?_;refine aM ?_;refine ad.block ?_;refine aM ?_;refine ad.draw rfl (by kernel_rfl) (a6:=[.val 0,.val 1,.val 2,.val 3,.bZ 4,.cq [3,2],.bZ 5]) (by kernel_rfl) ?_;refine fX ?_;refine bd rfl V.hU ?_;refine rv rfl V.aI ?_;refine bR.cq eV ?_;refine rv rfl V.aI ?_;refine bR.nil ?_;refine hO ⟨r,g % r⟩ ?_ (hk:=by exact qd _ (by omega));exact⟨by omega,by rw[<-EZ,o4 r,o4 g,Ay r g]⟩
     ·refine aM ?_;refine ad.exit ?_;refine rg ?_;refine I V.aT ?_;refine jA (jQ Q g0) fun aaS=>?_;refine I V.aI ?_;refine bU ?_;refine ad.ju rfl fun bW=>?_;refine aM ?_;refine ad.ret ?_;refine'⟨.inr rfl,rfl,_,[],.tmp rfl .nil,b1 _,?_⟩;first
       |(have c:=DI
         first
             |exact⟨an.le.refl _,rfl,by rw[<-da,show b=0 by omega,tf];exact jk⟩
             |exact⟨a'.trans bW,rfl,by
                 obtain rfl:r=0:=by omega
                 rw[<-EZ,tf];exact cn.row (n:=1) (l:=[g]) (by unfold iz;rw[a1 (by omega)];rfl) (by simp) (by simp) (by decide) (an.h6 _ _ _)⟩)
theorem CG{v w:Value}{x y:Nat}(j:cn J v x)(aC:cn J w y)(fl:x<18446744073709551616)(fG:y<18446744073709551616):Fn (aS Q g0) 69 [v,w] [] J (hS J (Nat.gcd x y)):=by
 have e7:=j;have hh:=aC;obtain⟨bV,cV,bE,rfl,aQ,eu,gI⟩:=j.un;obtain⟨b7,dn,b8,rfl,aP,eX,gW⟩:=aC.un;refine Fn.cH (cK Tryz.func69) rfl rfl fun H=>?_;refine rg ?_;refine I V.aI ?_;refine bU ?_;refine ma [0,1] ?_;refine aM ?_;refine' ad.nd 0 [(10,.bool (decide ((x=1\/y=1))))] ?ts ?tw;case ts=>
  refine ad.region ?_;refine I V.aT ?_;refine cm (G:=wC e7) (h:=?_);rintro v' m' ai hle ⟨rfl,rfl,rfl⟩;refine I V.aT ?_;refine gP 7 (fun St=>?_) fun St=>?_
  ·refine cz ?_;refine W.yk rfl rfl rfl rfl rfl ?_;refine I V.bx ?_;refine bU ?_;refine'⟨⟨_,rfl,⟨?sB,rfl,rfl,trivial⟩⟩,cl _,rfl⟩;case sB=>first|exact pe rfl (by first|omega|(simp_all))|exact pc rfl (by first|omega|(simp_all))|exact pd rfl (by first|omega|(simp_all))|exact pb rfl (by first|omega|(simp_all))
  ·refine bF V.aT ?_;refine to (G:=wC hh) (h:=?_);rintro v' m' ai hle ⟨rfl,rfl,rfl⟩;refine I V.bx ?_;refine bU ?_;refine'⟨⟨_,rfl,⟨?sB,rfl,rfl,trivial⟩⟩,cl _,rfl⟩;case sB=>first|exact pe rfl (by first|omega|(simp_all))|exact pc rfl (by first|omega|(simp_all))|exact pd rfl (by first|omega|(simp_all))|exact pb rfl (by first|omega|(simp_all))
 case tw=>
  refine aM ?_;refine If (fun dP=>?_) fun dP=>?_
  ·refine rg ?_;refine jA (jQ Q g0) fun ti=>?_;refine I V.aI ?_;refine bU ?_;refine ad.ju rfl fun bW=>?_;refine aM ?_;refine ad.ret ?_;refine'⟨.inr rfl,rfl,_,[],.tmp rfl .nil,b1 _,?_⟩;first
    |exact⟨bW,rfl,by
      have e:Nat.gcd x y=1:=by
       rcases dP with rfl|rfl
       ·exact H5 _
       ·exact H6 _
      rw[e];exact cn.row (n:=1) (l:=[1]) rfl (by simp) (by simp) (by decide) (an.h6 _ _ _)⟩
  ·refine aM ?_;refine ad.skip ?_;refine rg ?_;refine aH ?_;refine cm (G:=x0 e7 hh) (h:=?_);rintro v' m' ai hle ⟨rfl,rfl,rfl⟩;refine I V.bk ?_;refine aJ ?_;refine If (fun fW=>?_) fun fW=>?_
   ·refine rg ?_;refine aH ?_;refine aJ ?_;refine ad.ret ?_;refine'⟨.inr rfl,rfl,_,[],.tmp rfl .nil,b1 _,?_⟩;first
      |(have c:=fW
        first
           |exact⟨an.le.refl _,rfl,by rw[<-I4.1 c,Nat.gcd_self];exact e7⟩
           |exact⟨a',rfl,hw⟩)
      |exact⟨bW,rfl,by
        have e:Nat.gcd x y=1:=by
         rcases dP with rfl|rfl
         ·exact H5 _
         ·exact H6 _
        rw[e];exact cn.row (n:=1) (l:=[1]) rfl (by simp) (by simp) (by decide) (an.h6 _ _ _)⟩
   ·refine aM ?_;refine ad.skip ?_;refine rg ?_;refine aH ?_;refine cm (G:=Qt e7 hh fl fG) (h:=?_);rintro v' m' bO a' ⟨_,rfl,hw⟩;obtain⟨c5,ep,dj,rfl,bC,_,_⟩:=hw.un;refine I V.aI ?_;refine aJ ?_;refine ad.ret ?_;refine'⟨.inr rfl,rfl,_,[],.tmp rfl .nil,b1 _,?_⟩;first
      |(have c:=fW
        first
           |exact⟨an.le.refl _,rfl,by rw[<-I4.1 c,Nat.gcd_self];exact e7⟩
           |exact⟨a',rfl,hw⟩)
      |exact⟨bW,rfl,by
        have e:Nat.gcd x y=1:=by
         rcases dP with rfl|rfl
         ·exact H5 _
         ·exact H6 _
        rw[e];exact cn.row (n:=1) (l:=[1]) rfl (by simp) (by simp) (by decide) (an.h6 _ _ _)⟩
end
def an.join(J bO:an):an:=fun a=>match J a with|some x=>some x|none=>bO a
theorem an.join_le{J bO:an}:J.le (J.join bO):=fun a x h=>by unfold an.join;rw[h]
theorem Inv.Lj{g0:Nat}{J s4 bO:an}{m':aU}{H H':ah}(h:Inv g0 (iZ [] H J) J [] H)(a2:s4.le J)(hk:Inv g0 (iZ [] H s4) bO m' H'):Inv g0 (iZ [] H J) (J.join bO) m' H'/\bO.le (J.join bO):=by
 have cx:∀a x,J a=some x->a<H.av:=fun a x q=>by
  obtain⟨c,e⟩:=x;obtain⟨o,f,z,s,q⟩:=h.dv a c e q;exact h.wf.lt q
 have fA:∀a,¬pD [] a:=fun a q=>absurd q (by unfold pD;exact HX);have yM:∀a,a<H.av->H'.mem.get a=H.mem.get a:=fun a q=>hk.eN a q (fA a);have Fl:∀a c e,J.join bO a=some (c,e)->∃o f z s,H'.mem.get a=some (.row c e o f z s):=fun a c e q=>by
  unfold an.join at q;cases gT:J a with
  |some x=>
   rw[gT] at q;injection q with q
   subst q;rw[yM a (cx a _ gT)];exact h.dv a c e gT
  |none=>rw[gT] at q;exact hk.dv a c e q
 refine⟨⟨hk.wf,hk.bf,hk.av,hk.bM,hk.eN,hk.j',Fl,an.join_le,fun a x aQ aP=>?_,fun a b q=>?_,fun a b q x j=>?_,hk.eY⟩,fun a x q=>?_⟩
 ·have aQ:J a=none:=aQ;unfold an.join at aP;rw[aQ] at aP;refine hk.fresh a x ?_ aP;show s4 a=none;cases U:s4 a with
  |none=>rfl
  |some y=>rw[a2 _ _ U] at aQ;cases aQ
 ·obtain⟨a8,a5,bI,cL⟩:=hk.own a b q;refine⟨a8,a5,?_,cL⟩;unfold an.join;cases gT:J a with
  |none=>exact bI
  |some y=>
   rcases a5 with k|k
   ·exact absurd (cx a y gT) (Nat.not_lt_of_le k)
   ·exact absurd k (fA a)
 ·obtain⟨a8,a5,bI⟩:=hk.opn a b q x j;refine⟨a8,a5,?_⟩;unfold an.join;cases gT:J x with
  |none=>exact bI
  |some y=>
   rcases a5 with k|k
   ·exact absurd (cx x y gT) (Nat.not_lt_of_le k)
   ·exact absurd k (fA x)
 ·unfold an.join;cases gT:J a with
  |none=>exact q
  |some y=>
   obtain⟨c,e⟩:=x;obtain⟨bo,bl⟩:=y;obtain⟨o,f,z,s,cJ⟩:=hk.dv a c e q;obtain⟨o',cd,fv,c1,cW⟩:=h.dv a bo bl gT;rw[<-yM a (cx a _ gT),cJ] at cW;injection cW with cW
   injection cW with aA aW
   subst aA;subst aW;rfl
section
variable {K:di}{B:c6}{ops:List Oper}{a6:List g9}{F:List oW}{E:bK}{m m':aU}{J:an}{o:Oper}{bt:bK->aU->an->Prop}
variable {n:Nat}{ds:dL}{l:List (Nat×Value)}{d i:Nat}
def s3(J:an)(f:FuncId)(aH:List Value)(er:Value->aU->an->Prop)(x:oW):Prop:=x.f=f->x.ca=aH->x.ck=[]/\x.J.le J/\∀v m' bO eL,x.er v m' bO->bO.le eL->J.le eL->er v m' eL
theorem dC{J:an}{f:FuncId}{aH:List Value}{er:Value->aU->an->Prop}:∀x∈([]:List oW),s3 J f aH er x:=fun x j=>by cases j
theorem cp{J:an}{f:FuncId}{aH:List Value}{er:Value->aU->an->Prop}{gC:oW}(a2:s3 J f aH er gC)(h:∀x∈F,s3 J f aH er x):∀x∈gC::F,s3 J f aH er x:=fun x j=>by
 rcases fy.1 j with rfl|j
 ·exact a2
 ·exact h x j
theorem c0{J:an}{f:FuncId}{aH:List Value}{er:Value->aU->an->Prop}{gC:oW}(h:Nat.beq gC.f f=false):s3 J f aH er gC:=fun ay=>by
 rw[ay,ga] at h;cases h
theorem bh.ea{c:Call}{x:Operand}{f:FuncId}{first cap:Array Value}{args aH:List Value}{er:Value->aU->an->Prop}
 (aq:nth ops i=some o)(ar:o.guard=none)(ae:o.op=.call c)(ax:o.dst=some d)(aE:Nat.blt d n=true)(aF:c.callee=.value x)(j:bB l x=some (.func (.func f) first cap))(aK:hz l c.args.toList=some args)(has:(first.toList++args)++cap.toList=aH)
 (ag:∀x∈F,s3 J f aH er x)(cg:Fn K f aH [] J er)(h:∀v m' ai,J.le ai->er v m' ai->bh K B ops a6 (⟨f,aH,[],J,er,false⟩::F) ⟨n,ds,(d,v)::l⟩ (m'++m) ai bt):bh K B ops (.bZ i::a6) F ⟨n,ds,l⟩ m J bt:=by
 intro T S H cw al au;have ao:([]++m).Perm m:=.refl _;have jl:=au.enter (ck:=[]) ao trivial;obtain⟨v,H',ai,m',a8,a5,bI,pG⟩:∃v H' ai m',iA K.Q f aH H (.returned v) H'/\Inv K.g0 (iZ [] H J) ai m' H'/\er v m' ai/\∀r,T f aH H=some r->r=(Ending.returned v,H'):=by
  cases tM:T f aH H with
  |none=>
   obtain⟨v,H',ai,m',a8,a5,bI⟩:=cg H jl;exact⟨v,H',ai,m',a8,a5,bI,fun r q=>by cases q⟩
  |some r=>
   obtain⟨x,j,⟨aA,aW,S0,v,H',bO,m',k3,a8,a5,bI⟩,j9⟩:=cw _ _ _ _ tM;obtain⟨aQ,aP,bC⟩:=ag x j aA aW;rw[aQ] at a5;obtain⟨FV,FW⟩:=jl.Lj aP a5;exact⟨v,H',_,m',a8,FV,bC v m' bO _ bI FW an.join_le,fun cA q=>by injection q with q;rw[<-q];exact k3⟩
 have ib:H.av<=H'.av:=a5.av;obtain⟨cL,gy⟩:=au.leave ao a5;obtain⟨aY,s1,s2⟩:=al.put (dst:=some d) aE v
 classical
 obtain⟨bx,dG,aB,o1,cy,q2,p9,U,ab,aV,br⟩:=h v m' ai gy bI (fun cd tl H1=>if cd=f/\tl=aH/\H1=H then some (.returned v,H') else T cd tl H1) aY H' (fun cd tl H1 r q=>by
  split at q
  ·rename_i e;obtain⟨rfl,rfl,rfl⟩:=e;injection q with q
   exact⟨_,.head _,⟨rfl,rfl,jl,v,H',ai,m',q.symm,a8,a5,bI⟩,fun e=>by cases e⟩
  ·obtain⟨x,j,cA,qK⟩:=cw _ _ _ _ q;exact⟨x,.tail _ j,cA,fun e=>jZ (qK e) ib⟩) s2 cL
 refine⟨fun cd bJ H1=>if cd=f/\bJ=aH/\H1=H then some (.returned v,H') else bx cd bJ H1,fun cd bJ H1 r cA aQ aP=>?_,aB,o1,cy,q2,p9,fun fq q=>?_,ab,aV,br⟩
 ·dsimp only at aP
  split at aP
  ·rename_i e;obtain⟨rfl,rfl,rfl⟩:=e;injection aP with aP
   rw[pG r aQ,aP]
  ·rename_i e;exact dG cd bJ H1 r cA (by rw[a1 e];exact aQ) aP
 ·have gG:fq f aH H=some (.returned v,H'):=q f aH H _ (by simp only[and_self,bs]);have yZ:∀cd bJ H1 r,bx cd bJ H1=some r->fq cd bJ H1=some r:=fun cd bJ H1 r ap=>by
   by_cases e:cd=f/\bJ=aH/\H1=H
   ·have:=dG cd bJ H1 (.returned v,H') r (by rw[bs e]) ap;rw[this,e.1,e.2.1,e.2.2];exact gG
   ·exact q cd bJ H1 r (by dsimp only;rw[a1 e];exact ap)
  show iv ops i (fun o=>j1 (dt K.P _ _ ops a6) (one K.P _ _ ops S H o))=_;unfold iv;rw[aq];show j1 (dt K.P _ _ ops a6) (one K.P _ _ ops S H o)=_;unfold one eI;rw[ar];show j1 (dt K.P _ _ ops a6) (mR S H o.dst (cc K.P _ _ S H o))=_;have he:cc K.P (hs K.Q fq) (gl K.Q hB fq).az S H o=some (.val v H'):=by
   unfold cc eh;simp only[ae];show js K.P _ c=_;unfold js;rw[aF];show ms K.P _ _ S.T H c=_;unfold ms;rw[mq al H aK];simp only[aF];rw[cX al H j];simp only
   show(match ji K.P H (.func f) (first.toList++args) cap.toList with|some (f,aH)=>ng (hs K.Q _ f aH H)|none=>none)=_
   unfold ji;simp only
   rw[has,AT a8 gG];rfl
  rw[he,ax];show j1 (dt K.P _ _ ops a6) (mV H' (S.put (some d) v))=_;rw[s1];exact U fq yZ
end
def j0(x n:Nat):Prop:=x=0/\n=0\/x≠0/\n=1
theorem j0.z{x n:Nat}(h:j0 x n)(a2:n=0):x=0:=by unfold j0 at h;omega
theorem j0.sA{x n:Nat}(h:j0 x n)(a2:x=0):n=0:=by unfold j0 at h;omega
theorem cn.bN{J:an}{v:Value}{x:Nat}(h:cn J v x):∃b n c,v=.slice b n c/\addrEq b b=true/\j0 x n/\(n=1->∃a off cells e,b=some ⟨a,off,none⟩/\J a=some (cells,e)/\nth cells (off+0)=some (.int .u64 (x:Int))):=h.un
theorem cn.sX{J ai:an}{v:Value}{x y:Nat}(h:cn J v x)(fO:cn ai v y)(hle:J.le ai):x=y:=by
 obtain⟨b,n,c,rfl,_,U,ab⟩:=h.un;obtain⟨b',uu,bo,e,_,aV,br⟩:=fO.un;injection e with aA aW cr
 subst aA;subst aW;rcases U with⟨p,q⟩|⟨p,q⟩
 ·rcases aV with⟨fI,cR⟩|⟨fI,cR⟩
  ·omega
  ·omega
 ·obtain⟨a,off,cells,e,rfl,a8,a5⟩:=ab q;obtain⟨bA,eB,cells',bl,w,qZ,oB⟩:=br q;injection w with w
  injection w with bc b6
  subst bc;subst b6;rw[hle _ _ a8] at qZ;injection qZ with qZ
  injection qZ with bc b6
  subst bc;rw[a5] at oB;injection oB with oB
  injection oB with _ oB
  omega
theorem hS.ag{J nX:an}{x gC:Nat}(hle:nX.le J)(dy:gC=x){ck:aU}(hm:ck=[]):ck=[]/\nX.le J/\∀v m' bO eL,hS nX gC v m' bO->bO.le eL->J.le eL->hS J x v m' eL:=
 ⟨hm,hle,fun v m' bO eL ⟨_,ab,aV⟩ br gq=>⟨gq,ab,dy▸aV.mono br⟩⟩
end
end Go.Opn
