/- A part of the proof of ResumeBack. -/
import Derived.Test.YtiemfjdacfioeaaGreatDoorCbs
import Derived.Test.YtiemfjdacfioeaaGreatDoorCbe
import Derived.Lib.ItoaMem
import Derived.Lib.ItoaLen
set_option maxRecDepth 100000
set_option maxHeartbeats 8000000
set_option linter.unusedVariables false
set_option linter.unusedSimpArgs false
namespace Go.Opn
noncomputable section
open Go.Cre Go.RowKit Go.Proofs
section
variable {Q:dI Tryz.prog}{g0:Nat}{J:aI}
open Classical in
theorem anf{g:bz}{t:gI}{aT aL bs cu:Option Addr}{aQ ci cs cD N:Nat}(hw:iP g)(aq:fG J g aT aQ aL ci)(aD:iS J t bs cs cu cD)(cY:fh g t.sum t.pl 0)(ry:kc g=0)(nF:N<=30)(ay:t.r=0)(af:1<=t.s)(jB:t.s<=2147483646):
 Fn (bb Q g0) 17 [hc g aT aQ aL ci,mG t bs cs cu cD,.int .i64 (N:Int)] [] J (fun u m' ag=>J.le ag/\m'=[]/\∃fo bs cs cu cD,u=.tuple #[mG fo bs cs cu cD,.int .i64 0]/\iS ag fo bs cs cu cD/\fh g fo.sum fo.pl (450*N)/\fo.r=N/\1<=fo.s/\fo.s<=2147483646):=by
 have fW:addrEq aL aL=true:=aq.i.addr;have gn:addrEq aT aT=true:=aq.n.addr;have sV:addrEq bs bs=true:=aD.s.addr;have zP:addrEq cu cu=true:=aD.p.addr;have i2:=hw.i2;obtain⟨E6,E7,z8,z'⟩:=cY.len hw;refine Fn.cH (cQ Tryz.func17) rfl rfl fun H=>?_;refine rg ?_;refine dJ fun a3=>?_;refine dJ fun a4=>?_;refine' W.step rfl (.of (e4 rfl rfl rfl (ln Q g0) rfl rfl rfl fun dc=>?_));refine I V.aA ?_;refine bj ?_;refine I V.gW ?_;refine I V.gW ?_;refine cl (G:=Yt aq aD (by omega) (fun r ay=>by have:=z8 r ay;omega) (by omega) (fun r ay=>by have:=z' r ay;omega)) (h:=?_);rintro v m' dQ ck ⟨rfl,rfl,_⟩;refine I V.aA ?_;refine bj ?_;refine I V.ah ?_;refine I V.a1 ?_;refine ns ?_;refine If (fun kL=>?_) fun kL=>?_
 ·exfalso;exact kL (cY.check ry (by omega) (by omega) (by omega) (by omega) jB)
 ·refine aj ?_;refine ab.skip ?_;refine fT [2,3,4,6] ?_;refine aj ?_;refine' ab.ht 0 [(36,.bool (decide ((t.s=0\/(N:Int)<0\/20000<(N:Int)\/1000000<t.r+N))))] ?tv ?tx;case tv=>
   refine ab.region ?_;refine I V.bc ?_;refine I V.bO ?_;refine I V.a1 ?_;refine I V.ah ?_;refine dq 22 (fun pq=>?_) fun pq=>?_
   ·refine al ?_;refine al ?_;refine I V.aV ?_;refine I V.ah ?_;refine al ?_;refine al ?_;refine I V.aV ?_;refine I V.ah ?_;refine al ?_;refine al ?_;refine al ?_;refine al ?_;refine al ?_;refine I V.aV ?_;refine a8 ?_;refine'⟨⟨_,rfl,⟨?n36,rfl,rfl,rfl,rfl,trivial⟩⟩,bA _,rfl⟩;case n36=>first|exact j2 rfl (by omega)|exact j0 rfl (by omega)|exact j1 rfl (by omega)|exact jZ rfl (by omega)
   ·refine aW V.ah ?_;refine aW V.a1 ?_;refine I V.aV ?_;refine I V.ah ?_;refine dq 26 (fun N0=>?_) fun N0=>?_
    ·refine al ?_;refine al ?_;refine I V.aV ?_;refine I V.ah ?_;refine al ?_;refine al ?_;refine al ?_;refine al ?_;refine al ?_;refine I V.aV ?_;refine a8 ?_;refine'⟨⟨_,rfl,⟨?n36,rfl,rfl,rfl,rfl,trivial⟩⟩,bA _,rfl⟩;case n36=>first|exact j2 rfl (by omega)|exact j0 rfl (by omega)|exact j1 rfl (by omega)|exact jZ rfl (by omega)
    ·refine aW V.ah ?_;refine aW V.a1 ?_;refine I V.aV ?_;refine I V.ah ?_;refine dq 30 (fun afY=>?_) fun afY=>?_
     ·refine al ?_;refine al ?_;refine al ?_;refine al ?_;refine al ?_;refine I V.aV ?_;refine a8 ?_;refine'⟨⟨_,rfl,⟨?n36,rfl,rfl,rfl,rfl,trivial⟩⟩,bA _,rfl⟩;case n36=>first|exact j2 rfl (by omega)|exact j0 rfl (by omega)|exact j1 rfl (by omega)|exact jZ rfl (by omega)
     ·refine aW V.bc ?_;refine aW V.bO ?_;refine aW V.ah ?_;refine aW V.bx ?_;refine aW V.a1 ?_;refine I V.aV ?_;refine a8 ?_;refine'⟨⟨_,rfl,⟨?n36,rfl,rfl,rfl,rfl,trivial⟩⟩,bA _,rfl⟩;case n36=>first|exact j2 rfl (by omega)|exact j0 rfl (by omega)|exact j1 rfl (by omega)|exact jZ rfl (by omega)
  case tx=>
   refine aj ?_;refine If (fun fV=>?_) fun fV=>?_
   ·exfalso;omega
   ·refine aj ?_;refine ab.skip ?_;refine rg ?_;refine I V.gW ?_;refine cl (G:=XX (aD.mono ck) (by omega) (by omega) (fun r ay=>by have:=z8 r ay;omega) (fun r ay=>by have:=z' r ay;omega)) (h:=?_);rintro v m' eZ cE ⟨_,eA,hK,fk,fH,hJ,fi,gX,sp,ui,uh,rfl,rfl,gU,jh⟩;refine' W.step rfl (.of (e4 rfl rfl rfl (ln Q g0) rfl rfl rfl fun a9=>?_));refine dN ?_;refine a8 ?_;refine ab.gB (m':=gX++(sp++[(a9,.row [.int .i64 t.r,.int .i64 t.s,.slice eA hK fk,.slice fH hJ fi] 30),(dc,.row [.int .i64 0,.int .i64 0,.slice none 0 0,.slice none 0 0] 30),(a4,.row (hI t bs cs cu cD) 30),dm a3 g aT aQ aL ci])) (jm (r:=(a9,.row [.int .i64 t.r,.int .i64 t.s,.slice eA hK fk,.slice fH hJ fi] 30)::((gX++sp)++[(dc,.row [.int .i64 0,.int .i64 0,.slice none 0 0,.slice none 0 0] 30),(a4,.row (hI t bs cs cu cD) 30),dm a3 g aT aQ aL ci]))) ?_;refine gU.hx (fun _ _ _ h=>h.ok) (.refl _) fun yp kv tH=>?_;refine(jh.mono kv).hx (fun _ _ _ h=>h.ok) (.refl _) fun ki jA tI=>?_;subst ui;subst uh;have na:=ck.trans (cE.trans (kv.trans jA));have dy:iS ki t eA fk fH fi:=⟨tH.mono jA fun _ _ q=>q.mono jA,tI⟩;refine aj ?_;refine ab.block ?_;refine' ab.c2 (l':=[(2,.int .i64 ((N):Int)),(3,_),(6,_),(9,_)]) ⟨?iD,rfl,rfl,rfl,trivial⟩ (bA _) ?_;case iD=>exact bS
    refine aj ?_;refine' ab.dF (fun(bH:Nat×gI×(Option Addr)×Nat×(Option Addr)×Nat×aI)=>match bH with|(k,nv,bm,bt,bl,bw,dY)=>⟨[(2,.int .i64 (k:Int))],[(a9,.row (hI nv bm bt bl bw) 30),(dc,.row [.int .i64 0,.int .i64 0,.slice none 0 0,.slice none 0 0] 30),(a4,.row (hI t bs cs cu cD) 30),dm a3 g aT aQ aL ci],dY,k<=N/\ki.le dY/\iS dY nv bm bt bl bw/\fh g nv.sum nv.pl (450*(N -k))/\nv.r+k=N/\1<=nv.s/\nv.s<=2147483646,k⟩) ⟨N,t,eA,fk,fH,fi,ki⟩ ?af ?bE
    case af=>exact⟨cZ _,aI.le.refl _,dy,cY.wide (by omega),by rw[ay];simp,af,jB⟩
    case bE=>
     rintro⟨k,nv,bm,bt,bl,bw,dY⟩ hinv;try simp only at hinv
     obtain⟨aU,dr,dy,xc,px,BB,PE⟩:=hinv;refine rg ?_;refine I V.ah ?_;refine I V.a1 ?_;refine ns ?_;refine If (fun MZ=>?_) fun MZ=>?_
     ·have xv:=na.trans dr;have bd:addrEq bm bm=true:=dy.s.addr;have a6:addrEq bl bl=true:=dy.p.addr;refine c5 ?_;refine aj ?_;refine ab.block ?_;refine rg ?_;refine I V.gW ?_;refine I V.gW ?_;refine cl (G:=aml hw (aq.mono xv) dy xc (by omega) (by omega) (by omega) (by omega) (by omega)) (h:=?_);rintro v m' Ap oU ⟨_,rfl,Jy,b8,dh,gx,sb,rfl,Om,N8,Hz,aiY,aiZ⟩;refine aM ?_;refine' W.step rfl (.of (e4 rfl rfl rfl (ln Q g0) rfl rfl rfl fun q2=>?_));refine dN ?_;refine I V.aA ?_;refine bj ?_;refine I V.ah ?_;refine I V.a1 ?_;refine ns ?_;refine If (fun Tv=>?_) fun Tv=>?_
      ·exfalso;exact Tv rfl
      ·refine aj ?_;refine ab.skip ?_;refine rg ?_;refine I V.gW ?_;refine dN ?_;refine bj ?_;refine I V.ah ?_;refine I V.bx ?_;refine I V.aA ?_;refine a8 ?_;refine cA ⟨k -1,Jy,b8,dh,gx,sb,Ap⟩ ?_ (hm:=.cons _ (.refl _));exact⟨by omega,dr.trans oU,Om,N8.wide (by omega),by omega,aiY,aiZ⟩
     ·obtain rfl:k=0:=by omega
      refine aj ?_;refine ab.exit ?_;refine rg ?_;refine I V.gW ?_;refine dN ?_;refine I V.aA ?_;refine ns ?_;refine ab.ret ?_;refine'⟨.inr rfl,rfl,_,[],.cell rfl (by repeat first|exact .head _|refine .tail _ ?_|refine h2 _ ?_) (l8 (eV rfl) rfl) (.tmp rfl .nil),iR _,⟨na.trans dr,rfl,nv,bm,bt,bl,bw,rfl,dy,xc.wide (by omega),by omega,BB,PE⟩⟩
end
end
end Go.Opn
namespace Go.Opn
noncomputable section
open Go
theorem vl{u:Nat}(h:u<10):Lib.decDigits u=[UInt8.ofNat (48+u)]:=Lib.decDigits_one h
theorem adk{u:Nat}(h:¬u<10):Lib.decDigits u=Lib.decDigits (u / 10)++Lib.decDigits (u % 10):=by
 rw[vl (show u % 10<10 by omega)];conv=>lhs;rw[Lib.decDigits,dif_neg h]
def fS(l:List Int):List UInt8:=l.flatMap fun n=>32::Lib.itoa n
theorem XE{l:List Int}{i:Nat}{x:Int}(U:l[i]?=some x):fS (l.take (i+1))=fS (l.take i)++(32::Lib.itoa x):=by
 unfold fS;rw[nS,U];simp
theorem XD{l:List Int}(h:∀x∈l,-9223372036854775808<=x/\x<=9223372036854775807):(fS l).length<=22*l.length:=by
 induction l with
 |nil=>simp[fS]
 |cons x r aK=>
  have aa:=aK fun y ai=>h y (.tail _ ai);have ae:=Lib.itoa_length_le x (h x (.head _)).1 (h x (.head _)).2;show((32::Lib.itoa x)++fS r).length<=_;rw[dv,iQ,iQ];omega
theorem J0{u:Nat}(h:¬u<10):Lib.decDigits u=Lib.decDigits (u / 10)++[UInt8.ofNat (48+u % 10)]:=by
 rw[adk h,vl (show u % 10<10 by omega)]
theorem AO{u:Nat}(h:u<10):(UInt8.ofNat (48+u)).toNat=48+u:=by
 rw[UInt8.toNat_ofNat'];omega
theorem adh:∀(n u:Nat),u<=n->∀c∈Lib.decDigits u,48<=c.toNat/\c.toNat<=57:=by
 intro n;induction n with
 |zero=>
  intro u hu c aH;rw[vl (by omega)] at aH;obtain rfl:=Sm.1 aH;rw[AO (by omega)];omega
 |succ n aK=>
  intro u hu c aH;by_cases h:u<10
  ·rw[vl h] at aH;obtain rfl:=Sm.1 aH;rw[AO h];omega
  ·rw[J0 h] at aH;rcases kX.1 aH with q|q
   ·exact aK (u / 10) (by omega) c q
   ·obtain rfl:=Sm.1 q;rw[AO (by omega)];omega
def rW(l:List UInt8):Nat:=l.foldl (fun a c=>10*a+(c.toNat -48)) 0
theorem ZQ{l:List UInt8}{c:UInt8}:rW (l++[c])=10*rW l+(c.toNat -48):=by unfold rW;rw[Jn];rfl
theorem adl:∀(n u:Nat),u<=n->rW (Lib.decDigits u)=u:=by
 intro n;induction n with
 |zero=>
  intro u hu;obtain rfl:u=0:=by omega
  rw[vl (by omega)];show 10*0+((UInt8.ofNat (48+0)).toNat -48)=0;rw[AO (by omega)]
 |succ n aK=>
  intro u hu;by_cases h:u<10
  ·rw[vl h];show 10*0+((UInt8.ofNat (48+u)).toNat -48)=u;rw[AO h];omega
  ·rw[J0 h,ZQ,aK (u / 10) (by omega),AO (by omega)];omega
theorem adi:∀(n u:Nat),u<=n->1<=u->∃c r,Lib.decDigits u=c::r/\c.toNat≠48:=by
 intro n;induction n with
 |zero=>intro u aa ae;omega
 |succ n aK=>
  intro u hu aa;by_cases h:u<10
  ·exact⟨_,[],vl h,by rw[AO h];omega⟩
  ·obtain⟨c,r,ae,aG⟩:=aK (u / 10) (by omega) (by omega);exact⟨c,r++[UInt8.ofNat (48+u % 10)],by rw[J0 h,ae];rfl,aG⟩
theorem adj:∀(k u:Nat),u<10 ^ (k+1)->(Lib.decDigits u).length<=k+1:=by
 intro k;induction k with
 |zero=>intro u h;rw[vl (by omega)];simp
 |succ k aK=>
  intro u h;by_cases q:u<10
  ·rw[vl q];simp
  ·rw[J0 q,dv];have:=aK (u / 10) (by rw[Mw] at h;omega);simp;exact this
theorem adg{u:Nat}(h:u<1000000000000000):(Lib.decDigits u).length<=15:=adj 14 u (by omega)
theorem aj1(n:Int):Lib.itoa n=(if n<0 then[45] else[])++Lib.decDigits n.natAbs:=by
 by_cases h:n<0
 ·obtain⟨u,rfl⟩:∃u:Nat,n=-(u:Int):=⟨n.natAbs,by omega⟩;rw[Lib.itoa_neg u (by omega),aE h];simp
 ·obtain⟨u,rfl⟩:∃u:Nat,n=(u:Int):=⟨n.natAbs,by omega⟩;rw[Lib.itoa_nonneg,ap h];simp
def tl(s:List UInt8)(a:Nat):Int:=match s[a]? with
 |some b=>(b.toNat:Int)
 |none=>0
theorem C5{s:List UInt8}{a:Nat}{b:UInt8}(h:s[a]?=some b):tl s a=b.toNat:=by unfold tl;rw[h]
theorem MT{s:List UInt8}{a:Nat}(h:s[a]?=none):tl s a=0:=by unfold tl;rw[h]
theorem JI{s w r:List UInt8}{a i:Nat}(h:s.drop a=w++r):s[a+i]?=(w++r)[i]?:=by rw[<-h,pY]
theorem J1{s w r:List UInt8}{a:Nat}(h:s.drop a=w++r)(a':a<=s.length):s.length=a+w.length+r.length:=by
 have:=cC List.length h;rw[lO,dv] at this;omega
theorem oH{s w r:List UInt8}{a:Nat}(h:s.drop a=w++r):s.drop (a+w.length)=r:=by
 rw[<-Ar,h,List.drop_left]
def CO(r:List UInt8):Prop:=∀c dw,r=c::dw->¬(48<=c.toNat/\c.toNat<=57)
theorem abB{s d r:List UInt8}{a i:Nat}(h:s.drop a=d++r)(aZ:∀c∈d,48<=c.toNat/\c.toNat<=57)(ay:CO r)(ao:i<=d.length):(i<d.length->48<=tl s (a+i)/\tl s (a+i)<=57)/\(i=d.length->tl s (a+i)<48\/57<tl s (a+i)):=by
 refine⟨fun q=>?_,fun q=>?_⟩
 ·have aa:=JI (i:=i) h;rw[lq q,de q] at aa;rw[C5 aa];have:=aZ _ (Jo q);omega
 ·subst q;have aa:=JI (i:=d.length) h;rw[qT (cZ _),tb] at aa;cases r with
  |nil=>rw[MT aa];omega
  |cons c dw=>
   rw[C5 aa];have:=ay c dw rfl;omega
theorem ZR{d:List UInt8}{i:Nat}{c:UInt8}(h:d[i]?=some c):rW (d.take (i+1))=10*rW (d.take i)+(c.toNat -48):=by
 rw[nS,h];exact ZQ
theorem ZP{d:List UInt8}:∀{i:Nat},i<=d.length->rW (d.take i)<=rW d:=by
 suffices H:∀(k i:Nat),i+k=d.length->rW (d.take i)<=rW d by
  intro i ao;exact H (d.length -i) i (by omega)
 intro k;induction k with
 |zero=>intro i ao;rw[et (by omega)];exact cZ _
 |succ k aK=>
  intro i ao;have:=aK (i+1) (by omega);rw[ZR (de (by omega))] at this;omega
theorem EC{c:UInt8}{r:List UInt8}(h:¬(48<=c.toNat/\c.toNat<=57)):CO (c::r):=fun ch dw q=>by
 injection q with q;subst q;exact h
theorem akU{l:List Int}{r:List UInt8}:CO (fS l++10::r):=by
 cases l with
 |nil=>exact EC (by decide)
 |cons x l=>exact EC (by decide)
theorem ak2{x:Int}{l:List Int}:fS (x::l)=32::Lib.itoa x++fS l:=by unfold fS;rw[Fu]
end
end Go.Opn
namespace Go.Opn
noncomputable section
open Go.Cre Go.RowKit Go.Proofs
abbrev eI(ac:Nat)(s:List UInt8)(at_:Nat):Nat×cK:=(ac,.row [.string ⟨⟨s⟩⟩,.int .i64 (at_:Int)] 69)
abbrev fi(ac:Nat):Value:=.pointer (some ⟨ac,0,none⟩)
section
variable {Q:dI Tryz.prog}{g0:Nat}{J:aI}
open Classical in
theorem Qt{ac a:Nat}{s:List UInt8}(a':a<=s.length)(af:s.length<=100000):Fn (bb Q g0) 67 [fi ac] [eI ac s a] J (fun u m' ag=>u=.int .u8 (tl s a)/\m'=[eI ac s a]/\J=ag):=by
 refine Fn.cH (cQ Tryz.func67) rfl rfl fun H=>?_;refine rg ?_;refine I V.aA ?_;refine ns ?_;refine ab.draw rfl (by kernel_rfl) (bf:=[.val 0,.val 1,.val 2,.val 3,.val 4,.val 5,.val 6,.val 7,.val 8,.val 9]) (by kernel_rfl) ?_;refine cq ?_;refine an rfl V.aF ?_;refine cq ?_;refine an rfl V.aF ?_;refine an rfl V.zy ?_;refine an rfl V.a1 ?_;refine a7.nil ?_;refine aj ?_;refine If (fun F5=>?_) fun F5=>?_
 ·refine rg ?_;refine I V.aA ?_;refine ns ?_;refine ab.ret ?_;refine'⟨.inr rfl,rfl,_,_,.tmp rfl .nil,bA _,?_⟩;first
   |(have c:=HC;exact⟨by rw[C5 Oy];rfl,rfl,rfl⟩)
   |exact⟨by rw[MT (fx (by omega))];rfl,rfl,rfl⟩
 ·have HC:a<s.length:=by omega
  have Oy:=de HC;have au:s[((a:Nat):Int).toNat]?=some s[a]:=by rw[cy];exact Oy
  refine c5 ?_;refine aj ?_;refine ab.draw rfl (by kernel_rfl) (bf:=[.val 0,.val 1,.val 2,.val 3,.val 4,.val 5,.val 6,.val 7,.val 8,.val 9]) (by kernel_rfl) ?_;refine cq ?_;refine an rfl V.aF ?_;refine cq ?_;refine an rfl V.aF ?_;refine an rfl V.BF ?_;refine an rfl V.aA ?_;refine a7.nil ?_;refine aj ?_;refine ab.ret ?_;refine'⟨.inr rfl,rfl,_,_,.tmp rfl .nil,bA _,?_⟩;first
   |(have c:=HC;exact⟨by rw[C5 Oy];rfl,rfl,rfl⟩)
   |exact⟨by rw[MT (fx (by omega))];rfl,rfl,rfl⟩
open Classical in
theorem NF{ac a:Nat}{s w r:List UInt8}(h:s.drop a=w++r)(a':a<=s.length)(af:s.length<=100000):Fn (bb Q g0) 44 [fi ac,.string ⟨⟨w⟩⟩] [eI ac s a] J (fun u m' ag=>m'=[eI ac s (a+w.length)]/\J=ag):=by
 have av:=J1 h a';refine Fn.cH (cQ Tryz.func44) rfl rfl fun H=>?_;refine rg ?_;refine aM ?_;refine ns ?_;refine ab.block ?_;refine' ab.c2 (l':=[(7,.int .i64 ((0):Int)),(0,_),(1,_),(6,_)]) ⟨?yc,rfl,rfl,rfl,trivial⟩ (bA _) ?_;case yc=>exact bS
 refine aj ?_;refine' ab.dF (fun(i:Nat)=>⟨[(7,.int .i64 (i:Int))],[eI ac s (a+i)],J,i<=w.length,w.length -i⟩) (0) ?af ?bE;case af=>exact cB _
 case bE=>
  rintro i hinv;try simp only at hinv
  have ao:=hinv;refine rg ?_;refine I V.a1 ?_;refine ns ?_;refine If (fun mj=>?_) fun mj=>?_
  ·have hw:=de (l:=w) (i:=i) (by omega);have mW:w[((i:Nat):Int).toNat]?=some w[i]:=by rw[cy];exact hw
   have mX:s[((a+i:Nat):Int).toNat]?=some w[i]:=by rw[cy,JI h,lq (by omega)];exact hw
   refine c5 ?_;refine aj ?_;refine ab.block ?_;refine rg ?_;refine aM ?_;refine ns ?_;refine ab.Dp [] rfl (by kernel_rfl) (bf:=[.val 0,.val 1,.val 2,.val 3,.val 4,.val 5,.val 6,.val 7,.val 8,.val 9,.val 10,.val 11,.val 12,.val 13,.val 14,.val 15,.val 16,.val 17,.val 18,.val 19,.val 20,.val 21,.val 22,.val 23,.val 24]) (by kernel_rfl) ?_;refine dp rfl V.ah ?_;refine dp rfl V.o2 ?_;refine dp rfl V.bc ?_;refine dp rfl V.aF ?_;refine dp rfl V.ah ?_;refine dp rfl V.o2 ?_;refine dp rfl V.bc ?_;refine dp rfl V.aF ?_;refine dp rfl V.zy ?_;refine dp rfl V.a1 ?_;refine dp rfl V.ah ?_;refine th 20 (fun afW=>?_) fun afW=>?_
   ·exfalso;omega
   ·refine dj rfl V.ah ?_;refine dj rfl V.o2 ?_;refine dj rfl V.bc ?_;refine dj rfl V.aF ?_;refine dj rfl V.ah ?_;refine dj rfl V.o2 ?_;refine dj rfl V.bc ?_;refine dj rfl V.aF ?_;refine dj rfl V.BF ?_;refine dj rfl V.ah ?_;refine dj rfl V.ah ?_;refine dj rfl V.BF ?_;refine dj rfl V.a1 ?_;refine dp rfl V.aV ?_;refine dx.nil ?_;refine aj ?_;refine If (fun Ts=>?_) fun Ts=>?_
    ·exfalso;exact Ts rfl
    ·refine aj ?_;refine ab.skip ?_;refine rg ?_;refine aM ?_;refine I V.aF ?_;refine I V.bx ?_;refine aM ?_;refine dN ?_;refine bj ?_;refine I V.bx ?_;refine I V.ah ?_;refine a8 ?_;refine cA (i+1) ?_;exact(by omega)
  ·obtain rfl:i=w.length:=by omega
   refine aj ?_;refine ab.exit ?_;refine'⟨.inl rfl,rfl,_,_,.nil,bA _,⟨rfl,rfl⟩⟩
open Classical in
theorem ads{ac a:Nat}{s d r:List UInt8}(h:s.drop a=d++r)(a':a<=s.length)(af:s.length<=100000)(aZ:∀c∈d,48<=c.toNat/\c.toNat<=57)(ay:CO r):Fn (bb Q g0) 68 [fi ac] [eI ac s a] J (fun u m' ag=>u=.string ⟨⟨d⟩⟩/\m'=[eI ac s (a+d.length)]/\J=ag):=by
 have av:=J1 h a';refine Fn.cH (cQ Tryz.func68) rfl rfl fun H=>?_;refine rg ?_;refine I V.aA ?_;refine bj ?_;refine aM ?_;refine I V.aF ?_;refine I V.aA ?_;refine ns ?_;refine ab.block ?_;refine fT [0,3] ?_;refine aj ?_;refine' ab.dF (fun(i:Nat)=>⟨[],[eI ac s (a+i)],J,i<=d.length,d.length -i⟩) (0) ?af ?bE;case af=>exact cB _
 case bE=>
  rintro i hinv;try simp only at hinv
  have ao:=hinv;obtain⟨vD,xm⟩:=abB h aZ ay ao;refine fT [0,3] ?_;refine aj ?_;refine' ab.ht 0 [(15,.bool (decide ((i<d.length))))] ?Nh ?Nr;case Nh=>
   refine ab.region ?_;refine I V.ah ?_;refine' W.step rfl (Exec.call rfl rfl rfl rfl rfl rfl rfl (bh:=[eI ac s (a+i)]) (bW:=[]) (.refl _) trivial (Qt (by omega) af) ?_);rintro v m' ag hle ⟨rfl,rfl,rfl⟩;refine I V.a1 ?_;refine I V.ah ?_;refine dq 11 (fun NY=>?_) fun NY=>?_
   ·refine aW V.ah ?_;refine' W.rb rfl rfl rfl (Exec.call rfl rfl rfl rfl rfl rfl rfl (bh:=[eI ac s (a+i)]) (bW:=[]) (.refl _) trivial (Qt (by omega) af) ?_);rintro v m' ag hle ⟨rfl,rfl,rfl⟩;refine aW V.a1 ?_;refine I V.aV ?_;refine a8 ?_;refine'⟨⟨_,rfl,⟨?n15,rfl,rfl,trivial⟩⟩,bA _,rfl⟩;case n15=>first|exact j2 rfl (by omega)|exact j0 rfl (by omega)|exact j1 rfl (by omega)|exact jZ rfl (by omega)
   ·refine al ?_;refine W.oL rfl rfl rfl rfl rfl ?_;refine al ?_;refine I V.aV ?_;refine a8 ?_;refine'⟨⟨_,rfl,⟨?n15,rfl,rfl,trivial⟩⟩,bA _,rfl⟩;case n15=>first|exact j2 rfl (by omega)|exact j0 rfl (by omega)|exact j1 rfl (by omega)|exact jZ rfl (by omega)
  case Nr=>
   refine aj ?_;refine If (fun q4=>?_) fun q4=>?_
   ·refine aj ?_;refine ab.skip ?_;refine aj ?_;refine ab.block ?_;refine rg ?_;refine aM ?_;refine I V.aF ?_;refine I V.bx ?_;refine aM ?_;refine dN ?_;refine a8 ?_;refine cA (i+1) ?_;exact(by omega)
   ·obtain rfl:i=d.length:=by omega
    refine aj ?_;refine ab.exit ?_;refine aj ?_;refine ab.draw rfl (by kernel_rfl) (bf:=[.val 0,.val 1,.val 2,.val 3,.val 4,.val 5,.val 6,.val 7,.val 8,.val 9,.val 10]) (by kernel_rfl) ?_;refine cq ?_;refine an rfl V.aF ?_;refine cq ?_;refine an rfl V.aF ?_;refine' a7.val rfl rfl rfl rfl (ZN rfl rfl (L2 rfl) rfl rfl ?bD ?aa ?ae) ?_;case bD=>exact cf
    case aa=>exact cf
    case ae=>exact cf
    refine an rfl V.aA ?_;refine a7.nil ?_;refine aj ?_;refine ab.ret ?_;refine'⟨.inr rfl,rfl,_,_,.tmp rfl .nil,bA _,?_⟩;refine⟨?_,rfl,rfl⟩;show Value.string _=_;congr 3
    rw[cy,cy,h,show a+d.length -a=d.length by omega,List.take_left]
end
section
variable {Q:dI Tryz.prog}{g0:Nat}{J:aI}
open Classical in
theorem XH{ac a:Nat}{s r:List UInt8}{n lw dE e:Int}(h:s.drop a=Lib.itoa n++r)(a':a<=s.length)(af:s.length<=100000)(ay:CO r)(j9:lw<=n)(lB:n<=dE)(aP:n.natAbs<1000000000000000):Fn (bb Q g0) 45 [fi ac,.int .i64 lw,.int .i64 dE,.int .i64 e] [eI ac s a] J (fun u m' ag=>u=.int .i64 n/\m'=[eI ac s (a+(Lib.itoa n).length)]/\J=ag):=by
 rw[aj1] at h ⊢;have bB:=adh n.natAbs n.natAbs (cZ _);have uf:=adl n.natAbs n.natAbs (cZ _);have arz:=adg aP;obtain⟨dU,d1,ho,sy⟩:∃dU d1,Lib.decDigits n.natAbs=dU::d1/\(dU.toNat=48->n=0/\d1=[]):=by
  by_cases q:1<=n.natAbs
  ·obtain⟨c,r,aa,ae⟩:=adi n.natAbs n.natAbs (cZ _) q
   exact⟨c,r,aa,fun q=>absurd q ae⟩
  ·have:n.natAbs=0:=by omega
   rw[this,vl (by omega)];exact⟨_,[],rfl,fun _=>⟨by omega,rfl⟩⟩
 generalize Lib.decDigits n.natAbs=d at*;have vE:d.length=d1.length+1:=by rw[ho];rfl
 have av:=J1 h a';rw[dv] at av;have j6:d[(0:Int).toNat]?=some dU:=by rw[ho];rfl
 have Vt:(n<0↔tl s a=45):=by
  have aa:=JI (i:=0) h;rw[ta] at aa;by_cases q:n<0
  ·rw[aE q] at aa
   rw[show tl s a=45 by rw[C5 (b:=45) aa];rfl];exact⟨fun _=>rfl,fun _=>q⟩
  ·rw[ap q,ho] at aa
   have:=bB dU (by rw[ho];exact .head _);rw[C5 (b:=dU) aa];omega
 have ai3:n<0->s.drop (a+1)=d++r:=fun q=>by
  rw[aE q] at h;exact oH (w:=[45]) (r:=d++r) (by rw[h];simp)
 have ai4:¬n<0->s.drop (a+0)=d++r:=fun q=>by rw[ap q] at h;simpa using h
 have VF:(n<0->(if n<0 then[45] else[]:List UInt8).length=1)/\(¬n<0->(if n<0 then[45] else[]:List UInt8).length=0):=⟨fun q=>by rw[aE q];rfl,fun q=>by rw[ap q];rfl⟩;generalize asg:(if n<0 then[45] else[]:List UInt8)=anz at*;refine Fn.cH (cQ Tryz.func45) rfl rfl fun H=>?_;refine rg ?_;refine I V.aA ?_;refine bj ?_;refine aM ?_;refine I V.aF ?_;refine I V.aA ?_;refine bj ?_;refine aM ?_;refine bj ?_;refine I V.ah ?_;refine' W.step rfl (Exec.call rfl rfl rfl rfl rfl rfl rfl (bh:=[eI ac s a]) (bW:=[]) (.refl _) trivial (Qt a' af) ?_);rintro v m' ag hle ⟨rfl,rfl,rfl⟩;refine I V.a1 ?_;refine a8 ?_;refine fT [10,21,0,1,2,3,9] ?_;refine aj ?_;refine' ab.yT (α:=(Nat)×(Int)) 2 (fun(bH:(Nat)×(Int))=>match bH with|(k,zX)=>[(10,.int .i64 zX)]) (fun(bH:(Nat)×(Int))=>match bH with|(k,zX)=>[eI ac s (a+k)]) (fun(bH:(Nat)×(Int))=>match bH with|(k,zX)=>J) (fun(bH:(Nat)×(Int))=>match bH with|(k,zX)=>(n<0/\k=1/\zX=-1)\/(¬n<0/\k=0/\zX=1)) ?acu ?adw
 case acu=>
  refine If (fun wN=>?_) fun wN=>?_
  ·refine rg ?_;refine I V.aA ?_;refine bj ?_;refine aM ?_;refine I V.aF ?_;refine I V.bx ?_;refine aM ?_;refine dN ?_;refine a8 ?_;refine'⟨⟨1,-1⟩,_,?hinv,rfl,⟨?m10,rfl,rfl,rfl,rfl,rfl,trivial⟩,rD,rfl⟩;case m10=>exact bS
   case hinv=>exact .inl ⟨Vt.2 wN,rfl,rfl⟩
  ·refine aj ?_;refine ab.skip ?_;refine'⟨⟨0,1⟩,_,?hinv,rfl,⟨?m10,rfl,rfl,rfl,rfl,rfl,trivial⟩,rD,rfl⟩;case m10=>exact bS
   case hinv=>exact .inr ⟨fun q=>wN (Vt.1 q),rfl,rfl⟩
 case adw=>
  rintro⟨k,zX⟩ hinv;try simp only at hinv
  have ahO:=hinv;have zb:s.drop (a+k)=d++r:=(by rcases hinv with⟨bd,a6,_⟩|⟨bd,a6,_⟩;(rw[a6];exact ai3 bd);(rw[a6];exact ai4 bd));have Hh:k=anz.length:=(by rcases hinv with⟨bd,a6,_⟩|⟨bd,a6,_⟩;(have:=VF.1 bd;omega);(have:=VF.2 bd;omega));refine rg ?_;refine I V.ah ?_;refine' W.step rfl (Exec.call rfl rfl rfl rfl rfl rfl rfl (bh:=[eI ac s (a+k)]) (bW:=[]) (.refl _) trivial (ads zb (by omega) af bB ay) ?_);rintro v m' ag hle ⟨rfl,rfl,rfl⟩;refine I V.aA ?_;refine a8 ?_;refine fT [0,1,2,3,9,10,11] ?_;refine aj ?_;refine' ab.ht 0 [(52,.bool (decide (False)))] ?Ni ?Ns;case Ni=>
   refine ab.region ?_;refine aM ?_;refine I V.a1 ?_;refine I V.ah ?_;refine dq 34 (fun N1=>?_) fun N1=>?_
   ·exfalso;omega
   ·refine aW V.ah ?_;refine aW V.zy ?_;refine aW V.a1 ?_;refine I V.aV ?_;refine I V.ah ?_;refine dq 39 (fun af8=>?_) fun af8=>?_
    ·exfalso;omega
    ·refine aW V.ah ?_;refine aW V.BF ?_;refine aW V.a1 ?_;refine aW V.ah ?_;refine dq 43 (fun af6=>?_) fun af6=>?_
     ·have bN:=sy (by omega);have zq:d.length=1:=by rw[vE,bN.2];rfl
      refine aW V.ah ?_;refine aW V.zy ?_;refine aW V.a1 ?_;refine aW V.ah ?_;refine dq 47 (fun af7=>?_) fun af7=>?_
      ·exfalso;omega
      ·refine aW V.ah ?_;refine aW V.a1 ?_;refine aW V.aV ?_;refine aW V.aV ?_;refine I V.aV ?_;refine a8 ?_;refine'⟨⟨_,rfl,⟨?Qn,rfl,rfl,rfl,rfl,rfl,rfl,rfl,trivial⟩⟩,bA _,rfl⟩;case Qn=>first|exact j2 rfl (by first|exact id|exact⟨fun q=>(by omega),fun q=>q.elim⟩)|exact j0 rfl (by first|exact id|exact⟨fun q=>(by omega),fun q=>q.elim⟩)|exact j1 rfl (by first|exact id|exact⟨fun q=>(by omega),fun q=>q.elim⟩)|exact jZ rfl (by first|exact id|exact⟨fun q=>(by omega),fun q=>q.elim⟩)
     ·refine al ?_;refine al ?_;refine al ?_;refine al ?_;refine Sz ?_;refine Sz ?_;refine al ?_;refine aW V.aV ?_;refine I V.aV ?_;refine a8 ?_;refine'⟨⟨_,rfl,⟨?Qn,rfl,rfl,rfl,rfl,rfl,rfl,rfl,trivial⟩⟩,bA _,rfl⟩;case Qn=>first|exact j2 rfl (by first|exact id|exact⟨fun q=>(by omega),fun q=>q.elim⟩)|exact j0 rfl (by first|exact id|exact⟨fun q=>(by omega),fun q=>q.elim⟩)|exact j1 rfl (by first|exact id|exact⟨fun q=>(by omega),fun q=>q.elim⟩)|exact jZ rfl (by first|exact id|exact⟨fun q=>(by omega),fun q=>q.elim⟩)
  case Ns=>
   refine aj ?_;refine If (fun nZ=>?_) fun nZ=>?_
   ·exfalso;exact nZ
   ·refine aj ?_;refine ab.skip ?_;refine rg ?_;refine aM ?_;refine bj ?_;refine aM ?_;refine ns ?_;refine ab.block ?_;refine' ab.c2 (l':=[(12,.int .i64 (rW (d.take (0)):Int)),(59,.int .i64 ((0):Int)),(0,_),(1,_),(2,_),(3,_),(9,_),(10,_),(11,_),(58,_)]) ⟨?uO,?Z7,rfl,rfl,rfl,rfl,rfl,rfl,rfl,rfl,trivial⟩ (bA _) ?_;case uO=>exact bS
    case Z7=>exact bS
    refine aj ?_;refine' ab.dF (fun(i:Nat)=>⟨[(12,.int .i64 (rW (d.take i):Int)),(59,.int .i64 (i:Int))],[eI ac s (a+k+d.length)],J,i<=d.length,d.length -i⟩) (0) ?af ?bE;case af=>exact cB _
    case bE=>
     rintro i hinv;try simp only at hinv
     have ao:=hinv;have KX:=ZP ao;refine rg ?_;refine I V.a1 ?_;refine ns ?_;refine If (fun C7=>?_) fun C7=>?_
     ·have OH:=de (l:=d) (i:=i) (by omega);have asc:d[((i:Nat):Int).toNat]?=some d[i]:=by rw[cy];exact OH
      have lA:=bB _ (cd OH);have zl:=ZR OH;have Ee:=ZP (d:=d) (i:=i+1) (by omega);generalize d[i]=C' at*;refine c5 ?_;refine aj ?_;refine ab.block ?_;refine rg ?_;refine aM ?_;refine bj ?_;refine I V.ah ?_;refine I V.bx ?_;refine aM ?_;refine I V.BF ?_;refine I V.bx ?_;refine I V.gJ ?_;refine I V.bx ?_;refine I V.aA ?_;refine bj ?_;refine I V.bx ?_;refine I V.ah ?_;refine a8 ?_;refine cA (i+1) ?_;exact(by omega)
     ·obtain rfl:i=d.length:=by omega
      rw[qV];have hmul:(rW d:Int)*zX=n:=by rw[uf];rcases ahO with⟨bd,_,rfl⟩|⟨bd,_,rfl⟩<;>omega
      refine aj ?_;refine ab.exit ?_;refine rg ?_;refine aM ?_;refine' W.step rfl (Exec.val rfl rfl (Rx rfl rfl rfl rfl ?hw) ?_);case hw=>exact(cC IntKind.i64.wrap hmul).trans (wrap_i64 (by omega) (by omega))
      refine I V.aA ?_;refine a8 ?_;refine fT [1,2,0,3,9,12] ?_;refine aj ?_;refine' ab.ht 2 [(81,.bool (decide ((n<lw\/dE<n))))] ?acS ?adG;case acS=>
       refine ab.region ?_;refine aM ?_;refine I V.a1 ?_;refine I V.ah ?_;refine dq 77 (fun afL=>?_) fun afL=>?_
       ·refine al ?_;refine al ?_;refine al ?_;refine I V.aV ?_;refine a8 ?_;refine'⟨⟨_,rfl,⟨?Qo,rfl,rfl,rfl,rfl,trivial⟩⟩,bA _,rfl⟩;case Qo=>first|exact j2 rfl (by omega)|exact j0 rfl (by omega)|exact j1 rfl (by omega)|exact jZ rfl (by omega)
       ·refine aW V.ah ?_;refine aW V.ah ?_;refine aW V.a1 ?_;refine I V.aV ?_;refine a8 ?_;refine'⟨⟨_,rfl,⟨?Qo,rfl,rfl,rfl,rfl,trivial⟩⟩,bA _,rfl⟩;case Qo=>first|exact j2 rfl (by omega)|exact j0 rfl (by omega)|exact j1 rfl (by omega)|exact jZ rfl (by omega)
      case adG=>
       refine aj ?_;refine If (fun abZ=>?_) fun abZ=>?_
       ·exfalso;omega
       ·refine aj ?_;refine ab.skip ?_;refine rg ?_;refine aM ?_;refine ns ?_;refine ab.ret ?_;refine'⟨.inr rfl,rfl,_,_,.tmp rfl .nil,bA _,⟨rfl,by rw[dv,<-Hh,Nat.add_assoc],rfl⟩⟩
end
end
end Go.Opn
