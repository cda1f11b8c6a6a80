/- The law TableMetric returns true, whatever its arguments, and they read afterwards as before: the card of TableMetric. Conditions: none beyond the row's own; the listed variables are as the program's text lays them (the tie is given). -/
import Derived.Test.YtmmfodofkbmfnaaGreatDoorCbl
import Derived.Test.YtmmfodofkbmfnaaGreatDoorCaq
import Derived.Test.YtmmfodofkbmfnaaGreatDoorProg
import Derived.KernelRfl
import Derived.Test.YtmmfodofkbmfnaaGreatDoorCax
import Derived.Conc.Holds
import Derived.SevenTiedAt
import Derived.Test.YtmmfodofkbmfnaaGreatDoorCards
import Derived.Test.YtmmfodofkbmfnaaGreatDoorTie
import Derived.WalkKit
import Derived.ProofKit
import Derived.OpenShut
import Derived.Deep.DeepHandedRow
import Derived.Lib.LaidTab
import Derived.LaidHandle
import Derived.LaidMore
import Derived.Stop.LaidErr
import Derived.Carry
set_option maxRecDepth 100000
set_option maxHeartbeats 8000000
set_option linter.unusedVariables false
set_option linter.unusedSimpArgs false
namespace Go.Opn
noncomputable section
open Go.Cre Go.RowKit Go.Proofs
theorem Rm{J:an}{a:Nat}{e:TypeId}{cJ cW eE:cv}{fa p1 fh p2 uY p3:Value}(h:J a=some ([.bool (decide (cJ.z<0)),fa,p1,.bool (decide (cW.z<0)),fh,p2,.bool (decide (eE.z<0)),uY,p3],e))(U:ho J cJ fa p1)(ab:ho J cW fh p2)(aV:ho J eE uY p3):eO J 32 3 (gn J) (.slice (some ⟨a,0,none⟩) 3 3) [cJ,cW,eE]:=by
 refine⟨_,.row h rfl rfl (fun _=>⟨c9 _,by decide⟩) (fun q=>absurd q (by decide)),fun i x j=>?_⟩
 match i,j with
 |0,j=>injection j with j;subst j;exact⟨_,_,rfl,U⟩
 |1,j=>injection j with j;subst j;exact⟨_,_,rfl,ab⟩
 |2,j=>injection j with j;subst j;exact⟨_,_,rfl,aV⟩
abbrev O2(v:Value)(J:an):Value->aU->an->Prop:=fun w m' ai=>w=v/\m'=[]/\ai=J
theorem SK{A:cv}{p:Prop}{b:Bool}(U:A.z=0↔p)(ab:b=true↔p):decide (decide (A.z=0)=b)=true:=by
 cases b with
 |true=>
  have e:decide (A.z=0)=true:=hv (U.2 (ab.1 rfl));rw[e];rfl
 |false=>
  have e:decide (A.z=0)=false:=gd fun h=>by have:=ab.2 (U.1 h);cases this
  rw[e];rfl
theorem Xi{A D W P:cv}(U:A=D)(ab:W=P):A.z*(W.d:Int) -W.z*(A.d:Int)=D.z*(P.d:Int) -P.z*(D.d:Int):=by subst U;subst ab;rfl
theorem Xj{J nX:an}{z je:Int}(hle:nX.le J)(dy:je=z){ck:aU}(hm:ck=[]):ck=[]/\nX.le J/\∀v m' bO eL,(nX.le bO/\m'=[]/\v=.int .i64 (oT je))->bO.le eL->J.le eL->(J.le eL/\(m':aU)=[]/\(v:Value)=.int .i64 (oT z)):=
 ⟨hm,hle,fun v m' bO eL ⟨_,ab,aV⟩ br gq=>⟨gq,ab,dy▸aV⟩⟩
section
variable {Q:eF Tryz.prog}{g0:Nat}{J:an}
theorem AM{ps bb:List Nat}{n:Nat}{b b':Option Addr}{c bo:Nat}{e:TypeId}(cw:J 2=some (cj .u8 ls,e))(ar:Nat.blt 2 (aS Q g0).g0=true)(h:eO J 32 3 (gn J) (.slice b n c) (ps.map fun p:Nat=>a9 (p:Int) ps.sum))(fO:eO J 32 3 (gn J) (.slice b' n bo) (bb.map fun p:Nat=>a9 (p:Int) bb.sum))(eu:ps.length=n)(eX:bb.length=n)(iK:1<=n)(ia:n<=10)(ag:0<ps.sum)(lT:ps.sum<=110)(hu:0<bb.sum)(nx:bb.sum<=110):
 Fn (aS Q g0) 6 [.slice b n c,.slice b' n bo] [] J (fun x m' ai=>J.le ai/\m'=[]/\∃v1 v2,x=.tuple #[dF (a9 (c8 ps.sum bb.sum ps bb:Int) (ps.sum*bb.sum*2)) v1 v2,.int .i64 0]/\ho ai (a9 (c8 ps.sum bb.sum ps bb:Int) (ps.sum*bb.sum*2)) v1 v2):=by
 subst eu;have fO:=fO;rw[<-eX] at fO;have:=Pq cw ar h fO iK ia eX.symm ag lT rfl hu nx rfl;rw[eX] at this;exact this
theorem VE{l:List Int}{hr:Option Addr}{kl:Nat}{k:Int}{e:TypeId}(oh:∀J,Fn (aS Q g0) 14 [] [] J (O2 (.bool true) J))(cw:J 2=some (cj .u8 ls,e))(ar:Nat.blt 2 (aS Q g0).g0=true)(aw:rA J (.slice hr l.length kl) l)(mF:l.length<=9223372036854775807):
 Fn (aS Q g0) 3 [.slice hr l.length kl,.int .i64 k] [] J (fun v m' ai=>v=.bool true):=by
 have XW:addrEq hr hr=true:=by obtain⟨e,h⟩:=aw;exact h.addr
 obtain⟨n,aE⟩:∃n:Nat,1+k % 10=(n:Int):=⟨(1+k % 10).toNat,by omega⟩;have eu:1<=n:=by omega
 have eX:n<=10:=by omega
 refine Fn.cH (cK Tryz.func3) rfl rfl fun H=>?_;refine rg ?_;refine I V.aI ?_;refine bg ?_;refine aH ?_;refine fl fun Dj=>?_;refine I V.aI ?_;refine bg ?_;refine I V.aT ?_;refine cm (G:=LX (n:=10) (by decide) (by decide)) (h:=?_);rintro v' m' ai hle ⟨rfl,rfl,rfl⟩;refine I V.bX ?_;refine I V.aI ?_;refine bU ?_;rw[aE];refine rg ?_;refine aH ?_;refine' W.step rfl (Exec.call rfl rfl rfl rfl rfl rfl rfl (ck:=[n7 Dj hr kl l 0]) (e8:=[]) (.refl _) trivial (GM aw mF (fj _) eu eX) ?_);rintro v' m' bO hle ⟨a',dG,ps,bV,bE,T8,rfl,ov,qN,wa,rfl,jm⟩;refine aH ?_;refine' W.step rfl (Exec.call rfl rfl rfl rfl rfl rfl rfl (ck:=[n7 Dj hr kl l dG]) (e8:=[]) (.refl _) trivial (GM (aw.mono a') mF T8 eu eX) ?_);rintro v' m' eL hle ⟨bW,iN,bb,b7,b8,T9,rfl,sg,si,yV,rfl,kK⟩;refine aH ?_;refine' W.step rfl (Exec.call rfl rfl rfl rfl rfl rfl rfl (ck:=[n7 Dj hr kl l iN]) (e8:=[]) (.refl _) trivial (GM (aw.mono (a'.trans bW)) mF T9 eu eX) ?_);rintro v' m' hG hle ⟨dc,kw,rs,c5,dj,ab2,rfl,Fu,y0,BJ,rfl,Ex⟩;refine aH ?_;refine bU ?_;have jm:=eO.mono (R':=gn hG) (bW.trans dc) (fun _ _ q=>q.mono (bW.trans dc)) jm;have kK:=eO.mono (R':=gn hG) dc (fun _ _ q=>q.mono dc) kK;have Bm:=(a'.trans (bW.trans dc)) _ _ cw;have acD:addrEq bV bV=true:=jm.addr;have acE:addrEq b7 b7=true:=kK.addr;have acF:addrEq c5 c5=true:=Ex.addr;refine rg ?_;refine aH ?_;refine cm (G:=AM Bm ar jm kK ov sg eu eX qN wa si yV) (h:=?_);rintro v' m' kc hle ⟨dz,rfl,fa,p1,rfl,e3⟩;have jk:=e3;obtain⟨d1,aA,rfl,s1⟩:=e3.n.dJ;obtain⟨d2,aW,rfl,s2⟩:=e3.d.dJ
 refine aH ?_;refine' W.step rfl (.of (gN rfl rfl rfl (kT Q g0) rfl rfl rfl fun jy=>?_));refine fM ?_;refine I V.aI ?_;refine bg ?_;refine aH ?_;refine cm (G:=AM (dz _ _ Bm) ar (eO.mono (R':=gn kc) dz (fun _ _ q=>q.mono dz) kK) (eO.mono (R':=gn kc) dz (fun _ _ q=>q.mono dz) jm) sg ov eu eX si yV qN wa) (h:=?_);rintro v' m' nW hle ⟨eA,rfl,fh,p2,rfl,fm⟩;have k4:=fm;obtain⟨d3,cr,rfl,iP⟩:=fm.n.dJ;obtain⟨d4,dU,rfl,uO⟩:=fm.d.dJ;refine aH ?_;refine' W.step rfl (.of (gN rfl rfl rfl (kT Q g0) rfl rfl rfl fun ti=>?_));refine fM ?_;refine I V.aI ?_;refine bg ?_;refine aH ?_;refine cm (G:=AM ((dz.trans eA) _ _ Bm) ar (eO.mono (R':=gn nW) (dz.trans eA) (fun _ _ q=>q.mono (dz.trans eA)) kK) (eO.mono (R':=gn nW) (dz.trans eA) (fun _ _ q=>q.mono (dz.trans eA)) Ex) sg Fu eu eX si yV y0 BJ) (h:=?_);rintro v' m' xp hle ⟨fB,rfl,uY,p3,rfl,hA⟩;have oc:=hA;obtain⟨d5,b5,rfl,nL⟩:=hA.n.dJ;obtain⟨d6,hc,rfl,acN⟩:=hA.d.dJ;refine aH ?_;refine' W.step rfl (.of (gN rfl rfl rfl (kT Q g0) rfl rfl rfl fun O9=>?_));refine fM ?_;refine I V.aI ?_;refine bg ?_;refine aH ?_;refine cm (G:=AM ((dz.trans (eA.trans fB)) _ _ Bm) ar (eO.mono (R':=gn xp) (dz.trans (eA.trans fB)) (fun _ _ q=>q.mono (dz.trans (eA.trans fB))) jm) (eO.mono (R':=gn xp) (dz.trans (eA.trans fB)) (fun _ _ q=>q.mono (dz.trans (eA.trans fB))) Ex) ov Fu eu eX qN wa y0 BJ) (h:=?_);rintro v' m' s5 hle ⟨g3,rfl,z7,u0,rfl,eb⟩;have nk:=eb;obtain⟨d7,abg,rfl,acO⟩:=eb.n.dJ;obtain⟨d8,Jh,rfl,acP⟩:=eb.d.dJ;refine aH ?_;refine' W.step rfl (.of (gN rfl rfl rfl (kT Q g0) rfl rfl rfl fun O'=>?_))
 refine fM ?_;refine I V.aI ?_;refine bU ?_;obtain⟨A,vL⟩:∃A,A=a9 (c8 ps.sum bb.sum ps bb:Int) (ps.sum*bb.sum*2):=⟨_,rfl⟩;obtain⟨B,JV⟩:∃B,B=a9 (c8 bb.sum ps.sum bb ps:Int) (bb.sum*ps.sum*2):=⟨_,rfl⟩;obtain⟨C,Et⟩:∃C,C=a9 (c8 bb.sum rs.sum bb rs:Int) (bb.sum*rs.sum*2):=⟨_,rfl⟩;obtain⟨D,Ev⟩:∃D,D=a9 (c8 ps.sum rs.sum ps rs:Int) (ps.sum*rs.sum*2):=⟨_,rfl⟩;have j3:=Ga ps bb qN wa si yV vL;have nj:=Ga bb rs si yV y0 BJ Et;have vB:=Ga ps rs qN wa y0 BJ Ev;have SL:A=B:=by rw[vL,JV];exact VS
 have iL:=VT qN si rfl rfl;rw[<-vL] at iL;have hzero:=VV qN si (ov.trans sg.symm);rw[<-vL] at hzero;rw[<-vL] at jk ⊢;rw[<-JV] at k4 ⊢;rw[<-Et] at oc ⊢;rw[<-Ev] at nk ⊢;have JU:=((jk.mono eA).mono fB).mono g3;have SM:=(k4.mono fB).mono g3;have JW:=oc.mono g3;have jm:=eO.mono (R':=gn s5) (dz.trans (eA.trans (fB.trans g3))) (fun _ _ q=>q.mono (dz.trans (eA.trans (fB.trans g3)))) jm;have kK:=eO.mono (R':=gn s5) (dz.trans (eA.trans (fB.trans g3))) (fun _ _ q=>q.mono (dz.trans (eA.trans (fB.trans g3)))) kK;refine rg ?_;refine I V.aT ?_;refine I V.bk ?_;refine I V.aT ?_;refine gP 58 (fun JQ=>?_) fun JQ=>?_
 ·exfalso;exact JQ rfl
 ·refine bF V.aT ?_;refine bF V.bk ?_;refine I V.bx ?_;refine I V.aT ?_;refine gP 62 (fun JR=>?_) fun JR=>?_
  ·exfalso;exact JR rfl
  ·refine bF V.aT ?_;refine bF V.bk ?_;refine I V.bx ?_;refine I V.aT ?_;refine gP 66 (fun JO=>?_) fun JO=>?_
   ·exfalso;exact JO rfl
   ·refine bF V.aT ?_;refine bF V.bk ?_;refine I V.bx ?_;refine I V.aT ?_;refine gP 70 (fun JP=>?_) fun JP=>?_
    ·exfalso;exact JP rfl
    ·refine bF V.fH ?_;refine bF V.fH ?_;refine bF V.fH ?_;refine' W.Er rfl rfl rfl (.of (Oi rfl rfl rfl rfl (GR Q g0) rfl rfl rfl fun aaR=>?_));refine W.dv rfl fun fY S1=>?_;refine to (G:=VH (rs:=[A,C,D]) (Rm S1 (JU.mono fY) (JW.mono fY) (nk.mono fY)) (show 3<=1000 by decide) (VI j3 nj vB)) (h:=?_);rintro v' m' s6 hle ⟨hL,rfl,rfl⟩;refine bF V.bk ?_;refine I V.bx ?_;refine bU ?_
     skip
     refine aM ?_;refine If (fun IX=>?_) fun IX=>?_
     ·exfalso;exact IX rfl
     ·refine aM ?_;refine ad.skip ?_;have sb:=fY.trans hL;have yl:=JU.mono sb;have SN:=SM.mono sb;have SO:=JW.mono sb;have ym:=nk.mono sb;have jm:=eO.mono (R':=gn s6) sb (fun _ _ q=>q.mono sb) jm;have kK:=eO.mono (R':=gn s6) sb (fun _ _ q=>q.mono sb) kK;refine aM ?_;refine ad.draw rfl (by kernel_rfl) (a6:=[.val 0,.val 1,.val 2,.val 3,.val 4,.bZ 5,.cq [4],.bZ 6,.val 7,.val 8,.val 9,.val 10,.val 11,.bZ 12,.val 13,.val 14,.val 15,.val 17,.val 18,.bZ 16,.cq [18,17],.bZ 19,.val 20,.val 21,.val 22,.val 23,.val 24,.val 25,.bZ 26,.cq [23],.bZ 27,.val 28,.val 29,.val 30,.bZ 31,.val 32,.val 33]) (by kernel_rfl) ?_;refine bR.jP ?_;refine bh.val rfl rfl rfl rfl V.cN ?_;refine bh.val rfl rfl rfl rfl V.cP ?_;refine bh.val rfl rfl rfl rfl V.pO ?_;rw[hv j3.Wp];refine bh.val rfl rfl rfl rfl V.aT ?_;refine bh.nO rfl rfl rfl rfl rfl V.fH ?_;refine' bh.rS rfl rfl rfl rfl rfl rfl rfl rfl rfl rfl dC (aae (n:=1) (by decide)) ?_;rintro v' m' aaE hle ⟨mM,rfl,CT,nR,rfl,EF⟩;have J9:=EF;obtain⟨d9,DV,rfl,acQ⟩:=EF.n.dJ;obtain⟨d10,abc,rfl,acK⟩:=EF.d.dJ;refine bh.cq eV ?_;refine' bh.rS rfl rfl rfl rfl rfl rfl rfl rfl rfl rfl (cp (c0 rfl) dC) (Ms (yl.mono mM) J9 j3.d0 Nat.one_pos (by have:=j3.eJ;omega) (by have:=j3.ei;omega) (ej (wG (x:=1) (by decide)) (by decide)) (ej (wG (x:=1) (by decide)) (by decide))) ?_;rintro v' m' HN hle ⟨l1,rfl,rfl⟩;rw[show A.z*((⟨((1:Nat):Int),1⟩:cv).d:Int) -(⟨((1:Nat):Int),1⟩:cv).z*(A.d:Int)=A.z*((1:Nat):Int) -((1:Nat):Int)*(A.d:Int) from rfl];refine bh.nO rfl rfl rfl rfl rfl V.bk ?_;rw[hv iL];refine bh.val rfl rfl rfl rfl V.bx ?_
      refine bh.val rfl rfl rfl rfl V.aT ?_;refine bh.nO rfl rfl rfl rfl rfl V.fH ?_;refine bh.nO rfl rfl rfl rfl rfl V.fH ?_;refine' bh.rS rfl rfl rfl rfl rfl rfl rfl rfl rfl rfl (cp (c0 rfl) (cp (c0 rfl) dC)) (M3 ((yl.mono mM).mono l1) ((SN.mono mM).mono l1) (by have:=j3.eJ;omega) (by have:=j3.ei;omega)) ?_;rintro v' m' ai hle ⟨rfl,rfl,fl,rfl,vR⟩;obtain rfl:fl=true:=vR.2 SL;refine bh.val rfl rfl rfl rfl V.bx ?_;refine bh.val rfl rfl rfl rfl V.aT ?_;refine bh.nO rfl rfl rfl rfl rfl V.fH ?_;refine bh.nO rfl rfl rfl rfl rfl V.aT ?_;refine bh.nO rfl rfl rfl rfl rfl V.aT ?_;refine' bh.rS rfl rfl rfl rfl rfl rfl rfl rfl rfl rfl (cp (c0 rfl) (cp (c0 rfl) (cp (c0 rfl) dC))) (aas ((yl.mono mM).mono l1)) ?_;rintro v' m' ai hle ⟨rfl,rfl,rfl⟩;refine bh.cq eV ?_;refine' bh.rS rfl rfl rfl rfl rfl rfl rfl rfl rfl rfl (cp (c0 rfl) (cp (c0 rfl) (cp (c0 rfl) (cp (c0 rfl) dC)))) (Yk (eO.mono (R':=gn HN) (mM.trans l1) (fun _ _ q=>q.mono (mM.trans l1)) jm) (eO.mono (R':=gn HN) (mM.trans l1) (fun _ _ q=>q.mono (mM.trans l1)) kK) (by rw[jw];exact ov) (by rw[jw];exact sg) (by omega) (Yh qN wa)) ?_;rintro v' m' ai hle ⟨rfl,rfl,fG,rfl,fQ⟩;refine' bh.nO rfl rfl rfl rfl rfl (z1 rfl rfl rfl (.inl ⟨rfl,rfl⟩) (by kernel_rfl)) ?_;rw[SK hzero fQ];refine bh.val rfl rfl rfl rfl V.bx ?_;refine bh.val rfl rfl rfl rfl V.aT ?_;refine bh.nO rfl rfl rfl rfl rfl V.fH ?_;refine bh.nO rfl rfl rfl rfl rfl V.fH ?_;refine bh.nO rfl rfl rfl rfl rfl V.fH ?_;refine' bh.rS rfl rfl rfl rfl rfl rfl rfl rfl rfl rfl (cp (c0 rfl) (cp (c0 rfl) (cp (c0 rfl) (cp (c0 rfl) (cp (c0 rfl) dC))))) (MB (r:=A) (s:=C) rfl rfl ((yl.mono mM).mono l1) ((SO.mono mM).mono l1) j3.d0 nj.d0 (by have:=j3.eJ;omega) (by have:=j3.ei;omega) (by have:=nj.eJ;omega) (by have:=nj.ei;omega)) ?_
      rintro v' m' aaF hle ⟨zo,rfl,CU,z8,rfl,dN⟩;obtain⟨P,yv⟩:∃P,P=a9 (A.z*C.d+C.z*A.d) (A.d*C.d):=⟨_,rfl⟩;rw[<-yv] at dN ⊢;have J6:=dN;have EE:=Xx j3 nj yv;have UB:=VU qN si y0 (ov.trans sg.symm) (sg.trans Fu.symm) vL Et Ev yv;obtain⟨d11,abd,rfl,acL⟩:=dN.n.dJ;obtain⟨d12,abe,rfl,acM⟩:=dN.d.dJ;refine bh.cq eV ?_;refine' bh.rS rfl rfl rfl rfl rfl rfl rfl rfl rfl rfl (cp (c0 rfl) (cp (c0 rfl) (cp (c0 rfl) (cp (c0 rfl) (cp (fun _ aK=>Xj (l1.trans zo) (Xi ((yl.mono mM).sX (((ym.mono mM).mono l1).mono zo) (l1.trans zo) (jR aK).1) (J9.sX J6 (l1.trans zo) (jR aK).2)) rfl) (cp (c0 rfl) dC)))))) (Ms (((ym.mono mM).mono l1).mono zo) J6 vB.d0 EE.1 (by have:=vB.eJ;omega) (by have:=vB.ei;omega) EE.2.1 EE.2.2) ?_;rintro v' m' aaG hle ⟨acs,rfl,rfl⟩;refine bh.nO rfl rfl rfl rfl rfl V.bk ?_;rw[hv UB];refine bh.val rfl rfl rfl rfl V.bx ?_;refine bh.val rfl rfl rfl rfl V.aT ?_;refine' bh.rS rfl rfl rfl rfl rfl rfl rfl rfl rfl rfl (cp (c0 rfl) (cp (c0 rfl) (cp (c0 rfl) (cp (c0 rfl) (cp (c0 rfl) (cp (c0 rfl) (cp (c0 rfl) dC))))))) (oh _) ?_;rintro v' m' ai hle ⟨rfl,rfl,rfl⟩;refine bh.jO (fun x j=>jX (f:=fun x=>(x.f,x.ca)) j) ?_;refine bd rfl V.bx ?_;refine bd rfl V.aI ?_;refine bR.nil ?_;refine aM ?_;refine ad.ret ?_;refine m2 ?_;rfl
end
end
end Go.Opn
namespace Go.Opn
noncomputable section
open Go Go.Cre Go.RowKit Go.Proofs
def Gr:List Int:=[0,1,56,2,57,49,28,3,61,58,42,50,38,29,17,4,62,47,59,36,45,43,51,22,53,39,33,30,24,18,12,5,63,55,48,27,60,41,37,16,46,35,44,21,52,32,23,11,54,26,40,15,34,20,31,10,25,14,19,9,13,8,7,6]
def P8:List Value:=Gr.map fun z=>Value.int .u8 z
def Nt:List (Nat×TypeId×List Value):=[(2,176,P8)]
def H0:ah:=Jz 3 2 Nt
theorem VJ:isTrue ((pi Tryz.prog (vE Tryz.prog) 10000).body 14 [] false .run H0)=true:=by kernel_rfl
end
end Go.Opn
namespace Go.Opn
noncomputable section
open Go Go.Cre Go.RowKit
section
variable {H:Type}{P:Program}{enc:TypeId×Value->H}{W:World}{fuel:Nat}{t e:TypeId}{cs:List Value}{x:DataW H×List MemPlace}
end
end
end Go.Opn
namespace Go.Cre
noncomputable section
end
end Go.Cre
namespace Go.Opn
noncomputable section
open Go Go.Cre Go.RowKit Go.Proofs Go.ChangeShapes Go.WideShapes Go.ChangeAt
open Go.Proofs.YtmmfodofkbmfnaaGreatDoor
abbrev PP:=Tryz.prog
theorem p0:PP.underlying 3=some (.int .i64):=by kernel_rfl
theorem G7:PP.underlying 22=some (.slice 3):=by kernel_rfl
theorem dj:PP.cellsOf 3=1:=by kernel_rfl
theorem U9{P:Program}{W:World}{base:Nat}{t:TypeId}{v:Value}{k:IntKind}(hu:P.underlying t=some (.int k))(h:Value.okWide P W .any base t v):v.cells.toList=[v]:=by
 unfold Value.okWide at h;rw[hu] at h;simp only at h;unfold Cell.okWide at h;rw[hu] at h;cases v with
 |agg cs=>simp[Cell.ok,hu] at h
 |_=>rfl
theorem trodAll_two{H:Type}{enc:TypeId×Value->H}{P:Program}{w:World}{base:Nat}{spare:Nat->Bool}{held:Bool}{t0 t1:TypeId}{args:Array Value}{ds:List (DataW H)}{ps:List MemPlace}(h:DataW.TrodAll enc P w base spare held [t0,t1] args.toList ds ps):
 ∃ig v1 d0 d1 kR dG,args=#[ig,v1]/\ds=[d0,d1]/\ps=kR++dG/\DataW.Trod enc P w base spare held t0 ig d0 kR/\DataW.Trod enc P w base spare held t1 v1 d1 dG:=by
 obtain⟨ig,N1,d0,aba,kR,lm,aK,rfl,rfl,a2,h⟩:=trodAll_cons h;obtain⟨v1,Z3,d1,ph,dG,aQ,rfl,rfl,rfl,U,h⟩:=trodAll_cons h;obtain⟨rfl,rfl,rfl⟩:=trodAll_nil h;exact⟨ig,v1,d0,d1,kR,dG,by cases args;simp_all,rfl,by simp,a2,U⟩
theorem Ys{P:Program}{W:World}{base:Nat}{t e:TypeId}{v:Value}(hu:P.underlying t=some (.slice e))(h:Value.okWide P W .any base t v):v.cells.toList=[v]:=by
 unfold Value.okWide at h;rw[hu] at h;simp only at h;unfold Cell.okWide at h;rw[hu] at h;cases v with
 |agg cs=>simp[Cell.ok,hu] at h
 |_=>rfl
theorem Yg{W:World}{g:Nat}{t:TypeId}{f:Nat×Nat}(h:W.heap[g]?=some (.cells (cj .u8 ls).toArray t f)):pF PP W g=some (cj .u8 ls,t):=by
 show oS PP W g=_;rw[CC (GL h)];have e:(cj .u8 ls).toArray.toList.map (jz PP W)=cj .u8 ls:=by
  unfold cj;rw[List.toList_toArray,List.map_map];exact List.map_congr_left fun b _=>AI rfl
 rw[e]
open Go.Proofs.YtmmfodofkbmfnaaGreatDoor
theorem own:ownKnob Tryz.prog.godebug=none:=by kernel_rfl
theorem Eh:Tryz.prog.globalNamed "math/bits.deBruijn64tab"=some 2:=by kernel_rfl
theorem Sl:(Tryz.prog.globals[2]?).map (·.type)=some 176:=by kernel_rfl
theorem Sm:Tryz.prog.underlying 176=some (.array 64 5):=by kernel_rfl
theorem Sj:Tryz.prog.underlying 5=some (.int .u8):=by kernel_rfl
theorem Sk:Tryz.prog.cellsOf 5=1:=by kernel_rfl
theorem Si:Tryz.prog.cellsOf 176=64:=by kernel_rfl
theorem JI:(((begin Tryz.prog (fun _ _=>0) default).world.heap[2]?).bind Obj.row?).map (·.2)=some 176:=by kernel_rfl
theorem JH:2<Tryz.prog.globals.size:=by decide+kernel
theorem tables{W:World}(h:laidMetH Tryz.prog Rows.tableMetricRow.laid W):Lib.TabIs Tryz.prog W "math/bits.deBruijn64tab" .u8 Gr:=by
 have a2:laidMet Tryz.prog [("math/bits.deBruijn64tab",Lib.tabData .u8 Gr)] W:=h;exact Lib.tabIs_of_head Eh Sl Sm Sj Sk Si a2
theorem first{W:World}(h:laidMetH Tryz.prog Rows.tableMetricRow.laid W)(ag:W.ShapedOpen Tryz.prog):Laid Tryz.prog W H0:=by
 refine VB fun g e cells hm=>?_;have aG:=tables h;simp only[Nt,fy,cU,HX,or_false] at hm;obtain⟨rfl,rfl,rfl⟩:=hm;exact⟨by decide,Lv Eh JH JI ag aG,by kernel_rfl,by decide+kernel⟩
theorem VK:∃c,Tryz.f14.body=some c:=⟨_,rfl⟩
theorem VD:∃c,Tryz.f3.body=some c:=⟨_,rfl⟩
theorem laidOut:laidOutB Tryz.prog=true:=by kernel_rfl
theorem X5:∀t∈Tryz.f3.params.toList,PP.readableRec t=true/\t<PP.types.size:=by
 intro t aG;rw[Tryz.params3] at aG;simp only[fy,HX,or_false] at aG;rcases aG with rfl|rfl<;>exact⟨by kernel_rfl,Cl (by kernel_rfl)⟩
set_option maxRecDepth 100000 in
theorem Qu(H:Type)(enc:TypeId×Value->H)(W:World)(base:Nat)(args:Array Value)(ds gs:List (DataW H))(before:List MemPlace)
 (uh:∀(aa:Nat) t v,Tryz.f3.params[aa]?=some t->args[aa]?=some v->Value.okWide Tryz.prog W .any base t v)
 (oh:DataW.Whole enc Tryz.prog Tryz.f3.params.toList Rows.tableMetricSpec.vars false W args.toList ds gs before)
 (a0:(DataW.weightsEach Tryz.prog Tryz.f3.params.toList ds).all (·<=reachBytes)=true)
 (bD:laidMetH Tryz.prog Rows.tableMetricRow.laid W)(al:W.ShapedOpen Tryz.prog):
 Calls Tryz.prog 3 args W fun e qi=>∃v,e=.returned v/\Rows.tableMetricSpec.post enc Tryz.prog Tryz.f3 false true false false W args v qi:=by
 have Ta:=oh;obtain⟨p,q,jk,og,rfl,TN,dk⟩:=oh;have e3:DataW.TrodAll enc Tryz.prog W 0 (fun _=>true) true Tryz.f3.params.toList args.toList ds p:=jk;obtain⟨rfl,rfl⟩:=trodVars_none og;rw[Tryz.params3] at e3 uh a0;obtain⟨ig,v1,d0,d1,kR,dG,rfl,rfl,rfl,⟨sA,t0⟩,⟨cV,t1⟩⟩:=trodAll_two e3;have j6:=Ys G7 (uh 0 22 ig rfl rfl);have vS:=U9 p0 (uh 1 3 v1 rfl rfl);rw[j6] at t0;rw[vS] at t1;obtain⟨l,hr,kl,h7,aw⟩:=U' G7 p0 dj t0;obtain⟨i1,_,aA⟩:=U8 p0 t1;simp at h7 aA;obtain⟨AS,om⟩:=VK;obtain⟨AW,jH⟩:=VD;have Kn:=first bD al;have mF:l.length<=9223372036854775807:=by
  obtain⟨b',uu,bo,_,_,_,_,A4,_,_,_,_,_,_,qK⟩:=Nf G7 dj (by omega) t0;simp at A4;rw[h7] at A4;injection A4 with _ A4 _
  have abQ:maxLen=9223372036854775807:=by decide
  omega
 obtain⟨eo,MK⟩:=Lv Eh JH JI al (tables bD);have lt:=(C3.1 MK).1
 have cg:=VE (Q:=Hk Tryz.prog H0) (g0:=W.heap.size) (J:=pF PP W) (l:=l) (hr:=hr) (kl:=kl) (k:=i1)
  (fun J=>Fn.closed (K:=aS (Hk Tryz.prog H0) W.heap.size) (H0:=H0) rfl Tryz.func14 om (fun _ _ h=>h) (fun w h=>Qn (Mz nD num) Tryz.func14 om h VJ))
  (Yg MK) (by simpa[Nat.blt,o5] using lt) ⟨3,aw 3⟩ mF
 have yX:bp (mP PP W) [.slice hr l.length kl,.int .i64 i1] (#[ig,v1]:Array Value).toList:=by
  have lm:=Dm (P:=PP) (w:=W) ig;have aQ:=Dm (P:=PP) (w:=W) v1;rw[h7] at lm;rw[aA] at aQ;exact .cons lm (.cons aQ (.nil _))
 refine(Xf (K:=aS (Hk Tryz.prog H0) W.heap.size) (w:=W) (b:=true) ⟨Kn,Kn.U6⟩ rfl Tryz.func3 jH yX cg).mono fun e qi bY=>?_;obtain⟨he,af⟩:=bY;subst he;exact⟨_,rfl,Xy Ta af laidOut X5 rfl rfl rfl (fun _ _ _=>trodAll_cons_mk (shut_bool Tryz.underlying4 _) trodAll_mk0)⟩
def FZ (os:Os):World:=World.doorLaid Tryz.prog 400 os
def AN:Array Value:=#[.slice none 0 0,.int .i64 0]
def QF{H:Type}:List (DataW H):=[.nil,.lit (.int .i64 0)]
theorem VA(os:Os):laidMetH Tryz.prog Rows.tableMetricRow.laid ((FZ os).forCall (fun _ _=>0) ⟨#[],AN,[]⟩).memory:=
 laidMetH_of_parts3 (fuel:=8) (laidMet_of_run' 8 (by kernel_rfl) (by kernel_rfl)) (by kernel_rfl) (by kernel_rfl)
theorem reads(os:Os){H:Type}(enc:TypeId×Value->H):∃places,DataW.whole enc Tryz.prog ((FZ os).forCall (fun _ _=>0) ⟨#[],AN,[]⟩).memory Tryz.f3.params.toList Rows.tableMetricSpec.vars false AN.toList 8=some (QF,[],places):=
 ⟨[],by kernel_rfl⟩
set_option maxRecDepth 100000 in
theorem lifted(os:Os)(started:os.Started)(H:Type)(enc:TypeId×Value->H)(F:Stop.Interp):
 ReturnsInHanded {} Tryz.checked os 3 .any ((OpenSpec.ofChange Rows.tableMetricSpec).preRow enc Tryz.prog Tryz.f3 Rows.tableMetricRow.domain false Rows.tableMetricRow.laid) (((OpenSpec.ofChange Rows.tableMetricSpec).at F).post enc Tryz.prog Tryz.f3 false true false false):=by
 obtain⟨places,j⟩:=reads os enc
 refine returnsInHanded_of_row (C:=Tryz.checked) (s:=OpenSpec.ofChange Rows.tableMetricSpec) own started (by kernel_rfl) Tryz.func3
  (witness_row_at (enc:=enc) (C:=Tryz.checked) false (FZ os) AN rfl (by kernel_rfl) (by kernel_rfl) (by kernel_rfl)
   (OpenSpec.preRow_of_cond 8 j (by kernel_rfl) (fun k hk=>by cases hk) (by kernel_rfl) (VA os))) ?_
 intro W base args ds gs before uh oh _ _ a0 bD al _;have ar:gs=[]:=by
  obtain⟨p,q,_,og,_⟩:=oh;exact(trodVars_none og).1
 subst ar;refine Qu H enc W base args ds [] before uh oh ?_ bD al;have UN:(OpenSpec.ofChange Rows.tableMetricSpec).bare.plain.varTypes Tryz.checked.prog=[]:=by kernel_rfl
 rw[UN,kW,kW] at a0;exact a0
theorem said:Rows.TableMetricSaid:=
 OpenClaim.holds_of_cond 3 Tryz.f3 rfl rfl rfl rfl rfl rfl rfl ⟨rfl,rfl,rfl,rfl,rfl⟩ rfl rfl rfl rfl rfl (by kernel_rfl) Tryz.func3 (by kernel_rfl)
  (Cl (by kernel_rfl)) (by unfold Func.isWrapper;first|(rw[bs (by decide+kernel)];kernel_rfl)|(rw[a1 (by decide+kernel)];exact⟨rfl,rfl⟩))
  (fun os started H enc _ F=>by rw[OpenClaim.pre_eq_preRow];exact lifted os started H enc F)
theorem YX:Tryz.prog.wantsStandIn 22=false:=by kernel_rfl
theorem YY:Tryz.prog.wantsStandIn 3=false:=by kernel_rfl
theorem kx(f:FuncId)(fn:Func)(ay:Tryz.pinned.checked.prog.funcNamed "parlour/parlourlaw31.TableMetric"=some f)(vX:Tryz.pinned.checked.prog.funcs[f]?=some fn):
 true=Tryz.pinned.checked.prog.looks []/\∀(aa:Nat) t,fn.params[aa]?=some t->Tryz.pinned.checked.prog.wantsStandIn t=false:=by
 obtain rfl:f=3:=Option.some.inj ((show Tryz.prog.funcNamed "parlour/parlourlaw31.TableMetric"=some 3 by kernel_rfl).symm.trans ay) |>.symm
 obtain rfl:fn=Tryz.f3:=(Option.some.inj (Tryz.func3.symm.trans vX)).symm;refine⟨by kernel_rfl,fun aa t aG=>?_⟩;rw[Tryz.params3] at aG
 match aa,aG with
 |0,aG=>simp at aG;subst aG;exact YX
 |1,aG=>simp at aG;subst aG;exact YY
 |aa+2,aG=>simp at aG
theorem card:Rows.TableMetricCardSaid:=
 Claim7.holds_tied_plain_at .later [] _ _ _ _ said (fun _ h=>by cases h) (by kernel_rfl) (fun _ h=>by cases h) tableMetric_row_tie rfl ⟨rfl,rfl⟩ (by kernel_rfl) rfl kx (by kernel_rfl)
end
end Go.Opn
namespace Go.Proofs.YtmmfodofkbmfnaaGreatDoor
theorem openTableMetric : Rows.TableMetricCardSaid := Go.Opn.card
end Go.Proofs.YtmmfodofkbmfnaaGreatDoor
