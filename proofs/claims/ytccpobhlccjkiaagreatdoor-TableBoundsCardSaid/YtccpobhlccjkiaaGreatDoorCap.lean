/- A part of the proof of TableBounds. -/
import Derived.Test.YtccpobhlccjkiaaGreatDoorCao
import Derived.Test.YtccpobhlccjkiaaGreatDoorCam
import Derived.Test.YtccpobhlccjkiaaGreatDoorCan
import Derived.Test.YtccpobhlccjkiaaGreatDoorCaj
set_option linter.defProp false
set_option maxRecDepth 100000
set_option maxHeartbeats 8000000
set_option linter.unusedVariables false
set_option linter.unusedSimpArgs false
namespace Go.Opn
noncomputable section
open Go.Cre Go.RowKit Go.Proofs
abbrev A0 (n i:Nat):List Value:=((px n).take i).map (Value.int .i64)++fp [.int .i64 0] (n -i)
def av'{n i off:Nat}(hi:i<n)(al:i=off:=by omega):gO off (A0 n i) [.int .i64 (i:Int)]=some (A0 n (i+1)):=by
 subst al;unfold A0;rw[show n -i=(n -(i+1))+1 by omega,v5,ly,acU hi,zW];rw[show([Value.int .i64 0]++fp [.int .i64 0] (n -(i+1)))=[Value.int .i64 0]++fp [.int .i64 0] (n -(i+1)) from I];have h:=KB (d:=((px n).take i).map (Value.int .i64)) (z:=[Value.int .i64 0]) (rest:=fp [.int .i64 0] (n -(i+1))) (new:=[.int .i64 (i:Int)]) (off:=i) (by rw[e9,eL,CG];omega) I;rw[h,<-j6];rfl
def av9{n:Nat}:A0 n n=oh [] (px n) []:=by
 unfold A0 oh;rw[pL,Bo,ft (by rw[CG];exact b2 _),nL]
abbrev zt(o:List Nat)(n i:Nat):List Value:=cc .i64 (o.take i++List.replicate (n -i) 0)
def awd{o:List Nat}{n i x:Nat}(aA:o.length=n)(hi:i<n)(U:o[i]?=some x){off:Nat}(al:i=off:=by omega):gO off (zt o n i) [.int .i64 (x:Int)]=some (zt o n (i+1)):=by
 subst al;rw[s7 i (by rw[dv,eL,kU];omega) I];congr 2
 rw[show n -i=(n -(i+1))+1 by omega,Lt,GZ _ _ (by rw[eL];omega),eL,gv aa,pL,G0,ly,U];simp
def awc{o:List Nat}{n:Nat}(aA:o.length=n):zt o n n=cc .i64 o:=by
 unfold zt;rw[pL,ft aa];simp
def avg{o:List Nat}{n i x off:Nat}(U:o[i]?=some x)(al:i=off:=by omega):nth (zt o n (i+1)) off=some (.int .i64 (x:Int)):=by
 subst al;refine uo ?_ I;have:=(dO.1 U).1;rw[sg (by rw[eL];omega),iY,aP aa,U]
def anU{L:List Int}{o:List Nat}{k y:Nat}{x:Int}(U:L[k]?=some x)(an:((L.take k).foldl mC o)[x.toNat]?=some y):((L.take k).foldl mC o).set x.toNat (y+1)=(L.take (k+1)).foldl mC o:=by
 rw[ly,U,List.foldl_append];show _=mC ((L.take k).foldl mC o) x;rw[show mC ((L.take k).foldl mC o) x=((L.take k).foldl mC o).set x.toNat (((L.take k).foldl mC o).getD x.toNat 0+1) from I,ld,an];rfl
section
variable {Q:da Tryz.prog}{g0:Nat}{J:ai}
def axV{ps:List Nat}{s bits:Nat}{b:Option Addr}{c:Nat}(h:dz J 85 3 (jN J) (.slice b ps.length c) (ps.map fun p:Nat=>a4 (p:Int) s))(tO:1<=ps.length)(pZ:ps.length<=10)(hs:0<s)(hg:s<18446744073709551616)(ap:ps.sum=s)(apQ:bits<=30):
 Fn (aU Q g0) 24 [.slice b ps.length c,.int .i64 (bits:Int)] [] J (fun u m' ah=>J.le ah/\∃a,u=.slice (some ⟨a,0,none⟩) ps.length ps.length/\m'=[(a,.row (cc .i64 (Db ps s (2 ^ bits))) 3)]):=by
 have oo:addrEq b b=true:=h.addr;obtain⟨_,eg⟩:=h.at;rw[e9] at eg;obtain⟨ih,yH,yG⟩:=af' apQ;generalize 2 ^ bits=M at*;have F:=afy (M:=M) tO hs ap;have kd:(jK ps s M).length=ps.length:=e9 _;have oQ:ps.length<cK:=jg pZ bI;have aDE:0<ps.length:=tO;have aDC:(0:Int)<=(bits:Int)/\(bits:Int)<=64:=aa
 refine Fn.b9 (b1 Tryz.func24) I I fun H=>?_;refine af 0xbe059 ?_;refine aK.draw I (by kernel_rfl) (a0:=[.iF 9,.val 0,.val 1,.iF 2,.val 3,.val 4,.iF 5,.val 6,.val 7,.iF 8,.val 10,.val 11,.b6 [7,6,4,3,1,0],.bw 12]) (by kernel_rfl) ?_;refine bX.alloc I I I I I (Pr I) I I I fun fh=>?_;refine af 0xa1 ?_;refine bX.makeSlice I I I I I I I (ee I) ?aQ ?ae ?ag fun n5=>?_;case aQ=>exact cJ
 case ae=>exact cJ
 case ag=>exact cJ
 refine af 0xa1 ?_;refine bX.makeSlice I I I I I I I (ee I) ?aQ ?ae ?ag fun uW=>?_;case aQ=>exact cJ
 case ae=>exact cJ
 case ag=>exact cJ
 refine af 0xa1 ?_;refine bX.makeSlice I I I I I I I (ee I) ?aQ ?ae ?ag fun oF=>?_;case aQ=>exact cJ
 case ae=>exact cJ
 case ag=>exact cJ
 refine af 0x18e7442 ?_;rw[ff];refine af 0x1815039 ?_;rw[ih];refine af 0xbeaf809439 ?_;refine aK.nZ (m':=[(fh,.row [.slice (some ⟨oF,0,none⟩) ps.length ps.length] 74),(oF,.row ([]++fp [.bool false,.slice none 0 0,.slice none 0 0] (ps.length -0)) 85),(uW,.row (A0 ps.length 0) 3),(n5,.row (zt (jK ps s M) ps.length 0) 3)]) (by rw[show zt (jK ps s M) ps.length 0=fp [.int .i64 0] ps.length from zero_num.symm];exact ia (l₁:=[_]) (l₂:=[_,_,_])) ?_;refine dV [(26,.int .i64 ((0):Int)),(8,.int .i64 ((M:Int) -(((jK ps s M).take (0)).sum:Int))),(1,_),(5,_),(6,_),(7,_),(24,_),(25,_)] ?_;refine bp ?_;refine' aK.bK (fun(b8:Nat×(List Value)×ai)=>match b8 with|(i,d,cv)=>⟨[(26,.int .i64 (i:Int)),(8,.int .i64 ((M:Int) -(((jK ps s M).take i).sum:Int)))],[(fh,.row [.slice (some ⟨oF,0,none⟩) ps.length ps.length] 74),(oF,.row (d++fp [.bool false,.slice none 0 0,.slice none 0 0] (ps.length -i)) 85),(uW,.row (A0 ps.length i) 3),(n5,.row (zt (jK ps s M) ps.length i) 3)],cv,i<=ps.length/\J.le cv/\et 3 (fun _=>jN cv) d ((ps.map fun p=>a4 ((cf M s p:Nat):Int) s).take i),ps.length -i⟩) ⟨0,[],J⟩ ?hs ?bn
 case hs=>exact⟨c6 _,ai.le.refl _,I,fun i x h=>by cases h⟩
 case bn=>
  rintro⟨i,d,cv⟩ hinv;try simp only at hinv
  obtain⟨hi,cr,fj⟩:=hinv;refine af 0xbe099 ?_;refine If (fun ll=>?_) fun ll=>?_
  ·obtain⟨lB,off,cells,bA,rfl,l7,jJ⟩:=eg aa;obtain⟨r,cs,ar,iI,oa,v1,v2,rfl,dU⟩:=jJ i aa aa;rw[ff,h'] at ar;obtain⟨p,sX,rfl⟩:=ri.1 ar;have l7:=cr _ _ l7;have sD:=dU.mono cr;obtain⟨bc,bH,bb,rfl,aN,_,_⟩:=dU.n.bz;obtain⟨bl,c2,bt,rfl,aH,_,_⟩:=dU.d.bz;have oc:=xx (dq sX);have dX:=jk (show p<18446744073709551616 by omega);have dH:=tE (n:=p) hs dX hg;have rE:d.length=i*3:=by rw[fj.1,eL,e9,gv hi]
   have TW:(jK ps s M)[i]?=some (p*M / s):=by unfold jK;rw[h',sX];rfl
   have c4:=agu TW;have mZ:=KF (l:=jK ps s M) (i:=i+1);have aEu:=F.out;have arx:(a7 (p*M)).length<=1+1:=zk dX (jk aa);have aEo:p*M / s<=M:=by
    rw[Nat.div_le_iff_le_mul_add_pred hs];have:=hJ M (show p<=s by omega);omega
   have aqs:h9 1 (⟨(M:Int),1⟩:a2):=h9.mk (by show(a7 ((M:Nat):Int).natAbs).length<=1;rw[gR];exact jk aa) (show 1<18446744073709551616 by decide);have hmul:=avb (X:=(p:Int)) (M:=M) hs;rw[<-iX] at hmul;obtain⟨nv,nW⟩:=avd (X:=p*M) hs;have ra:=tE (n:=p*M) hs (dT arx (show _<=30000 by decide)) hg;refine af 0x61839d5f57 ?_;refine eu fun rl=>?_;refine af 0xbe382 ?_;refine aK.draw I (by kernel_rfl) (a0:=[.val 0,.val 1,.val 2,.val 3,.val 4,.val 5,.val 6,.bw 7,.b6 [4,3,2,1,0],.bw 8,.b6 [3,2,1,0],.bw 9,.val 10,.val 11,.val 12,.val 13,.b6 [3,2,1,0],.bw 14,.val 15,.b6 [12,3,2],.bw 16]) (by kernel_rfl) ?_;refine af 0x502c0a421 ?_;rw[ih];refine dl I (G:=NU (n:=M) aa) (h:=?_);rintro v' m' bj a8 ⟨_,rfl,eH,eQ,rfl,cS⟩;have po:=cS;obtain⟨fD,hP,fZ,rfl,fH,_,_⟩:=cS.n.bz;obtain⟨ev,e2,dJ,rfl,hS,_,_⟩:=cS.d.bz;refine bX.b6 eN ?_;refine dl I (G:=Vf (sD.mono a8) po (k4 hs) ⟨Nat.one_pos,Qc _⟩ dH aqs aa aa) (h:=?_);rintro v' m' c3 bN ⟨_,rfl,eH,eQ,rfl,fA⟩;rw[hmul] at fA;have Sz:=fA;obtain⟨gH,k3,eY,rfl,mI,_,_⟩:=fA.n.bz;obtain⟨iy,o1,gm,rfl,o4,_,_⟩:=fA.d.bz;rw[hmul];refine bX.b6 eN ?_;refine dl I (G:=aAZ Sz (k4 hs) ra (by rw[nv];omega)) (h:=?_);rintro v' m' e3 cQ ⟨_,rfl,eH,eQ,rfl,bi⟩;rw[nW] at bi;have B8:=bi;obtain⟨g3,mE,eZ,rfl,m4,_,_⟩:=bi.n.bz;obtain⟨iP,nX,dt,rfl,mh,_,_⟩:=bi.d.bz;rw[nv,nW];refine af 0x1d31ce1 ?_;refine' bX.nP I I (uE I I I I (o6 I) I I I ?ae ?hs ?ap ?_);case ap=>repeat first|exact .head _ _ _ _|apply fY.tail|apply fY.app
   case hs=>exact awd kd aa TW
   case ae=>rfl
   refine af 0x3a6 ?_;refine' bX.nP I I (uE I I I I (o6 I) I I I ?ae ?hs ?ap ?_);case ap=>repeat first|exact .head _ _ _ _|apply fY.tail|apply fY.app
   case hs=>exact(by rw[show ps.length -i=(ps.length -(i+1))+1 by omega,v5];exact KB (by rw[rE];omega) I)
   case ae=>rfl
   refine af 0xc108738 ?_;refine' W.step I (Exec.val I I (j1 I I ?ar (g8 (fJ I) ?az)) ?_);case ar=>exact qr
   case az=>exact avg TW
   refine af 0x30421ce043 ?_;refine' n4 ?hs ?_;case hs=>exact av' aa
   refine nh ?_;have sO:et 3 (fun _=>jN e3) (d++jc (a4 ((cf M s p:Nat):Int) s) (.slice g3 mE eZ) (.slice iP nX dt)) ((ps.map fun p=>a4 ((cf M s p:Nat):Int) s).take (i+1)):=by
    rw[ly,h',sX];exact(fj.mono fun _ _ _ q=>((q.mono a8).mono bN).mono cQ).app ⟨_,_,I,B8⟩ I
   rw[<-j6];refine af 0xc0479 ?_;refine eS ⟨i+1,d++jc (a4 ((cf M s p:Nat):Int) s) (.slice g3 mE eZ) (.slice iP nX dt),e3⟩ ?_ (hm:=.cons _ (.refl _));exact⟨aa,((cr.trans a8).trans bN).trans cQ,sO⟩
  ·obtain rfl:i=ps.length:=aa
   rw[ft (by rw[e9];exact b2 _)] at fj;have Jc:(M:Int) -(((jK ps s M).take ps.length).sum:Int)=((pz ps s M:Nat):Int):=by
    rw[ft aa];have:=F.out;unfold pz;omega
   have rK:=F.U';refine af 0x357 ?_;refine aK.nZ (m':=[(fh,.row [.slice (some ⟨oF,0,none⟩) ps.length ps.length] 74),(oF,.row d 85),(uW,.row (oh [] (px ps.length) []) 3),(n5,.row (cc .i64 (jK ps s M)) 3)]) (by show List.Perm _ [(fh,df.row [.slice (some ⟨oF,0,none⟩) ps.length ps.length] 74),(oF,.row (d++fp [.bool false,.slice none 0 0,.slice none 0 0] (ps.length -ps.length)) 85),(uW,.row (A0 ps.length ps.length) 3),(n5,.row (zt (jK ps s M) ps.length ps.length) 3)];rw[pL,Bo,gC,av9,awc kd]) ?_;refine aK.k8 I fun l'=>?_;refine aK.k8 I fun TF=>?_;have mx:=TF _ _ (ai.lC cv fh ([.slice (some ⟨oF,0,none⟩) ps.length ps.length],74));have ao1:dz ((cv.add fh ([.slice (some ⟨oF,0,none⟩) ps.length ps.length],74)).add oF (d,85)) 85 3 (jN ((cv.add fh ([.slice (some ⟨oF,0,none⟩) ps.length ps.length],74)).add oF (d,85))) (.slice (some ⟨oF,0,none⟩) ps.length ps.length) (ps.map fun p=>a4 ((cf M s p:Nat):Int) s):=by
    have rJ:(ps.map fun p=>a4 ((cf M s p:Nat):Int) s).length=ps.length:=e9 _;refine⟨d,?_,fun j x U=>(fj.2 j x U).mono (l'.trans TF)⟩;rw[rJ];have tH:d.length=ps.length*3:=by rw[fj.1,rJ]
    exact fg.row (ai.lC _ _ _) (by rw[iD,ft aa]) tH (fun _=>⟨b2 _,oQ⟩) (fun _=>rfl)
   refine af 0x4839 ?_;refine' W.step I (Exec.call I I I I I I I (a1:=[(uW,.row (oh [] (px ps.length) []) 3)]) (cB:=[(n5,.row (cc .i64 (jK ps s M)) 3)]) (.refl _) trivial (ayH (pre:=[]) (post:=[]) (D:=px ps.length) (f:=BL ps s M) (ok:=fun x=>0<=x/\x<ps.length) (eB:=[]) (off:=0) CG aa I acV (fun bj w5 a b aI ak=>axU (w5 _ _ mx) (dz.mono (R':=jN bj) w5 (fun _ _ q=>q.mono w5) ao1) hs hg aI ak)) ?_);rintro v' m' nJ hle ⟨rfl,fk⟩;rw[show vA (BL ps s M) (ps.length -1) (px ps.length)=kn ps s M from I];refine af 0x8738 ?_;rw[Jc];refine' W.step I (Exec.val I I (aAt I I (ee I) I ?aQ ?ae ?ag ?aE) ?_);case aQ=>exact cJ
   case ae=>exact cJ
   case ag=>assumption
   case aE=>assumption
   rw[ff];refine af 0x1abe025 ?_;refine dV [(64,.int .i64 ((0):Int)),(5,_),(62,_),(63,_)] ?_;refine bp ?_;refine' aK.bK (fun(k:Nat)=>⟨[(64,.int .i64 (k:Int))],[(uW,.row (oh [] (kn ps s M) []) 3),(n5,.row (cc .i64 (((kn ps s M).take k).foldl mC (jK ps s M))) 3)],nJ,k<=pz ps s M,pz ps s M -k⟩) (0) ?hs ?bn;case hs=>exact c6 _
   case bn=>
    rintro k hinv;try simp only at hinv
    have hk:=hinv;refine af 0xbe099 ?_;refine If (fun akl=>?_) fun akl=>?_
    ·obtain⟨x,U⟩:∃x,(kn ps s M)[k]?=some x:=⟨_,cU (by rw[F.aeD];omega)⟩;have acG:=F.OJ x (dq U);have jd:(((kn ps s M).take k).foldl mC (jK ps s M)).length=ps.length:=(NT _ _ (fun x U=>by rw[kd];exact F.OJ x (DU U)) (F.VK.sublist (X3 _ _))).1.trans kd;have Tn:=(NT ((kn ps s M).take k) (jK ps s M) (fun x U=>by rw[kd];exact F.OJ x (DU U)) (F.VK.sublist (X3 _ _))).2.1;rw[eL] at Tn;have E5:=F.out;obtain⟨y,an⟩:∃y,(((kn ps s M).take k).foldl mC (jK ps s M))[x.toNat]?=some y:=⟨_,cU aa⟩;refine af 0xd9d5f57 ?_;refine' W.step I (Exec.val I I (j1 I I ?ar (g8 (fJ I) ?az)) ?_);case ar=>exact qr
     case az=>exact Kb U (by show _=0+k;omega)
     refine af 0xc10e702 ?_;refine' W.step I (Exec.val I I (j1 I I ?ar (g8 (fJ I) ?az)) ?_);case ar=>exact qr
     case az=>exact uo an aa
     refine hA V.n0 ?_;have asD:=xx (dq an);rw[wrap_i64 (n:=(y:Int)+1) aa aa];refine hA V.dM ?_;refine' n4 ?hs ?_;case hs=>exact(s7 (k:=.i64) (l:=((kn ps s M).take k).foldl mC (jK ps s M)) (x:=y+1) (off:=0+x.toNat*1) x.toNat aa aa)
     refine nh ?_;rw[anU U an];refine af 0xc0479 ?_;refine eS (k+1) ?_ (hm:=.refl _);exact aa
    ·refine af 0x357 ?_;obtain rfl:k=pz ps s M:=aa
     refine af 0x357c0839 ?_;refine'⟨.inr I,I,_,_,.tmp I .nil,.cons _ (.refl _),⟨(cr.trans (l'.trans TF)).trans fk,_,I,I⟩⟩
def UX{n c:Nat}{out:List Nat}(ax:c≠0)(h:out++aq c=aq n):(out++[c % 1000000000])++aq (c / 1000000000)=aq n:=by
 rw[<-h,ue ax,j6];rfl
def Wp{n:Nat}(aA:n<1000000000000000000):Fn (aU Q g0) 75 [.int .i64 (n:Int)] [] J (qv J n):=by
 have aj:(aq n).length<=2:=kK (kw aA bI);refine Fn.b9 (b1 Tryz.func75) I I fun H=>?_;refine af 0xd5f02ce059 ?_;refine dV [(0,.int .i64 ((n):Int)),(3,(.slice none 0 0))] ?_;refine bp ?_;refine' aK.bK (fun(b8:Nat×(List Nat)×Value×aJ)=>match b8 with|(c,out,gP,aS)=>⟨[(0,.int .i64 (c:Int)),(3,gP)],aS,J,c<=n/\out++aq c=aq n/\Acc 92 1 gP out.length (cc .u32 out) aS,c⟩) ⟨n,[],.slice none 0 0,[]⟩ ?hs ?bn
 case hs=>exact⟨b2 _,I,.nil⟩
 case bn=>
  rintro⟨c,out,gP,aS⟩ hinv;try simp only at hinv
  obtain⟨ax,al,c1⟩:=hinv;refine af 0x17c1039 ?_;refine If (fun dJ=>?_) fun dJ=>?_
  ·have my:c≠0:=aa
   have kd:out.length<=2:=by
    have:=dh List.length al;rw[dv] at this;omega
   have yW:(c:Int).tmod 1000000000=((c % 1000000000:Nat):Int):=(DN c 1000000000).symm;have Ci:(c:Int).tdiv 1000000000=((c / 1000000000:Nat):Int):=(uK c 1000000000).symm;have xg:max ((c % 1000000000:Nat):Int) (-((c % 1000000000:Nat):Int))=((c % 1000000000:Nat):Int):=aa
   have hw:IntKind.u32.wrap ((c % 1000000000:Nat):Int)=((c % 1000000000:Nat):Int):=wrap_u32 aa aa;have nW:IntKind.i64.wrap ((c / 1000000000:Nat):Int)=((c / 1000000000:Nat):Int):=wrap_i64 aa aa;refine af 0x1813c39d5f57 ?_;rw[yW];refine af 0x8439 ?_;refine' W.step I (Exec.val I I (Gr I I ?hw) ?_);case hw=>exact wrap_i64 aa aa
   refine' W.step I (Exec.val I I (Bk I I I I I) ?_);rw[xg];refine hA V.i' ?_;refine jG fun n5=>?_;refine' W.step I (.of (uD I I I I I I (ee I) (zG Q g0) (fun i q=>by cases q) ?c1 ?hm ?U ?cH ?c7 ?aj fun KX JY SW asI=>?_));case c1=>exact c1
   case hm=>exact(wm _ aS).symm
   case U=>exact lR
   case cH=>rfl
   case c7=>rfl
   case aj=>exact(show out.length+1<=1000000 by omega)
   refine af 0x604f0e702 ?_;rw[Ci,nW];have bn:c / 1000000000<=n/\(out++[c % 1000000000])++aq (c / 1000000000)=aq n/\Acc 92 1 KX (out++[c % 1000000000]).length (cc .u32 (out++[c % 1000000000])) JY:=⟨aa,UX my al,by rw[zn,dv];exact SW⟩;refine eS ⟨c / 1000000000,out++[c % 1000000000],KX,JY⟩ ?_ (hm:=oB _ _);exact bn
  ·obtain rfl:c=0:=aa
   rw[m1,gC] at al;refine Acc.k7 c1 (.of_eq (gC aS).symm) fun bj a8 au=>?_;rw[al] at au;refine af 0xd5f020e757 ?_;refine b4 ?_;exact⟨a8,I,au⟩
def aoq{x y:Nat}(U:x<1000000000)(an:y<1000000000):Fn (aU Q g0) 81 [.int .i64 (x:Int),.int .i64 (y:Int)] [] J (fun u m' ah=>u=.int .i64 (Nat.gcd x y:Int)/\m'=[]/\J=ah):=by
 refine Fn.b9 (b1 Tryz.func81) I I fun H=>?_;refine af 0x1abe059 ?_;refine dV [(0,.int .i64 ((x):Int)),(1,.int .i64 ((y):Int))] ?_;refine bp ?_;refine' aK.og (fun(b8:Nat×Nat)=>match b8 with|(a,b)=>⟨[(0,.int .i64 (a:Int)),(1,.int .i64 (b:Int))],a<1000000000/\b<1000000000/\Nat.gcd a b=Nat.gcd x y,b⟩) ⟨x,y⟩ ?hs ?bn
 case hs=>exact⟨U,an,I⟩
 case bn=>
  rintro⟨a,b⟩ hinv;try simp only at hinv
  obtain⟨aI,ak,aB⟩:=hinv;refine af 0x17c1039 ?_;refine If (fun dJ=>?_) fun dJ=>?_
  ·have Nn:a % b<b:=lh _ aa;have yW:(a:Int).tmod (b:Int)=((a % b:Nat):Int):=(DN a b).symm;refine af 0x17d5f57 ?_;refine aK.draw I (by kernel_rfl) (a0:=[.val 0,.val 1,.val 2,.val 3,.bw 4,.b6 [3,2],.bw 5]) (by kernel_rfl) ?_;refine af 0xc0ba278421 ?_;rw[yW];refine om ⟨b,a % b⟩ ?_;exact⟨ak,aa,by rw[<-aB,uQ a b,G5 b a,uQ (a % b) b]⟩
  ·obtain rfl:b=0:=aa
   rw[G6] at aB;have xg:max (a:Int) (-(a:Int))=(Nat.gcd x y:Int):=by rw[<-aB];omega
   refine af 0x10e757 ?_;refine' W.step I (Exec.val I I (Gr I I ?hw) ?_);case hw=>exact wrap_i64 aa aa
   refine' W.step I (Exec.val I I (Bk I I I I I) ?_);refine af 0xd5f02 ?_;refine b4 ?_;exact⟨dh (Value.int .i64) xg,I,I⟩
def aeb{n:Nat}(aA:n<1000000000000000000):Fn (aU Q g0) 82 [.int .i64 (n:Int)] [] J (qv J n):=by
 have aj:(aq n).length<=2:=kK (kw aA bI);refine Fn.b9 (b1 Tryz.func82) I I fun H=>?_;refine af 0xd5f02ce059 ?_;refine dV [(0,.int .i64 ((n):Int)),(3,(.slice none 0 0))] ?_;refine bp ?_;refine' aK.bK (fun(b8:Nat×(List Nat)×Value×aJ)=>match b8 with|(c,out,gP,aS)=>⟨[(0,.int .i64 (c:Int)),(3,gP)],aS,J,c<=n/\out++aq c=aq n/\Acc 92 1 gP out.length (cc .u32 out) aS,c⟩) ⟨n,[],.slice none 0 0,[]⟩ ?hs ?bn
 case hs=>exact⟨b2 _,I,.nil⟩
 case bn=>
  rintro⟨c,out,gP,aS⟩ hinv;try simp only at hinv
  obtain⟨ax,al,c1⟩:=hinv;refine af 0x17c1039 ?_;refine If (fun fZ=>?_) fun fZ=>?_
  ·have my:c≠0:=aa
   have kd:out.length<=2:=by
    have:=dh List.length al;rw[dv] at this;omega
   have yW:(c:Int).tmod 1000000000=((c % 1000000000:Nat):Int):=(DN c 1000000000).symm;have Ci:(c:Int).tdiv 1000000000=((c / 1000000000:Nat):Int):=(uK c 1000000000).symm;have hw:IntKind.u32.wrap ((c % 1000000000:Nat):Int)=((c % 1000000000:Nat):Int):=wrap_u32 aa aa;have nW:IntKind.i64.wrap ((c / 1000000000:Nat):Int)=((c / 1000000000:Nat):Int):=wrap_i64 aa aa;refine af 0x78439d5f57 ?_;rw[yW];refine hA V.i' ?_;refine jG fun rl=>?_;refine' W.step I (.of (uD I I I I I I (ee I) (zG Q g0) (fun i q=>by cases q) ?c1 ?hm ?U ?cH ?c7 ?aj fun KW JX SV asH=>?_));case c1=>exact c1
   case hm=>exact(wm _ aS).symm
   case U=>exact lR
   case cH=>rfl
   case c7=>rfl
   case aj=>exact(show out.length+1<=1000000 by omega)
   refine af 0x604f0e702 ?_;rw[Ci,nW];have bn:c / 1000000000<=n/\(out++[c % 1000000000])++aq (c / 1000000000)=aq n/\Acc 92 1 KW (out++[c % 1000000000]).length (cc .u32 (out++[c % 1000000000])) JX:=⟨aa,UX my al,by rw[zn,dv];exact SV⟩;refine eS ⟨c / 1000000000,out++[c % 1000000000],KW,JX⟩ ?_ (hm:=oB _ _);exact bn
  ·obtain rfl:c=0:=aa
   rw[m1,gC] at al;refine Acc.k7 c1 (.of_eq (gC aS).symm) fun bj a8 au=>?_;rw[al] at au;refine af 0xd5f020e757 ?_;refine b4 ?_;exact⟨a8,I,au⟩
def axB{n d:Nat}(aA:n<1000000000)(av:d<1000000000)(h6:0<d):Fn (aU Q g0) 48 [.int .i64 (n:Int),.int .i64 (d:Int)] [] J (yb J (a4 (n:Int) d)):=by
 obtain⟨g,aB⟩:∃g,g=Nat.gcd n d:=⟨_,I⟩;have tJ:0<g:=by rw[aB];exact wq _ h6
 have xg:max (n:Int) (-(n:Int))=(n:Int):=aa
 obtain⟨p,ap⟩:∃p,p=n / g:=⟨_,I⟩;obtain⟨q,b3⟩:∃q,q=d / g:=⟨_,I⟩;have oc:p<1000000000:=by rw[ap];exact jg (si _ _) aA
 have qN:q<1000000000:=by rw[b3];exact jg (si _ _) av
 have TZ:(n:Int).tdiv (g:Int)=(p:Int):=by rw[ap];exact(uK n g).symm
 have T5:(d:Int).tdiv (g:Int)=(q:Int):=by rw[b3];exact(uK d g).symm
 obtain⟨Jb,I'⟩:=aeq (z:=(n:Int)) h6;have Jb:(a4 (n:Int) d).z.natAbs=p:=by rw[Jb,ap,aB];rfl
 have I':(a4 (n:Int) d).d=q:=by rw[I',b3,aB];rfl
 have sU:=vK (X:=n) h6;refine Fn.b9 (b1 Tryz.func48) I I fun H=>?_;refine rg ?_;refine eu fun cD=>?_;refine af 0x8738 ?_;refine' W.step I (Exec.val I I (Gr I I ?hw) ?_);case hw=>exact wrap_i64 aa aa
 refine' W.step I (Exec.val I I (Bk I I I I I) ?_);refine hA V.eC ?_;rw[xg];refine cl (G:=aoq aA av) (h:=?_);rintro v' m' ah hle ⟨rfl,rfl,rfl⟩;rw[<-aB];refine af 0x5f02 ?_;refine aK.draw I (by kernel_rfl) (a0:=[.val 0,.val 1,.val 2,.val 3,.val 4,.val 5,.bw 6,.b6 [5,4,3],.bw 7]) (by kernel_rfl) ?_;refine af 0x302e89e10bc21 ?_;rw[TZ,T5,show IntKind.i64.wrap (p:Int)=(p:Int) from wrap_i64 aa aa,show IntKind.i64.wrap (q:Int)=(q:Int) from wrap_i64 aa aa];refine af 0x17c1039 ?_;refine If (fun oJ=>?_) fun oJ=>?_
 ·exfalso;omega
 ·refine af 0xe757 ?_;refine cl (G:=aeb (n:=p) aa) (h:=?_);rintro v' m' bj hle ⟨a8,rfl,gn⟩;have jh:=gn.hO;obtain⟨fD,fZ,rfl,fH⟩:=jh.ch;refine hA V.eC ?_;refine cl (G:=aeb (n:=q) aa) (h:=?_);rintro v' m' c3 hle ⟨bN,rfl,du⟩;have k0:=du.hO;obtain⟨ev,dJ,rfl,hS⟩:=k0.ch;refine af 0x1abe390 ?_;refine b4 ?_;exact⟨a8.trans bN,I,.slice fD _ fZ,.slice ev _ dJ,by rw[<-g5 sU];rfl,by rw[Jb];exact jh.mono bN,by rw[I'];exact k0⟩
def atE{x y:Nat}(h:aq x=aq y):x=y:=by rw[<-h0 x,<-h0 y,h]
def ax'{r s:a2}:r=s↔((r.z<0↔s.z<0)/\r.z.natAbs=s.z.natAbs/\r.d=s.d):=
 ⟨fun h=>by rw[h];exact⟨Iff.rfl,I,I⟩,fun⟨ae,ag,aE⟩=>a2.aad aa aE⟩
def adb{v w:Value}{x y:Nat}{e:TypeId}(cq:J 2=some (cc .u8 m8,e))(aB:Nat.blt 2 (aU Q g0).g0=true)(U:ei J v x)(an:ei J w y)(k2:(aq x).length<=2)(qV:(aq y).length<=2):Fn (aU Q g0) 113 [v,w] [] J (fun u m' ah=>u=.bool (decide (Nat.gcd x y=1))/\m'=[]/\J.le ah):=by
 have fl:=U;have hF:=an;obtain⟨bc,bb,rfl,aN⟩:=U.ch;obtain⟨bl,bt,rfl,aH⟩:=an.ch;have aBb:=ud k2;have GD:=ud qV;refine Fn.b9 (b1 Tryz.func113) I I fun H=>?_;refine af 0x6059 ?_;refine fc [0,1] ?_;refine bp ?_;refine' aK.hp 0 [(12,.bool (decide (((aq x).length<=2/\(aq y).length<=2))))] ?lF ?lG;case lF=>
  refine af 0x12143a ?_;refine eX 8 (fun jT=>?_) fun jT=>?_
  ·refine af 0x18410a1 ?_;refine ho (hC ?_);omega
  ·refine af 0x1846f7b ?_;refine ho (hC ?_);omega
 case lG=>
  refine bp ?_;refine If (fun ms=>?_) fun ms=>?_
  ·refine af 0x39 ?_;refine cl (G:=PL fl k2) (h:=?_);rintro v' m' ah hle ⟨rfl,rfl,rfl⟩;refine hA V.eC ?_;refine cl (G:=PL hF qV) (h:=?_);rintro v' m' ah hle ⟨rfl,rfl,rfl⟩;refine cl (G:=YN cq aB aa aa) (h:=?_);rintro v' m' ah hle ⟨rfl,rfl,rfl⟩;refine af 0x1abe044 ?_;refine b4 ?_;exact⟨dh Value.bool (u3.2 aa),I,ai.le.refl _⟩
  ·exfalso;exact ms ⟨k2,qV⟩
structure wD (J:ai) (x:bO) (v1 v2:Value):Prop where
 n:dZ .u32 J v1 x.num
 d:dZ .u32 J v2 x.den
 hO:x.num.length<=4
 r0:x.den.length<=4
def wD.mono{J ah:ai}(hle:J.le ah){x:bO}{v1 v2:Value}(h:wD J x v1 v2):wD ah x v1 v2:=⟨h.n.mono hle,h.d.mono hle,h.hO,h.r0⟩
abbrev afS(x:bO)(v1 v2:Value):Value:=.agg #[.bool x.neg,v1,v2]
def wD.Ge{J:ai}{x:bO}{v1 v2:Value}(h:wD J x v1 v2)(ax:kQ x.num/\kQ x.den):hz J x.rt v1 v2:=⟨by
 show ei J v1 (bf x.num);unfold ei;rw[<-ty ax.1];exact h.n,by
 show ei J v2 (bf x.den);unfold ei;rw[<-ty ax.2];exact h.d⟩
def Bd(l:List bO):Prop:=(∀x∈l,x.num.length<=2/\x.den.length<=2)/\fF l<=2000000
def aea{v:Value}{l:List Nat}(h:dZ .u32 J v l)(aj:l.length<=4):Fn (aU Q g0) 145 [v] [] J (fun u m' ah=>u=.int .i64 (p3 l)/\m'=[]/\J=ah):=by
 obtain⟨bc,bb,rfl⟩:=h.form;have eg:=h.at;refine Fn.b9 (b1 Tryz.func145) I I fun H=>?_;refine af 0x17c10a1ce059 ?_;refine If (fun eY=>?_) fun eY=>?_
 ·exfalso;omega
 ·refine af 0x1abe0250e757 ?_;refine dV [(10,.int .i64 ((0):Int)),(0,_),(8,_),(9,_)] ?_;refine bp ?_;refine' aK.og (fun(i:Nat)=>⟨[(10,.int .i64 (i:Int))],i<=l.length/\(∀z∈l.take i,z<1000000000),l.length -i⟩) (0) ?hs ?bn;case hs=>exact⟨c6 _,fun z aR=>by rw[ku] at aR;cases aR⟩
  case bn=>
   rintro i hinv;try simp only at hinv
   obtain⟨hi,sI⟩:=hinv;refine af 0xbe099 ?_;refine If (fun mT=>?_) fun mT=>?_
   ·obtain⟨a,o,BN,e,rfl,gX,az⟩:=eg aa;obtain⟨p,ap,lp⟩:=az i aa;refine af 0x2f820738124d9d5f57 ?_;refine If (fun gh=>?_) fun gh=>?_
    ·have IX:=J6 (als ap aa);refine af 0x1abe059 ?_;refine b4 ?_
     exact⟨by rw[IX];rfl,I,I⟩
    ·refine af 0x3011e757 ?_;refine om (i+1) ?_;exact⟨aa,agE sI ap aa⟩
   ·have tL:i=l.length:=aa
    rw[tL] at sI;refine af 0x4850e757 ?_;refine eX 20 (fun aoK=>?_) fun aoK=>?_
    ·obtain⟨a,o,BN,e,rfl,gX,az⟩:=eg aa;obtain⟨p,ap,lp⟩:=az (l.length -1) aa;have lp:nth BN (o+((l.length:Int) -1).toNat*1)=some (.int .u32 (p:Int)):=by
       rw[show((l.length:Int) -1).toNat=l.length -1 by omega];exact lp
     refine af 0x2f84112619421 ?_;refine If (fun QZ=>?_) fun QZ=>?_
     ·have IX:=J6 (alt aa ap aa);refine af 0x1abe059 ?_;refine b4 ?_
      exact⟨by rw[IX];rfl,I,I⟩
     ·refine af 0x6af816757 ?_;refine b4 ?_
      exact⟨by rw[FV (Zq sI (fun _=>⟨p,ap,aa⟩))];rfl,I,I⟩
    ·refine af 0x357c0b3abeaf846f7bdef7b ?_;refine b4 ?_
     exact⟨by rw[FV (Zq sI (fun q=>absurd q aa))];rfl,I,I⟩
def ax5{v w:Value}{n d:List Nat}(ae:dZ .u32 J v n)(ag:dZ .u32 J w d)(eR:n.length<=4)(eo:d.length<=4):Fn (aU Q g0) 112 [v,w] [] J (fun u m' ah=>u=.int .i64 (o3 n d)/\m'=[]/\J=ah):=by
 have lI:=ae;have kZ:=ag;obtain⟨bc,bb,rfl⟩:=ae.form;obtain⟨bl,bt,rfl⟩:=ag.form;refine Fn.b9 (b1 Tryz.func112) I I fun H=>?_;refine af 0x1ce059 ?_;refine cl (G:=aea lI eR) (h:=?_);rintro v' m' ah hle ⟨rfl,rfl,rfl⟩;refine af 0x302 ?_;refine fc [1,5] ?_;refine bp ?_;refine' aK.hp 0 [(10,.bool (decide ((p3 n≠0))))] ?u2 ?u5;case u2=>
  refine af 0xc103a ?_;refine ho (hC ?_);omega
 case u5=>
  refine bp ?_;refine If (fun dt=>?_) fun dt=>?_
  ·have he:=awX (d:=d) dt;refine af 0x357c0839 ?_;refine b4 ?_;exact⟨by rw[he];rfl,I,I⟩
  ·have dt:p3 n=0:=ox fun q=>dt q;refine af 0xe757 ?_;refine cl (G:=aea kZ eo) (h:=?_);rintro v' m' ah hle ⟨rfl,rfl,rfl⟩;refine af 0x302 ?_;refine fc [1,6] ?_;refine bp ?_;refine' aK.hp 0 [(15,.bool (decide ((p3 d≠0))))] ?HR ?H2;case HR=>
    refine af 0xc103a ?_;refine ho (hC ?_);omega
   case H2=>
    refine bp ?_;refine If (fun gh=>?_) fun gh=>?_
    ·have he:=awW (n:=n) gh;refine af 0x357c0839 ?_;refine b4 ?_;exact⟨by rw[he];rfl,I,I⟩
    ·have gh:p3 d=0:=ox fun q=>gh q;refine af 0xbe0850e757 ?_;refine If (fun oJ=>?_) fun oJ=>?_
     ·have he:=awV dt gh aa;refine af 0x1abe059 ?_;refine b4 ?_;exact⟨by rw[he];rfl,I,I⟩
     ·have he:=ae5 dt gh aa;refine af 0x6af816757 ?_;refine b4 ?_;exact⟨by rw[he];rfl,I,I⟩
def axC{x:bO}{v1 v2:Value}{e:TypeId}(cq:J 2=some (cc .u8 m8,e))(aB:Nat.blt 2 (aU Q g0).g0=true)(h:wD J x v1 v2)(eR:x.num.length<=2)(eo:x.den.length<=2):Fn (aU Q g0) 84 [afS x v1 v2] [] J (fun u m' ah=>u=.int .i64 (qb x)/\m'=[]/\J.le ah):=by
 have aQ:=h;obtain⟨bc,bb,rfl⟩:=h.n.form;obtain⟨bl,bt,rfl⟩:=h.d.form;refine Fn.b9 (b1 Tryz.func84) I I fun H=>?_;refine rg ?_;refine fq fun ba=>?_;refine af 0x25a96e702 ?_;refine cl (G:=ax5 aQ.n aQ.d aQ.hO aQ.r0) (h:=?_);rintro v' m' ah hle ⟨rfl,rfl,rfl⟩;refine af 0x302 ?_;refine fc [1,3] ?_;refine bp ?_;refine' aK.hp 0 [(10,.bool (decide ((o3 x.num x.den≠0))))] ?u2 ?u5;case u2=>
  refine af 0xc103a ?_;refine ho (hC ?_);omega
 case u5=>
  refine bp ?_;refine If (fun dt=>?_) fun dt=>?_
  ·have he:=afm dt;refine af 0x357c0839 ?_;refine b4 ?_
   exact⟨by rw[he];rfl,I,ai.le.refl _⟩
  ·have dt:o3 x.num x.den=0:=ox fun q=>dt q;have l9:=ae6 dt;have dU:=aQ.Ge ⟨l9.1,l9.2.1⟩;have hO:(aq (bf x.num)).length<=2:=by rw[<-ty l9.1];exact eR
   have r0:(aq (bf x.den)).length<=2:=by rw[<-ty l9.2.1];exact eo
   refine af 0x90a96e757 ?_;refine eX 16 (fun ML=>?_) fun ML=>?_
   ·refine af 0xa12d ?_;refine eX 20 (fun Sk=>?_) fun Sk=>?_
    ·refine af 0x6af816757c237fdef7b ?_;refine b4 ?_
     exact⟨by rw[O6 dt (.inl ⟨mQ aa,Sk⟩)];rfl,I,ai.le.refl _⟩
    ·refine af 0x4b52d ?_;refine BJ (G:=adb cq aB dU.n dU.d hO r0) (h:=?_);rintro v' m' bj hle ⟨rfl,rfl,a8⟩;refine af 0xbe111 ?_;refine If (fun ll=>?_) fun ll=>?_
     ·refine af 0x1abe059 ?_;refine b4 ?_
      exact⟨by rw[O6 dt (.inr ll)];rfl,I,a8⟩
     ·refine af 0x6af816757 ?_;refine b4 ?_
      exact⟨by rw[V' dt (fun q=>q.elim (fun q=>by exact absurd (q.2.symm.trans Sk) bI) ll)];rfl,I,a8⟩
   ·refine af 0x4b52d0a37b ?_;refine BJ (G:=adb cq aB dU.n dU.d hO r0) (h:=?_);rintro v' m' bj hle ⟨rfl,rfl,a8⟩;refine af 0xbe111 ?_;refine If (fun ll=>?_) fun ll=>?_
    ·refine af 0x1abe059 ?_;refine b4 ?_
     exact⟨by rw[O6 dt (.inr ll)];rfl,I,a8⟩
    ·refine af 0x6af816757 ?_;refine b4 ?_
     exact⟨by rw[V' dt (fun q=>q.elim (fun q=>by(exact ML (by rw[q.1];rfl))) ll)];rfl,I,a8⟩
def ayt{a b:Int}(aR:a*b≠0):(decide ((decide (a<0))≠(decide (b<0))))=decide (a*b<0):=by
 have aI:a≠0:=fun h=>aR (by rw[h,Le]);have ak:b≠0:=fun h=>aR (by rw[h,Int.mul_zero]);by_cases ae:a<0
 ·by_cases ag:b<0
  ·have:=aie ae ag
   rw[lm ae,lm ag,g5 (show ¬a*b<0 by omega)];rfl
  ·have:=DK ae (show 0<b by omega)
   rw[lm ae,g5 ag,lm this];rfl
 ·by_cases ag:b<0
  ·have:=XF (show 0<a by omega) ag
   rw[g5 ae,lm ag,lm this];rfl
  ·have:=Int.mul_pos (show 0<a by omega) (show 0<b by omega)
   rw[g5 ae,g5 ag,g5 (show ¬a*b<0 by omega)];rfl
def ayC{n:Nat}(aA:n<1000000000000000000):Fn (aU Q g0) 75 [.int .i64 (-(n:Int))] [] J (qv J n):=by
 have aj:(aq n).length<=2:=kK (kw aA bI);refine Fn.b9 (b1 Tryz.func75) I I fun H=>?_;refine af 0xd5f02ce059 ?_;refine dV [(0,.int .i64 (-((n):Int))),(3,(.slice none 0 0))] ?_;refine bp ?_;refine' aK.bK (fun(b8:Nat×(List Nat)×Value×aJ)=>match b8 with|(c,out,gP,aS)=>⟨[(0,.int .i64 (-(c:Int))),(3,gP)],aS,J,c<=n/\out++aq c=aq n/\Acc 92 1 gP out.length (cc .u32 out) aS,c⟩) ⟨n,[],.slice none 0 0,[]⟩ ?hs ?bn
 case hs=>exact⟨b2 _,I,.nil⟩
 case bn=>
  rintro⟨c,out,gP,aS⟩ hinv;try simp only at hinv
  obtain⟨ax,al,c1⟩:=hinv;refine af 0x17c1039 ?_;refine If (fun dJ=>?_) fun dJ=>?_
  ·have my:c≠0:=aa
   have kd:out.length<=2:=by
    have:=dh List.length al;rw[dv] at this;omega
   have yW:(-(c:Int)).tmod 1000000000=-((c % 1000000000:Nat):Int):=by rw[Int.neg_tmod];exact dh Neg.neg (DN c 1000000000).symm
   have Ci:(-(c:Int)).tdiv 1000000000=-((c / 1000000000:Nat):Int):=by rw[Int.neg_tdiv];exact dh Neg.neg (uK c 1000000000).symm
   have aD6:IntKind.i64.wrap (-(-((c % 1000000000:Nat):Int)))=((c % 1000000000:Nat):Int):=by rw[Int.neg_neg];exact wrap_i64 aa aa
   have xg:max (-((c % 1000000000:Nat):Int)) ((c % 1000000000:Nat):Int)=((c % 1000000000:Nat):Int):=aa
   have hw:IntKind.u32.wrap ((c % 1000000000:Nat):Int)=((c % 1000000000:Nat):Int):=wrap_u32 aa aa;have nW:IntKind.i64.wrap (-((c / 1000000000:Nat):Int))=-((c / 1000000000:Nat):Int):=wrap_i64 aa aa;refine af 0x1813c39d5f57 ?_;rw[yW];refine af 0x8439 ?_;refine' W.step I (Exec.val I I (Gr I I ?hw) ?_);case hw=>exact wrap_i64 aa aa
   refine' W.step I (Exec.val I I (Bk I I I I I) ?_);rw[show max (-((c % 1000000000:Nat):Int)) (-(-((c % 1000000000:Nat):Int)))=((c % 1000000000:Nat):Int) by omega]
   refine hA V.i' ?_;refine jG fun n5=>?_;refine' W.step I (.of (uD I I I I I I (ee I) (zG Q g0) (fun i q=>by cases q) ?c1 ?hm ?U ?cH ?c7 ?aj fun KX JY SW asI=>?_));case c1=>exact c1
   case hm=>exact(wm _ aS).symm
   case U=>exact lR
   case cH=>rfl
   case c7=>rfl
   case aj=>exact(show out.length+1<=1000000 by omega)
   refine af 0x604f0e702 ?_;rw[Ci,nW];have bn:c / 1000000000<=n/\(out++[c % 1000000000])++aq (c / 1000000000)=aq n/\Acc 92 1 KX (out++[c % 1000000000]).length (cc .u32 (out++[c % 1000000000])) JY:=⟨aa,UX my al,by rw[zn,dv];exact SW⟩;refine eS ⟨c / 1000000000,out++[c % 1000000000],KX,JY⟩ ?_ (hm:=oB _ _);exact bn
  ·obtain rfl:c=0:=aa
   rw[m1,gC] at al;refine Acc.k7 c1 (.of_eq (gC aS).symm) fun bj a8 au=>?_;rw[al] at au;refine af 0xd5f020e757 ?_;refine b4 ?_;exact⟨a8,I,au⟩
def ayE{z:Int}(aR:z.natAbs<1000000000000000000):Fn (aU Q g0) 75 [.int .i64 z] [] J (qv J z.natAbs):=by
 rcases Int.natAbs_eq z with e|e
 ·have h:=Wp (Q:=Q) (g0:=g0) (J:=J) aR
  rw[<-e] at h;exact h
 ·have h:=ayC (Q:=Q) (g0:=g0) (J:=J) aR
  rw[<-e] at h;exact h
def ahB{z:Int}(aR:z.natAbs<1000000000000000000):Fn (aU Q g0) 41 [.int .i64 z] [] J (yb J (⟨z,1⟩:a2)):=by
 have aj:(aq z.natAbs).length<=2:=kK (kw aR bI);have ae:(aq 1).length<=60000:=dT (kK (k:=1) bI) bI;have Fg:a4 z 1=(⟨z,1⟩:a2):=Oy (r:=⟨z,1⟩) ⟨Nat.one_pos,Qc _⟩;refine Fn.b9 (b1 Tryz.func41) I I fun H=>?_;refine rg ?_;refine eu fun br=>?_;refine af 0x120738 ?_;refine cl (G:=ayE aR) (h:=?_);rintro v' m' bj hle ⟨a8,rfl,gn⟩;refine jG fun fh=>?_;refine W.eG I fun bN As=>?_;refine cl (G:=FJ (z:=z) Nat.one_pos I (fun _=>rfl) (gn.hO.mono bN) (adn As) aa ae) (h:=?_);rintro v' m' c3 hle ⟨cQ,rfl,dH,eP,rfl,bC⟩;rw[Fg] at bC ⊢;have cS:=bC;obtain⟨g3,eZ,rfl,m4⟩:=bC.n.ch;obtain⟨iP,dt,rfl,mh⟩:=bC.d.ch;refine af 0xd5f1c ?_;refine b4 ?_;exact⟨a8.trans (bN.trans cQ),I,_,_,I,cS⟩
def azD{r s:a2}{v1 v2 bE ct:Value}(ar:hz J r v1 v2)(hs:hz J s bE ct)(rd:0<r.d)(iM:0<s.d)(eR:(aq r.z.natAbs).length<=20000)(eo:(aq r.d).length<=20000)(kJ:(aq s.z.natAbs).length<=20000)(m0:(aq s.d).length<=20000):Fn (aU Q g0) 43 [di r v1 v2,di s bE ct] [] J (yb J (a4 (r.z*s.z) (r.d*s.d))):=by
 have dL:=ar;have gL:=hs;obtain⟨bc,bb,rfl,aN⟩:=ar.n.ch;obtain⟨bl,bt,rfl,aH⟩:=ar.d.ch;obtain⟨b0,cE,rfl,bo⟩:=hs.n.ch;obtain⟨dp,eA,rfl,db⟩:=hs.d.ch;have UU:(aq (r.z.natAbs*s.z.natAbs)).length<=40000:=oZ eR kJ;have UT:(aq (r.d*s.d)).length<=40000:=oZ eo m0;refine Fn.b9 (b1 Tryz.func43) I I fun H=>?_;refine rg ?_;refine fq fun br=>?_;refine fq fun bG=>?_;refine eu fun cD=>?_;refine ns ?_;refine aK.draw I (by kernel_rfl) (a0:=[.val 0,.val 1,.val 2,.val 3,.val 4,.val 5,.val 6,.val 7,.val 8,.val 10,.val 11,.val 12,.val 13,.bw 9,.b6 [13,12,11,10,4,3,2,1,0],.bw 14,.b6 [4,3,2,1,0],.bw 15,.bw 16]) (by kernel_rfl) ?_;refine af 0x5354d ?_;refine' bX.val I I I I (Bj I I I (.inr ⟨I,I⟩) (by kernel_rfl)) ?_;refine af 0x1e5354d5354d ?_;refine' bB.ej I I I I I I I I I ec (zD dL.n gL.n aa aa) ?_;rintro v' m' bj a8 ⟨_,rfl,gn⟩;have jh:=gn.hO;obtain⟨fD,fZ,rfl,fH⟩:=jh.ch;refine bB.b6 ⟨?ik,?aX,?aT,?bd,?cm,?fz,?kh,?rX,?ua,trivial⟩ ?_;case ik=>
  refine' kq.val I I I (j1 I I ?ar (g8 (fJ I) ?az)) I ?he;case ar=>exact qr
  case az=>rfl
  case he=>exact lU
 case aX=>
  refine' kq.val I I I (zH I I (zB I I)) I ?he;case he=>exact lU
 case aT=>
  refine' kq.val I I I (j1 I I ?ar (g8 (fJ I) ?az)) I ?he;case ar=>exact qr
  case az=>rfl
  case he=>exact lU
 case bd=>
  refine' kq.val I I I (zH I I (zB I I)) I ?he;case he=>exact lU
 case cm=>
  refine' kq.val I I I (Bj I I I (.inr ⟨I,I⟩) (by kernel_rfl)) I ?he;case he=>exact lU
 case fz=>
  refine' kq.val I I I (j1 I I ?ar (g8 (fJ I) ?az)) I ?he;case ar=>exact qr
  case az=>rfl
  case he=>exact lU
 case kh=>
  refine' kq.val I I I (zH I I (zB I I)) I ?he;case he=>exact lU
 case rX=>
  refine' kq.val I I I (j1 I I ?ar (g8 (fJ I) ?az)) I ?he;case ar=>exact qr
  case az=>rfl
  case he=>exact lU
 case ua=>
  refine' kq.val I I I (zH I I (zB I I)) I ?he;case he=>exact lU
 refine' bB.ej I I I I I I I I I (dF (fun _ aI=>qv.hs a8 (by rw[dL.n.Dr (dL.d.mono a8) a8 (ot aI).1,gL.n.Dr (gL.d.mono a8) a8 (ot aI).2]) I) ec) (zD (dL.d.mono a8) (gL.d.mono a8) aa aa) ?_;rintro v' m' c3 bN ⟨_,rfl,du⟩;have k0:=du.hO;obtain⟨ev,dJ,rfl,hS⟩:=k0.ch;refine bB.b6 ⟨?ik,?aX,?aT,?bd,?cm,trivial⟩ ?_;case ik=>
  refine' kq.val I I I (Bj I I I (.inr ⟨I,I⟩) (by kernel_rfl)) I ?he;case he=>exact lU
 case aX=>
  refine' kq.val I I I (j1 I I ?ar (g8 (fJ I) ?az)) I ?he;case ar=>exact qr
  case az=>rfl
  case he=>exact lU
 case aT=>
  refine' kq.val I I I (zH I I (zB I I)) I ?he;case he=>exact lU
 case bd=>
  refine' kq.val I I I (j1 I I ?ar (g8 (fJ I) ?az)) I ?he;case ar=>exact qr
  case az=>rfl
  case he=>exact lU
 case cm=>
  refine' kq.val I I I (zH I I (zB I I)) I ?he;case he=>exact lU
 refine' bB.ej I I I I I I I I I (dF (e5 I) (dF (e5 I) ec)) (FJ (z:=r.z*s.z) (ib rd iM) (kT _ _) (fun aR=>ayt aR) (jh.mono bN) k0 aa aa) ?_;rintro v' m' e3 cQ ⟨_,rfl,dH,eP,rfl,bC⟩;have cS:=bC;obtain⟨g3,eZ,rfl,m4⟩:=bC.n.ch;obtain⟨iP,dt,rfl,mh⟩:=bC.d.ch;refine af 0x1abe39e ?_;refine b4 ?_;exact⟨(a8.trans bN).trans cQ,I,_,_,I,cS⟩
def ayD{r:a2}{v1 v2:Value}(ar:hz J r v1 v2):Fn (aU Q g0) 13 [di r v1 v2] [] J (fun u m' ah=>u=di ⟨(r.z.natAbs:Int),r.d⟩ v1 v2/\m'=[]/\J=ah):=by
 obtain⟨bc,bb,rfl,aN⟩:=ar.n.ch;obtain⟨bl,bt,rfl,aH⟩:=ar.d.ch;refine Fn.b9 (b1 Tryz.func13) I I fun H=>?_;refine rg ?_;refine fq fun ba=>?_;refine eu fun br=>?_;refine af 0x6af8e2f38e3738 ?_;refine b4 ?_;exact⟨by rw[show di ⟨(r.z.natAbs:Int),r.d⟩ (.slice bc (aq r.z.natAbs).length bb) (.slice bl (aq r.d).length bt)=.agg #[.bool (decide ((r.z.natAbs:Int)<0)),.slice bc (aq r.z.natAbs).length bb,.slice bl (aq r.d).length bt] from I,g5 (show ¬(r.z.natAbs:Int)<0 by omega)];rfl,I,I⟩
def n3(J:ai)(x:bO)(cs:List Value):Prop:=∃v1 v2,cs=[.bool x.neg,v1,v2]/\wD J x v1 v2
def n3.mono{J ah:ai}(hle:J.le ah){x:bO}{cs:List Value}(h:n3 J x cs):n3 ah x cs:=by
 obtain⟨v1,v2,ae,ag⟩:=h;exact⟨v1,v2,ae,ag.mono hle⟩
def wD.ok{J:ai}{x:bO}{v1 v2:Value}(h:wD J x v1 v2)(U:nQ x=0):hz J x.rt v1 v2:=by
 obtain⟨_,ae,ag,_⟩:=yv U;exact h.Ge ⟨by rw[ae];exact wO _,by rw[ag];exact wO _⟩
def Z1{J:ai}{e:TypeId}{v:Value}{l:List bO}(h:dz J e 3 (n3 J) v l):KA l:=fun x U=>by
 obtain⟨cs,_,ag⟩:=h;obtain⟨i,hi⟩:=nK.1 U;obtain⟨v1,v2,_,ar⟩:=ag i x hi;exact⟨ar.hO,ar.r0⟩
def avx{l:List bO}:k6 (l.take 0):=by
 rw[ku];intro x U;cases U
def ax9{x:bO}:¬x.rt.z<0:=Int.not_lt.2 (sc _)
end
def aua{n:Int}{d k:Nat}(av:0<d)(ae:(aq n.natAbs).length<=k)(ag:(aq d).length<=k):(aq (a4 n d).z.natAbs).length<=k/\(aq (a4 n d).d).length<=k:=by
 have aE:=FZ (z:=n) av;exact⟨dT (p2 aE.1) ae,dT (p2 aE.2) ag⟩
def n3.ok{J:ai}{x:bO}{cs:List Value}(h:n3 J x cs)(U:nQ x=0):mn J x.rt cs:=by
 obtain⟨v1,v2,rfl,ar⟩:=h;refine⟨v1,v2,?_,ar.ok U⟩;show _=[Value.bool (decide (x.rt.z<0)),v1,v2];rw[g5 ax9,(yv U).1]
def dz.Ge{J:ai}{e:TypeId}{v:Value}{l:List bO}(h:dz J e 3 (n3 J) v l)(cG:k6 l):dz J e 3 (mn J) v ((iq l).map fun p:Nat=>a4 (p:Int) (fF l)):=by
 rw[Gf cG];obtain⟨cs,ae,ag⟩:=h;refine⟨cs,by rw[e9];exact ae,fun i r ar=>?_⟩;rw[h'] at ar;obtain⟨x,U,rfl⟩:=ri.1 ar;exact(ag i x U).ok (cG x (dq U))
section
variable {K:dW}{J wi:ai}{fn:Func}{E:bY}{m m':aJ}{bx:List PanicEntry}{hW:Value->aJ->ai->Prop}{fX:List PanicEntry->aJ->ai->Prop}
def OL(h:fX bx [] wi)(av:E.ds.ds=[]:=by exact I):Leaves K fn (.panic bx) E m wi hW fX:=⟨_,I,.inl ⟨av,.inr ⟨_,[],I,kt _,h⟩⟩⟩
end
def Yh(J:ai)(e:Int)(bx:List PanicEntry)(m':aJ)(ah:ai):Prop:=m'=[]/\J.le ah/\e≠0/\bx=[{v:=.iface 107 (.agg #[.int .i64 e]),recovered:=false}]
def azN{l:List bO}(h:k6 l):j' ((pH l).z.natAbs*(⟨((1:Nat):Int),1⟩:a2).d) ((⟨((1:Nat):Int),1⟩:a2).z.natAbs*(pH l).d)=0↔(iq l).sum=fF l:=by
 rw[Zm,<-azM h];have:=agN h;show(pH l).z.natAbs*1=1*(pH l).d↔_;rw[jr,wx];unfold xP;split
 ·omega
 ·split<;>omega
section
variable {Q:da Tryz.prog}{g0:Nat}{J:ai}
def axE{l:List bO}{b:Option Addr}{c:Nat}{e:TypeId}(cq:J 2=some (cc .u8 m8,e))(aB:Nat.blt 2 (aU Q g0).g0=true)(h:dz J 50 3 (n3 J) (.slice b l.length c) l)(gY:l.length<=1000)(hg:Bd l):
 mO (aU Q g0) 53 [.slice b l.length c] [] J (fun u m' ah=>J.le ah/\m'=[]/\m7 l=0/\∃b' c',u=.slice b' l.length c'/\dz ah 85 3 (jN ah) (.slice b' l.length c') ((iq l).map fun p:Nat=>a4 (p:Int) (fF l))) (Yh J (m7 l)):=by
 have oo:addrEq b b=true:=h.addr;obtain⟨_,eg⟩:=h.at;have oV:=Z1 h;refine mO.b9 (b1 Tryz.func53) I I fun H=>?_;refine af 0x6059 ?_;refine fc [0] ?_;refine bp ?_;refine' aK.hp 0 [(14,.bool (decide ((l.length<1\/10<l.length))))] ?lF ?lG;case lF=>
  refine af 0x12143a ?_;refine eX 10 (fun jT=>?_) fun jT=>?_
  ·refine af 0x1846f7b ?_;refine ho (hC ?_);omega
  ·refine af 0x18410a1 ?_;refine ho (hC ?_);omega
 case lG=>
  refine bp ?_;refine If (fun fE=>?_) fun fE=>?_
  ·have he:=afD fE;refine af 0x4e19 ?_;refine' W.panic I I I ?_
   exact OL ⟨I,ai.le.refl _,by rw[he];decide,by rw[he]⟩
  ·refine af 0x1abe0250e757 ?_;refine dV [(19,.int .i64 ((0):Int)),(0,_),(17,_),(18,_)] ?_;refine bp ?_;refine' aK.bK (fun(b8:Nat×ai)=>match b8 with|(i,cv)=>⟨[(19,.int .i64 (i:Int))],[],cv,i<=l.length/\J.le cv/\k6 (l.take i),l.length -i⟩) ⟨0,J⟩ ?hs ?bn
   case hs=>exact⟨c6 _,ai.le.refl _,avx⟩
   case bn=>
    rintro⟨i,cv⟩ hinv;try simp only at hinv
    obtain⟨hi,cr,cG⟩:=hinv;refine af 0xbe099 ?_;refine If (fun nO=>?_) fun nO=>?_
    ·obtain⟨a,off,cells,bA,rfl,l7,jJ⟩:=eg aa;obtain⟨x,cs,U,iI,oa,v1,v2,rfl,dU⟩:=jJ i aa aa;rw[ff] at U;have l7:=cr _ _ l7;have sD:=dU.mono cr;obtain⟨bc,bb,rfl⟩:=dU.n.form;obtain⟨bl,bt,rfl⟩:=dU.d.form;refine af 0x30d9d5f57 ?_;refine eu fun cD=>?_;refine af 0x6671c ?_;refine cl (G:=axC (cr _ _ cq) aB sD (hg.1 x (dq U)).1 (hg.1 x (dq U)).2) (h:=?_);rintro v' m' c3 hle ⟨rfl,rfl,bN⟩;refine af 0x302 ?_;refine fc [0,4,5,17,18,19] ?_;refine bp ?_;refine' aK.hp 0 [(26,.bool (decide ((qb x≠0))))] ?Rs ?RH;case Rs=>
      refine af 0xc103a ?_;refine ho (hC ?_);omega
     case RH=>
      refine bp ?_;refine If (fun ss=>?_) fun ss=>?_
      ·
        have np:=Z0 ss;have he:=Wc fE (by rw[Ii cG U (by rw[np];exact ss),np];exact ss);rw[Ii cG U (by rw[np];exact ss),np] at he;refine af 0x9c039 ?_;refine' W.panic I I I ?_
        exact OL ⟨I,cr.trans bN,by rw[he];exact ss,by rw[he]⟩
      ·
        have ss:qb x=0:=ox fun q=>ss q;refine af 0x5f096e757 ?_;refine If (fun yn=>?_) fun yn=>?_
        ·have np:=ZY ss yn;have he:=Wc fE (by rw[Ii cG U (by rw[np];decide),np];decide);rw[Ii cG U (by rw[np];decide),np] at he;refine af 0x4e19 ?_;refine' W.panic I I I ?_
         exact OL ⟨I,cr.trans bN,by rw[he];decide,by rw[he]⟩
        ·have Jg:x.neg=false:=yn;have np:=ZZ ss Jg;have arn:k6 (l.take (i+1)):=agE (P:=fun y=>nQ y=0) cG U np;refine af 0x3011e757 ?_;refine eS ⟨i+1,c3⟩ ?_ (hm:=.cons _ (.refl _));exact⟨aa,cr.trans bN,arn⟩
    ·have Jt:l.take i=l:=ft aa;have sV:k6 l:=by
        have:=cG;rw[Jt] at this;exact this
     have hs:=ry sV;have l8:=Rm sV oV;have mZ:=ax8 sV oV;have ap9:fF l<18446744073709551616:=jg hg.2 bI;have aEw:=U7 (iq l).sum;have dU:=(dz.mono (R':=n3 cv) cr (fun _ _ q=>q.mono cr) h).Ge sV;rw[Gf sV] at dU;have abY:=list_fn (Q:=Q) (g0:=g0) (J:=cv) (b:=b) (c:=c) (rs:=l.map bO.rt) (by rw[e9];exact dU) (by rw[e9];omega) (fun r ar=>by
        obtain⟨x,U,rfl⟩:=lf.1 ar;have he:=amW (sV x U) (oV x U);exact⟨(yv (sV x U)).2.2.2,⟨dT he.1 bI,dT he.2 bI⟩⟩)
     rw[e9,<-Gf sV] at abY;have asd:∀{ah:ai} {b0:Option Addr} {cE:Nat},dz ah 85 3 (jN ah) (.slice b0 l.length cE) ((iq l).map fun p:Nat=>a4 (p:Int) (fF l))->Fn (aU Q g0) 86 [.slice b0 l.length cE] [] ah (pf ah (pH l)):=fun{ah b0 cE} gW=>by
        have:=azO (Q:=Q) (g0:=g0) (ps:=iq l) (s:=fF l) (b:=b0) (c:=cE) (J:=ah) (by rw[q8];exact gW) hs aa aa (by rw[q8];omega);rw[q8] at this;exact this
     have sU:=agN sV;have To:h9 10000 (pH l):=tE hs aa aa;have Cl:h9 1 (⟨((1:Nat):Int),1⟩:a2):=h9.mk (by show(a7 1).length<=1;exact jk bI) (show 1<18446744073709551616 by decide);have Fs:=azN sV;refine af 0xe757 ?_;refine cl (G:=abY) (h:=?_);rintro v' m' bj a8 ⟨_,rfl,b0,cE,rfl,gW⟩;have bo:addrEq b0 b0=true:=gW.addr;refine af 0xe702 ?_;refine cl (G:=asd gW) (h:=?_);rintro v' m' c3 bN ⟨_,rfl,bE,ct,rfl,bC⟩;have nm:=bC;obtain⟨dp,gf,eA,rfl,db,_,_⟩:=bC.n.bz;obtain⟨fD,hP,fZ,rfl,fH,_,_⟩:=bC.d.bz;refine cl (G:=NU (n:=1) bI) (h:=?_);rintro v' m' e3 cQ ⟨_,rfl,bE,ct,rfl,cS⟩;have po:=cS;obtain⟨ev,e2,dJ,rfl,hS,_,_⟩:=cS.n.bz;obtain⟨gH,k3,eY,rfl,mI,_,_⟩:=cS.d.bz;refine cl (G:=Rh (nm.mono cQ) po (agM sV) ⟨by decide,by decide⟩ aa bI To Cl aa aa) (h:=?_);rintro v' m' lx fa ⟨rfl,rfl,_⟩;refine af 0x5f04 ?_;refine If (fun Q1=>?_) fun Q1=>?_
     ·have he:=afE fE sV (fun q=>Q1 (Fs.2 q));refine af 0x4e19 ?_;refine' W.panic I I I ?_
      exact OL ⟨I,cr.trans (a8.trans (bN.trans (cQ.trans fa))),by rw[he];decide,by rw[he]⟩
     ·have he:=Wd fE sV (Fs.1 (ox fun q=>Q1 q));refine af 0xd5f020e757 ?_;exact LE (m':=[]) ⟨cr.trans (a8.trans (bN.trans (cQ.trans fa))),I,he,b0,cE,I,dz.mono (R':=jN lx) (bN.trans (cQ.trans fa)) (fun _ _ q=>q.mono (bN.trans (cQ.trans fa))) gW⟩
def Qh(F:qj->Prop)(bK:Nat)(G:aJ->ai->Prop)(m:aJ)(ah:ai):Prop:=∃r uh,F r/\m=(bK,.loop r)::uh/\G uh ah
def aiN(bK:Nat)(G:aJ->ai->Prop)(m:aJ)(ah:ai):Prop:=∃r uh,m=(bK,.loop r)::uh/\(r.state≠.busy/\r.pending=some .ret)/\G uh ah
def MF{r:qj}{n:Nat}{ps:List Tmp}{oH yi:Code}{bK:Nat}{l:List (Nat×Value)}(_:we r n ps oH yi bK l)(cu:qj):Prop:=we cu n ps oH yi bK l
def EL{r cu:qj}{n:Nat}{ps:List Tmp}{oH yi:Code}{bK:Nat}{l:List (Nat×Value)}{h:we r n ps oH yi bK l}(h4:MF h cu):cu.state≠.busy/\cu.pending=none:=⟨(by rw[we.ir h4];intro q;cases q),we.xM h4⟩
abbrev zS(J:ai)(l:List Int)(v:Value):Prop:=gl J v l
def gl.addr{J:ai}{b:Option Addr}{n c:Nat}{l:List Int}(h:gl J (.slice b n c) l):addrEq b b=true:=by obtain⟨e,h⟩:=h;exact h.addr
def bits_nat{bits:Int}(h:¬(bits<1\/30<bits)):∃k M:Nat,bits=(k:Int)/\k<=30/\M=2 ^ k/\IntKind.i64.wrap (1*2 ^ ((k:Nat):Int).toNat)=(M:Int)/\M<=1073741824/\0<M:=by
 obtain⟨k,hk⟩:∃k:Nat,bits=(k:Int):=⟨bits.toNat,aa⟩;obtain⟨ae,ag,aE⟩:=af' (b:=k) aa;exact⟨k,_,hk,aa,I,ae,ag,aE⟩
def agF{ts:List (List Int)}{bits:Int}{b:Option Addr}{c:Nat}(h:dz J 22 1 (e8 (zS J)) (.slice b ts.length c) ts)(gY:ts.length<9223372036854775807)(qQ:∀l∈ts,l.length<9223372036854775807):
 Fn (aU Q g0) 25 [.agg #[.int .i64 bits,.slice b ts.length c]] [] J (fun u m' ah=>u=.int .i64 (nG bits ts)/\m'=[]/\J=ah):=by
 have aH:addrEq b b=true:=h.addr;have eg:=h.eg;refine Fn.OD (b1 Tryz.func25) I I fun H=>?_;refine rg ?_;refine fq fun ba=>?_;refine eu fun br=>?_;refine nh ?_;refine fc [1,2] ?_;refine bp ?_;refine' aK.hp 0 [(14,.bool (decide ((bits<1\/30<bits))))] ?lF ?lG;case lF=>
  refine af 0x1225ba ?_;refine eX 10 (fun jT=>?_) fun jT=>?_
  ·refine af 0x1846f7b ?_;refine ho (hC ?_);omega
  ·refine af 0x184112d ?_;refine ho (hC ?_);omega
 case lG=>
  refine bp ?_;refine If (fun fE=>?_) fun fE=>?_
  ·have he:=azy (ts:=ts) fE;refine af 0x1abe399 ?_;refine'⟨.inr I,_,_,[],(by exact .nil _),.cell I (by repeat first|exact .head _|refine j7 _ ?_) (g8 (fJ I) I) (.nil),kt _,?_⟩
   exact⟨by rw[he];rfl,I,I⟩
  ·refine af 0x17c10a96e757 ?_;refine If (fun jt=>?_) fun jt=>?_
   ·have he:=azz (ts:=ts) fE aa;refine af 0x1abe399 ?_;refine'⟨.inr I,_,_,[],(by exact .nil _),.cell I (by repeat first|exact .head _|refine j7 _ ?_) (g8 (fJ I) I) (.nil),kt _,?_⟩
    exact⟨by rw[he];rfl,I,I⟩
   ·have he:=agA (ts:=ts) fE aa;obtain⟨k,M,hk,Cn,IR,ih,yH,yG⟩:=bits_nat fE;subst hk;rw[ff,<-IR] at he;refine af 0x96e757 ?_;refine cl (G:=afM aH) (h:=?_);rintro v' m' bj hle ⟨oF,rfl,rfl,rfl⟩;refine af 0xbeaf8 ?_;refine aK.V9 I I (fun ja bK r ar=>?_);refine⟨(oF,_)::[(bK,_),(br,_),(ba,_)],[(ja,_)],_,_,(hR 2 I (hR 0 I (hR 1 I (hR 1 I (hR 0 I .nil))))),trivial,afL (fX:=fun _ _ _=>False) (pM:=fun i=>Qh (MF ar) bK (fun m ah=>m=[(br,.row [.int .i64 0] 41),(ba,.row [.int .i64 (k:Int),.slice b ts.length c] 40)]/\J=ah/\∀y∈ts.take i,mJ M y=0)) (wB:=aiN bK (fun m ah=>m=[(br,.row [.int .i64 (sx (mJ M) ts)] 41),(ba,.row [.int .i64 (k:Int),.slice b ts.length c] 40)]/\J=ah)) gY eg ⟨_,_,ar,I,I,I,fun y an=>by cases an⟩ ?kD,(fun _ _ _ _ q=>q.2.elim),?pV⟩;case kD=>
      rintro i v m cv hi ⟨l,aj,bi⟩ cr ⟨dc,uh,pS,rfl,rfl,rfl,cG⟩;have aD2:=qQ l (dq aj);have bi:gl J v l:=bi;obtain⟨bc,bb,rfl,vh,IQ⟩:=bi.inv;have aN:addrEq bc bc=true:=bi.addr;refine uU.VC pS (by repeat first|exact .head _|refine j7 _ ?_) I I (fun H=>?_);refine af 0x6059 ?_;refine⟨I,_,(by repeat first|exact .head _ _ _ _|apply fY.app),?_⟩;refine af 0x357 ?_;refine fc [1,2,3] ?_;refine bp ?_;refine' aK.hp 0 [(30,.bool (decide ((l.length<1\/10<l.length))))] ?Rs ?RH;case Rs=>
        refine af 0x12143a ?_;refine eX 26 (fun aoI=>?_) fun aoI=>?_
        ·refine af 0x1846f7b ?_;refine ho (hC ?_);omega
        ·refine af 0x18410a1 ?_;refine ho (hC ?_);omega
      case RH=>
        refine bp ?_;refine If (fun ym=>?_) fun ym=>?_
        ·have dL:=axX (M:=M) ym;refine af 0x1abe399 ?_;refine .inl ⟨some .ret,_,_,_,I,(by repeat first|exact .head _ _ _ _|apply fY.app),.refl _,?_⟩;exact⟨false,I,(fun q=>by cases q),fun _=>⟨_,_,I,⟨(fun q=>by cases q),I⟩,by rw[MD cG aj (by rw[dL];decide),dL],I⟩⟩
        ·refine af 0xd5f012873816757 ?_;refine dV [(33,.int .i64 ((0):Int)),(4,.int .i64 ((l.take (0)).sum)),(1,_),(2,_),(31,_),(32,_)] ?_;refine bp ?_;refine' aK.og (fun(j:Nat)=>⟨[(33,.int .i64 (j:Int)),(4,.int .i64 ((l.take j).sum))],j<=l.length/\xQ M (l.take j),l.length -j⟩) (0) ?hs ?bn;case hs=>exact⟨c6 _,ayu⟩
         case bn=>
          rintro j hinv;try simp only at hinv
          obtain⟨aW,oV⟩:=hinv;refine af 0xbe099 ?_;refine If (fun uZ=>?_) fun uZ=>?_
          ·obtain⟨oH,F8,Es,EC,rfl,n9,pY⟩:=bi.vQ aa;obtain⟨x,U,vt⟩:=pY j aa;have c4:=azo U;obtain⟨gL,mc⟩:=azj (n:=10) oV (by rw[eL];omega);refine af 0x18124d9d5f57 ?_;refine fc [1,2,4,6,31,32,33] ?_;refine bp ?_;refine' aK.hp 0 [(45,.bool (decide ((x<0\/(M:Int)<x))))] ?Rp ?RE;case Rp=>
            refine af 0x903a ?_;refine eX 39 (fun Sf=>?_) fun Sf=>?_
            ·refine af 0xdef7b ?_;skip
             refine af 0x611b ?_;refine ho (hC ?_);omega
            ·refine af 0xa25a1 ?_;rw[ih]
             refine af 0x6104 ?_;refine ho (hC ?_);omega
           case RE=>
            refine bp ?_;refine If (fun HE=>?_) fun HE=>?_
            ·have dL:=axY ym U HE;refine af 0x1abe399 ?_;refine .inl ⟨some .ret,_,_,_,I,(by repeat first|exact .head _ _ _ _|apply fY.app),.refl _,?_⟩;exact⟨false,I,(fun q=>by cases q),fun _=>⟨_,_,I,⟨(fun q=>by cases q),I⟩,by rw[MD cG aj (by rw[dL];decide),dL],I⟩⟩
            ·have arW:=ayv oV U HE;refine af 0xc08610e757 ?_;rw[<-c4];refine af 0xc0479 ?_;refine om (j+1) ?_;exact⟨aa,arW⟩
          ·obtain rfl:j=l.length:=aa
           rw[ft (b2 _)] at oV ⊢;refine af 0x512d0e757 ?_;rw[ih];refine af 0x5f04 ?_;refine If (fun Y6=>?_) fun Y6=>?_
           ·have dL:=axZ ym oV (fun q=>Y6 (by exact q));refine af 0x1abe399 ?_;refine .inl ⟨some .ret,_,_,_,I,(by repeat first|exact .head _ _ _ _|apply fY.app),.refl _,?_⟩;exact⟨false,I,(fun q=>by cases q),fun _=>⟨_,_,I,⟨(fun q=>by cases q),I⟩,by rw[MD cG aj (by rw[dL];decide),dL],I⟩⟩
           ·have dL:=Wf ym oV aa;refine lu ?_;refine .inl ⟨none,_,_,_,I,(by repeat first|exact .head _ _ _ _|apply fY.app),iC _,?_⟩;exact⟨true,I,(fun _=>⟨_,_,pS.again,I,I,I,aez cG aj dL⟩),fun q=>by cases q⟩
    rintro v m' bj a8 ⟨_,⟨c9,uh,nn,rfl,rfl,rfl,cG⟩|⟨c9,uh,rfl,c4,rfl,rfl⟩⟩;case inr=>
      refine⟨c9,_,(.head _ _ _ _),c4.1,?_⟩;rw[c4.2];exact⟨.inr I,_,_,[],.Er (hR 3 I (hR 0 I (hR 0 I (hR 0 I .nil)))) (.nil _),.cell I (by repeat first|exact .head _|refine .tail _ ?_|refine j7 _ ?_) (g8 (fJ I) I) .nil,kt _,by rw[he];exact⟨I,I,I⟩⟩
    have arm:sx (mJ M) ts=0:=ME (by rw[ft (b2 _)] at cG;exact cG);refine⟨c9,(bK,_)::[(br,_),(ba,_),(ja,_)],(.head _ _ _ _),(EL nn).1,?_⟩;rw[(EL nn).2];refine af 0x1abe399 ?_;refine'⟨.inr I,_,_,[],(by exact .Er (hR 3 I (hR 0 I (hR 0 I (hR 0 I .nil)))) (.nil _)),.cell I (by repeat first|exact .head _|refine .tail _ ?_|refine j7 _ ?_) (g8 (fJ I) I) (.nil),kt _,?_⟩
    exact⟨by rw[he,arm];rfl,I,I⟩
def z1.hs{J qo:ai}{x hT:Nat}(hle:qo.le J)(eU:hT=x){a1:aJ}(hm:a1=[]):a1=[]/\qo.le J/\∀v m' bj c3,z1 qo hT v m' bj->bj.le c3->J.le c3->z1 J x v m' c3:=
 ⟨hm,hle,fun v m' bj c3 ⟨_,ag,aE⟩ dK ga=>⟨ga,ag,eU▸aE.mono dK⟩⟩
def aix{n:Nat}(h:(aq n).length=0):n=0:=by
 rcases oC n with q|q
 ·exact q
 ·rw[ue aa,ks] at h;omega
def afO{n:Nat}(aA:n<1000000000000000000):Fn (aU Q g0) 63 [.int .i64 (n:Int)] [] J (fun u m' ah=>u=.int .u64 (n:Int)/\m'=[]/\J=ah):=by
 refine Fn.b9 (b1 Tryz.func63) I I fun H=>?_;refine af 0xbe081ce059 ?_;refine If (fun eA=>?_) fun eA=>?_
 ·exfalso;omega
 ·refine af 0x1abe04e0e757 ?_;refine b4 ?_;exact⟨I,I,I⟩
def aA2{n d:Nat}{e:TypeId}(cq:J 2=some (cc .u8 m8,e))(aB:Nat.blt 2 (aU Q g0).g0=true)(aA:n<4294967296)(av:d<4294967296)(h6:0<d):Fn (aU Q g0) 97 [.bool false,.int .u64 (n:Int),.int .u64 (d:Int)] [] J (yb J (a4 (n:Int) d)):=by
 obtain⟨g,Cm⟩:∃g,g=Nat.gcd n d:=⟨_,I⟩;have tJ:0<g:=by rw[Cm];exact wq _ h6
 obtain⟨p,ap⟩:∃p,p=n / g:=⟨_,I⟩;obtain⟨q,b3⟩:∃q,q=d / g:=⟨_,I⟩;have oc:p<=n:=by rw[ap];exact si _ _
 have qN:q<=d:=by rw[b3];exact si _ _
 have TZ:(n:Int).tdiv (g:Int)=(p:Int):=by rw[ap];exact(uK n g).symm
 have T5:(d:Int).tdiv (g:Int)=(q:Int):=by rw[b3];exact(uK d g).symm
 have aF:IntKind.u64.wrap ((n:Int).tdiv (g:Int))=(p:Int):=by rw[TZ];exact wrap_u64 aa aa
 have aV:IntKind.u64.wrap ((d:Int).tdiv (g:Int))=(q:Int):=by rw[T5];exact wrap_u64 aa aa
 have apd:∀J,Fn (aU Q g0) 62 [.int .u64 (IntKind.u64.wrap ((n:Int).tdiv (g:Int)))] [] J (z1 J p):=fun J=>by rw[aF];exact Ob aa
 have ape:∀J,Fn (aU Q g0) 62 [.int .u64 (IntKind.u64.wrap ((d:Int).tdiv (g:Int)))] [] J (z1 J q):=fun J=>by rw[aV];exact Ob aa
 have ar:a4 (n:Int) d=(⟨(p:Int),q⟩:a2):=by
  unfold a4;rw[gR,<-Cm,<-Int.natCast_ediv,ap,b3]
 have TT:¬((p:Int)<0):=aa
 refine Fn.b9 (b1 Tryz.func97) I I fun H=>?_;refine rg ?_;refine eu fun ef=>?_;refine af 0x8738 ?_;refine cl (G:=YN cq aB aa aa) (h:=?_);rintro v' m' ah hle ⟨rfl,rfl,rfl⟩;rw[<-Cm];refine af 0x5f02 ?_;refine aK.draw I (by kernel_rfl) (a0:=[.val 0,.val 1,.val 2,.val 3,.val 5,.val 6,.val 7,.bw 4,.b6 [7,6,5,0],.bw 8,.val 9,.b6 [0],.bw 10]) (by kernel_rfl) ?_;refine af 0xf3c2178421 ?_;refine' bB.ej I I I I I I I I I ec (apd _) ?_;rintro v' m' bj hle ⟨a8,rfl,gn⟩;have jh:=gn;obtain⟨fD,fZ,rfl,fH⟩:=jh.ch;refine bB.b6 eN ?_;refine' bB.ej I I I I I I I I I (dF (fun _ aI=>z1.hs a8 (by rw[aF,aV] at aI;injection aI with aI;injection aI with _ aI;omega) I) ec) (ape _) ?_;rintro v' m' c3 hle ⟨bN,rfl,du⟩;have k0:=du;obtain⟨ev,dJ,rfl,hS⟩:=k0.ch;refine af 0x6af8e761e ?_;refine b4 ?_;exact⟨a8.trans bN,I,.slice fD _ fZ,.slice ev _ dJ,by rw[ar,show di (⟨(p:Int),q⟩:a2) (.slice fD (aq p).length fZ) (.slice ev (aq q).length dJ)=.agg #[.bool (decide ((p:Int)<0)),.slice fD (aq p).length fZ,.slice ev (aq q).length dJ] from I,g5 TT];rfl,by rw[ar];show ei _ _ ((p:Int)).natAbs;rw[gR];exact jh.mono bN,by rw[ar];exact k0⟩
def aBn:Fn (aU Q g0) 96 [] [] J (yb J (⟨0,1⟩:a2)):=by
 have qM:aq 0=[]:=m1;refine Fn.b9 (b1 Tryz.func96) I I fun H=>?_;refine rg ?_;refine eu fun iZ=>?_;refine Ox ?_;refine cl (G:=atO) (h:=?_);rintro v' m' bj hle ⟨a8,rfl,gn⟩;have jh:=gn;obtain⟨fD,fZ,rfl,fH⟩:=jh.ch;refine af 0x1abe390 ?_;refine b4 ?_;exact⟨a8,I,.slice none 0 0,.slice fD _ fZ,I,⟨3,by show fg _ _ 1 _ (aq 0).length (cc .u32 (aq 0));rw[qM];exact .nil⟩,jh⟩
def axA{n d:Nat}{v w:Value}{e:TypeId}(cq:J 2=some (cc .u8 m8,e))(aB:Nat.blt 2 (aU Q g0).g0=true)(ae:ei J v n)(ag:ei J w d)(aA:n<4294967296)(av:d<4294967296)(h6:0<d):Fn (aU Q g0) 61 [.bool false,v,w] [] J (yb J (a4 (n:Int) d)):=by
 have lI:=ae;have kZ:=ag;have atq:(aq n).length<=2:=kK (k:=2) (kw aA bI);have UT:(aq d).length<=2:=kK (k:=2) (kw av bI);obtain⟨bc,bb,rfl,aN⟩:=ae.ch;obtain⟨bl,bt,rfl,aH⟩:=ag.ch;refine Fn.b9 (b1 Tryz.func61) I I fun H=>?_;refine rg ?_;refine eu fun ef=>?_;refine af 0x5f0428738 ?_;refine If (fun dt=>?_) fun dt=>?_
 ·have aR:n=0:=aix aa;refine rg ?_;refine cl (G:=aBn) (h:=?_);rintro v' m' bj hle ⟨a8,rfl,dH,eP,rfl,bC⟩;have cS:=bC;obtain⟨g3,eZ,rfl,m4⟩:=bC.n.ch;obtain⟨iP,dt,rfl,mh⟩:=bC.d.ch;refine af 0xd5f1c ?_;refine b4 ?_
  exact⟨a8,I,_,_,by rw[aR,show a4 ((0:Nat):Int) d=⟨0,1⟩ from xG h6];rfl,by rw[aR,show a4 ((0:Nat):Int) d=⟨0,1⟩ from xG h6];exact cS⟩
 ·refine af 0x4850e757 ?_;refine eX 15 (fun aoC=>?_) fun aoC=>?_
  ·refine af 0x2f8410a1 ?_;refine If (fun oJ=>?_) fun oJ=>?_
   ·refine af 0x439 ?_;refine cl (G:=PL lI atq) (h:=?_);rintro v' m' ah hle ⟨rfl,rfl,rfl⟩;refine hA V.eC ?_;refine cl (G:=PL kZ UT) (h:=?_);rintro v' m' ah hle ⟨rfl,rfl,rfl⟩;refine cl (G:=aA2 cq aB aA av h6) (h:=?_);rintro v' m' bj hle ⟨a8,rfl,dH,eP,rfl,bC⟩;have cS:=bC;obtain⟨g3,eZ,rfl,m4⟩:=bC.n.ch;obtain⟨iP,dt,rfl,mh⟩:=bC.d.ch;refine af 0xd5f1c ?_;refine b4 ?_
    exact⟨a8,I,_,_,I,cS⟩
   ·exfalso;omega
  ·exfalso;omega
def avq{n d:Nat}{e:TypeId}(cq:J 2=some (cc .u8 m8,e))(aB:Nat.blt 2 (aU Q g0).g0=true)(aA:n<4294967296)(av:d<4294967296)(h6:0<d):Fn (aU Q g0) 27 [.int .i64 (n:Int),.int .i64 (d:Int)] [] J (fun u m' ah=>J.le ah/\m'=[]/\∃v1 v2,u=.tuple #[di (a4 (n:Int) d) v1 v2,.int .i64 0]/\hz ah (a4 (n:Int) d) v1 v2):=by
 refine Fn.b9 (b1 Tryz.func27) I I fun H=>?_;refine rg ?_;refine eu fun cD=>?_;refine af 0x5f040e702 ?_;refine If (fun eY=>?_) fun eY=>?_
 ·exfalso;omega
 ·refine af 0x10240e757 ?_;refine' W.step I (Exec.val I I (Bj I I I (.inr ⟨I,I⟩) (by kernel_rfl)) ?_);refine hA V.eC ?_;refine cl (G:=afO (n:=n) aa) (h:=?_);rintro v' m' ah hle ⟨rfl,rfl,rfl⟩;refine cl (G:=Ob (n:=n) aa) (h:=?_);rintro v' m' bj hle ⟨a8,rfl,gn⟩;have jh:=gn;obtain⟨fD,fZ,rfl,fH⟩:=jh.ch;refine hA V.eC ?_;refine cl (G:=afO (n:=d) aa) (h:=?_);rintro v' m' ah hle ⟨rfl,rfl,rfl⟩;refine cl (G:=Ob (n:=d) aa) (h:=?_);rintro v' m' c3 hle ⟨bN,rfl,du⟩;have k0:=du;obtain⟨ev,dJ,rfl,hS⟩:=k0.ch;rw[g5 (show ¬((n:Nat):Int)<0 by omega),g5 (show ¬((d:Nat):Int)<0 by omega)];refine cl (G:=axA ((a8.trans bN) _ _ cq) aB (jh.mono bN) k0 aA av h6) (h:=?_);rintro v' m' e3 hle ⟨cQ,rfl,dH,eP,rfl,bC⟩;have cS:=bC;obtain⟨g3,eZ,rfl,m4⟩:=bC.n.ch;obtain⟨iP,dt,rfl,mh⟩:=bC.d.ch;refine af 0x1abe05c ?_;refine b4 ?_;exact⟨(a8.trans bN).trans cQ,I,_,_,I,cS⟩
def axy{n d:Nat}(aA:n<1000000000000000000)(av:d<1000000000000000000)(h6:0<d):Fn (aU Q g0) 42 [.int .i64 (n:Int),.int .i64 (d:Int)] [] J (yb J (a4 (n:Int) d)):=by
 have aj:(aq n).length<=2:=kK (kw aA bI);have pZ:(aq d).length<=2:=kK (kw av bI);refine Fn.b9 (b1 Tryz.func42) I I fun H=>?_;refine rg ?_;refine eu fun cD=>?_;refine af 0x8120738 ?_;refine' W.step I (Exec.val I I (Bj I I I (.inr ⟨I,I⟩) (by kernel_rfl)) ?_);refine hA V.eC ?_;refine cl (G:=Wp aA) (h:=?_);rintro v' m' bj hle ⟨a8,rfl,gn⟩;have jh:=gn.hO;obtain⟨fD,fZ,rfl,fH⟩:=jh.ch;refine hA V.eC ?_;refine cl (G:=Wp av) (h:=?_);rintro v' m' c3 hle ⟨bN,rfl,du⟩;have k0:=du.hO;obtain⟨ev,dJ,rfl,hS⟩:=k0.ch;refine cl (G:=FJ (z:=(n:Int)) h6 I (fun _=>by rw[g5 (show ¬((n:Nat):Int)<0 by omega),g5 (show ¬((d:Nat):Int)<0 by omega)];rfl) (jh.mono bN) k0 (by show(aq n).length<=60000;omega) aa) (h:=?_);rintro v' m' e3 hle ⟨cQ,rfl,dH,eP,rfl,bC⟩;have cS:=bC;obtain⟨g3,eZ,rfl,m4⟩:=bC.n.ch;obtain⟨iP,dt,rfl,mh⟩:=bC.d.ch;refine af 0xd5f1c ?_;refine b4 ?_;exact⟨a8.trans (bN.trans cQ),I,_,_,I,cS⟩
abbrev qw(J:ai)(l:List bO)(v:Value):Prop:=∃b c,v=.slice b l.length c/\dz J 50 3 (n3 J) (.slice b l.length c) l
def qw.mono{J ah:ai}(hle:J.le ah){l:List bO}{v:Value}(h:qw J l v):qw ah l v:=by
 obtain⟨b,c,ae,ag⟩:=h;exact⟨b,c,ae,dz.mono (R':=n3 ah) hle (fun _ _ q=>q.mono hle) ag⟩
abbrev pb(J:ai)(b:Option Addr)(n c:Nat)(m:List (List bO)):Prop:=dz J 34 1 (e8 (qw J)) (.slice b n c) m
def pb.mono{J ah:ai}(hle:J.le ah){b:Option Addr}{n c:Nat}{m:List (List bO)}(h:pb J b n c m):pb ah b n c m:=
 dz.mono (R':=e8 (qw ah)) hle (fun _ _ ⟨v,aN,aH⟩=>⟨v,aN,aH.mono hle⟩) h
def mK (s M:Nat):bO:=⟨false,aq (a4 (s:Int) M).z.natAbs,aq (a4 (s:Int) M).d⟩
def mi (M:Nat)(t:List Int):List bO:=t.map fun s=>mK s.toNat M
def A7{M:Nat}{t:List Int}:(mi M t).length=t.length:=e9 ..
def axW{M j:Nat}{t:List Int}{x:Int}(h:t[j]?=some x):mi M (t.take (j+1))=mi M (t.take j)++[mK x.toNat M]:=by
 unfold mi;rw[ly,h,zW];rfl
def afT{J:ai}{s M:Nat}{v1 v2:Value}(h:hz J (a4 (s:Int) M) v1 v2)(ih:0<M)(yH:M<=1073741824)(hs:s<=M):di (a4 (s:Int) M) v1 v2=afS (mK s M) v1 v2/\wD J (mK s M) v1 v2:=by
 have aR:¬(a4 (s:Int) M).z<0:=by
  unfold a4;simp only
  have:=XC (sc s) (sc (Nat.gcd (s:Int).natAbs M));omega
 have aj:(aq ((s:Nat):Int).natAbs).length<=4:=by rw[gR];exact kK (k:=4) (jg (show s<=1073741824 by omega) bI)
 have av:(aq M).length<=4:=kK (k:=4) (jg yH bI);obtain⟨ae,ag⟩:=aua ih aj av;refine⟨?_,⟨h.n,h.d,ae,ag⟩⟩;show Value.agg #[.bool (decide ((a4 (s:Int) M).z<0)),v1,v2]=_;rw[g5 aR];rfl
def agB{bits:Int}{ts:List (List Int)}(h:nG bits ts=0):¬(bits<1\/30<bits)/\ts.length<=200/\∀t∈ts,mJ (2 ^ bits.toNat) t=0:=by
 unfold nG at h;split at h
 ·cases h
 ·split at h
  ·cases h
  ·exact⟨aa,aa,aak h⟩
def Kx (bits:Int)(ts:List (List Int)):List (List bO):=if nG bits ts=0 then ts.map (mi (2 ^ bits.toNat)) else[]
def auF{J:ai}:pb J none 0 0 []:=⟨⟨[],.nil,fun i x h=>by cases h⟩⟩
abbrev aiS(J:ai)(e:Int)(m:List (List bO)):Value->aJ->ai->Prop:=fun u m' ah=>J.le ah/\m'=[]/\∃b' c',u=.tuple #[.slice b' m.length c',.int .i64 e]/\pb ah b' m.length c' m
end
abbrev K3:Value:=.agg #[.bool false,.slice none 0 0,.slice none 0 0]
abbrev Qk(J:ai)(r:a2):Value->aJ->ai->Prop:=fun u m' ah=>J.le ah/\m'=[]/\((pk r=true/\∃v1 v2,u=.tuple #[di r v1 v2,.int .i64 0]/\hz ah r v1 v2)\/(pk r=false/\u=.tuple #[K3,.int .i64 5]))
section
variable {K:dW}{B:dN}{o:Oper}{n:Nat}{ds:er}{l:List (Nat×Value)}{m:aJ}{J:ai}
def az7{x:Operand}{xt t:TypeId}{v:Value}(al:o.op=.typeAssert x xt t true)(U:bS l x=some (.iface t v))(aA:CP K.P t=true):dr K B o n ds l m J (.tuple #[v,.bool true]):=by
 intro call aO S H au aD;unfold cA fi;simp only[al];show C5 K.P _ t true (a5 S.T H x)=_;rw[dw au H U];show hH (EH K.P (.iface t v) t true) _=_;have:EH K.P (.iface t v) t true=some (.tuple #[v,.bool true]):=by
  unfold CP at aA;unfold EH;cases hu:K.P.underlying t with
  |none=>rw[hu] at aA;cases aA
  |some u=>
   rw[hu] at aA;cases u<;>first
       |(cases aA;done)
       |(simp only[ix,cd])
 rw[this];rfl
end
def tm.mono{K:dW}{f:FuncId}{args:List Value}{bg:FrameMode}{a1:aJ}{J:ai}{P D4:FrameMode->aJ->ai->Prop}(h:tm K f args bg a1 J P)(ap:∀u m ah,P u m ah->D4 u m ah):tm K f args bg a1 J D4:=fun H aD=>by
 obtain⟨v,hl,H',ah,m',ae,ag,aE⟩:=h H aD;exact⟨v,hl,H',ah,m',ae,ag,ap _ _ _ aE⟩
abbrev R2(e:Int):Value:=.iface 107 (.agg #[.int .i64 e])
section
variable {Q:da Tryz.prog}{g0:Nat}{J:ai}
def avh{r:a2}{v1 v2:Value}(ar:gk J r v1 v2)(fr:h9 30000 r)(h6:r.d≠0):Fn (aU Q g0) 32 [di r v1 v2] [] J (Qk J r):=by
 have dL:=ar;obtain⟨bc,bH,bb,rfl,aN,iz,nt⟩:=ar.n.bz;obtain⟨bl,c2,bt,rfl,aH,kc,nu⟩:=ar.d.bz;refine Fn.b9 (b1 Tryz.func32) I I fun H=>?_;refine rg ?_;refine fq fun ba=>?_;refine eu fun br=>?_;refine af 0x5e702 ?_;refine cl (G:=axx dL fr h6) (h:=?_);rintro v' m' bj a8 ⟨_,rfl,b3⟩;obtain⟨f,ay⟩:∃f,pk r=f:=⟨_,I⟩;rw[ay] at b3;obtain⟨x,b0,fb,cE,dp,gf,eA,rfl,bo,db,dU⟩:∃(x:Bool) (b:Option Addr) (n c:Nat) (b':Option Addr) (kM c':Nat),v'=.tuple #[.agg #[.bool x,.slice b n c,.slice b' kM c'],.bool f]/\addrEq b b=true/\addrEq b' b'=true/\(f=true->x=decide (r.z<0)/\hz bj r (.slice b n c) (.slice b' kM c')):=by{rcases b3 with⟨h,v1,v2,rfl,ag⟩|⟨h,rfl⟩;{obtain⟨b,c,rfl,q⟩:=ag.n.ch;obtain⟨b',c',rfl,dE⟩:=ag.d.ch;exact⟨_,b,_,c,b',_,c',by rw[h],q,dE,fun _=>⟨I,ag⟩⟩};{exact⟨false,none,0,0,none,0,0,by rw[h],I,I,fun k=>by rw[h] at k;cases k⟩}}
 refine af 0x1ce1 ?_;refine eu fun cD=>?_;refine af 0x605c ?_;refine fc [5,2,4] ?_;refine bp ?_;refine' aK.hp 1 [(12,.bool (decide ((f=false))))] ?u2 ?u5;case u2=>
  refine af 0xc443a ?_;refine ho (hC ?_);cases f<;>simp
 case u5=>
  refine bp ?_;refine If (fun ms=>?_) fun ms=>?_
  ·refine af 0x6af817219 ?_;refine b4 ?_
   exact⟨a8,I,.inr ⟨ay.trans ms,I⟩⟩
  ·refine af 0x1abe05c5e757 ?_;refine b4 ?_
   have k:f=true:=by cases f;exact absurd I ms;rfl
   obtain⟨rfl,aT⟩:=dU k;exact⟨a8,I,.inl ⟨ay.trans k,_,_,I,aT⟩⟩
def Zf{cN:Nat}:Fn (aU Q g0) 22 [.nilIface,.pointer (some ⟨cN,0,none⟩)] [] J (fun u m' ah=>m'=[]/\J=ah):=by
 refine Fn.b9 (b1 Tryz.func22) I I fun H=>?_;refine af 0x39 ?_;refine' W.step I (Exec.val I I (ag5 I I ?az (acQ Q g0)) ?_);case az=>rfl
 refine ns ?_;refine If (fun eY=>?_) fun eY=>?_
 ·refine af 0x357 ?_;refine b4 ?_;exact⟨I,I⟩
 ·exfalso;cases eY
def akJ{cN:Nat}{e:Int}{y:Value}:Fn (aU Q g0) 22 [R2 e,.pointer (some ⟨cN,0,none⟩)] [(cN,.row [y] 41)] J (fun u m' ah=>m'=[(cN,.row [.int .i64 e] 41)]/\J=ah):=by
 refine Fn.b9 (b1 Tryz.func22) I I fun H=>?_;refine af 0x39 ?_;refine' W.step I (Exec.val I I (ag5 I I ?az (acQ Q g0)) ?_);case az=>rfl
 refine ns ?_;refine If (fun eY=>?_) fun eY=>?_
 ·exfalso;cases eY
 ·refine af 0x1ce3960e757 ?_;refine' W.step I (Exec.val I I (az7 I I (agz I)) ?_);refine af 0x1ce1 ?_;refine eu fun cD=>?_;refine af 0x5f01ce05c ?_;refine If (fun gh=>?_) fun gh=>?_
  ·refine af 0x639653439 ?_;refine'⟨.inl I,I,_,_,.nil,.cons _ (.refl _),⟨I,I⟩⟩
  ·exfalso;cases gh
def FI{cN:Nat}{ys:List Value}:tm (aU Q g0) 28 [.pointer (some ⟨cN,0,none⟩)] .returning [(cN,.row ys 41)] J (fun u m' ah=>u=.returning/\m'=[(cN,.row ys 41)]/\J=ah):=by
 refine tm.b9 (b1 Tryz.func28) I I fun H=>?_;refine rg ?_;refine' W.recover I I I I I I I ?_;refine cl (G:=Zf) (h:=?_);rintro v' m' ah hle ⟨rfl,rfl⟩;refine nh ?_;exact⟨by exact .inl I,I,[],_,.nil,.refl _,I,I,I⟩
def atV{cN:Nat}{e:Int}{y:Value}:tm (aU Q g0) 28 [.pointer (some ⟨cN,0,none⟩)] (.panicking [{v:=R2 e,recovered:=false}]) [(cN,.row [y] 41)] J (fun u m' ah=>settle u=.returning/\m'=[(cN,.row [.int .i64 e] 41)]/\J=ah):=by
 refine tm.b9 (b1 Tryz.func28) I I fun H=>?_;refine rg ?_;refine' W.recover I I I I I I I ?_;refine' W.step I (Exec.call I I I I I I I (a1:=[(cN,.row [y] 41)]) (cB:=[]) (.refl _) trivial (akJ) ?_);rintro v' m' ah hle ⟨rfl,rfl⟩;refine nh ?_;exact⟨by exact .inl I,I,[],_,.nil,.refl _,I,I,I⟩
def nD (m:List (List bO)):Int:=if 200<m.length then 4 else sx m7 m
def awS{m:List (List bO)}(h:200<m.length):nD m=4:=aP h
def awT{m:List (List bO)}(h:¬200<m.length):nD m=sx m7 m:=aG h
def ae4{m:List (List bO)}(h:nD m=0):m.length<=200/\∀l∈m,m7 l=0:=by
 unfold nD at h;split at h
 ·cases h
 ·exact⟨aa,aak h⟩
abbrev DI(J:ai)(l:List bO)(v:Value):Prop:=∃b c,v=.slice b l.length c/\dz J 85 3 (jN J) (.slice b l.length c) ((iq l).map fun p:Nat=>a4 (p:Int) (fF l))
def DI.mono{J ah:ai}(hle:J.le ah){l:List bO}{v:Value}(h:DI J l v):DI ah l v:=by
 obtain⟨b,c,ae,ag⟩:=h;exact⟨b,c,ae,dz.mono (R':=jN ah) hle (fun _ _ q=>q.mono hle) ag⟩
abbrev Xz(J:ai)(b:Option Addr)(n c:Nat)(m:List (List bO)):Prop:=dz J 74 1 (e8 (DI J)) (.slice b n c) m
def aeU{α:Type}{l a b:α}{aS:List α}:(l::b::(aS++[a])).Perm (aS++[a,l,b]):=by
 have ae:(aS++[a,l,b]).Perm ([l,b,a]++aS):=(ia).trans (aik aS (ia (l₁:=[a]) (l₂:=[l,b])));have ag:([l,b]++(aS++[a])).Perm ([l,b]++([a]++aS)):=zT _ ia;exact ag.trans ae.symm
def afq{m:List (List bO)}{b:Option Addr}{c:Nat}{aV:TypeId}(cq:J 2=some (cc .u8 m8,aV))(aB:Nat.blt 2 (aU Q g0).g0=true)(h:pb J b m.length c m)(rK:m.length<=1000)(qQ:∀l∈m,l.length<=1000)(hg:∀l∈m,Bd l):
 mO (aU Q g0) 23 [.slice b m.length c] [] J (fun u m' ah=>J.le ah/\m'=[]/\nD m=0/\∃b' c',u=.slice b' m.length c'/\Xz ah b' m.length c' m) (Yh J (nD m)):=by
 have aH:addrEq b b=true:=h.addr;have eg:=h.eg;refine mO.OD (b1 Tryz.func23) I I fun H=>?_;refine af 0x17c10a1ce059 ?_;refine If (fun eY=>?_) fun eY=>?_
 ·have he:=awS (m:=m) aa;refine af 0x4e19 ?_;refine' W.panic I I I ?_;exact⟨_,_,I,.nil _,.inr ⟨_,[],I,kt _,I,ai.le.refl _,by rw[he];decide,by rw[he]⟩⟩
 ·have he:=awT (m:=m) aa;refine JP ?_;refine eu fun bG=>?_;refine af 0x738 ?_;refine cl (G:=ax3 aH) (h:=?_);rintro v' m' bj hle ⟨l1,rfl,rfl,rfl⟩;refine af 0xbeaf8 ?_;refine aK.V9 I I (fun ja bK r ar=>?_);refine⟨(l1,_)::[(bK,_),(bG,_)],[(ja,_)],_,_,(hR 2 I (hR 0 I (hR 1 I (hR 0 I .nil)))),trivial,ax2 (fX:=fun bx m' ah=>m'=[]/\nD m≠0/\bx=[{v:=R2 (nD m),recovered:=false}]) (pM:=fun i=>Qh (MF ar) bK (fun m2 ah=>∃w aS d,m2=(bG,.row [w] 72)::aS/\dY 74 1 w i d aS/\et 1 (fun _=>e8 (DI ah)) d (m.take i)/\∀y∈m.take i,m7 y=0)) (wB:=fun _ _=>False) aa eg ⟨_,_,ar,I,_,[],[],I,.inl ⟨.nil,xZ,xA⟩,⟨I,fun i x U=>by cases U⟩,fun y an=>by cases an⟩ ?kD,(fun bx m' bj a8 q=>by
   obtain⟨_,rfl,aH,rfl⟩:=q;exact⟨_,[],I,.Er (.refl _) (.nil _),.inr ⟨_,[],I,kt _,I,a8,aH,I⟩⟩),?pV⟩
  case kD=>
   rintro i v m2 cv hi ⟨l,aj,bc,bb,rfl,bi⟩ cr ⟨dc,uh,pS,rfl,w,aS,d,rfl,nS,fj,cG⟩;have bi:=dz.mono (R':=n3 cv) cr (fun _ _ q=>q.mono cr) bi;have aN:addrEq bc bc=true:=bi.addr;obtain⟨iy,gm,rfl,o4⟩:=nS.kC;refine uU.VC pS (by repeat first|exact .head _|refine j7 _ ?_) I I (fun H=>?_);refine af 0x6059 ?_;refine⟨I,_,(by repeat first|exact .head _ _ _ _|apply fY.app),?_⟩;refine af 0x5f57 ?_;refine aK.amD I (by kernel_rfl) (a0:=[.val 0,.val 1,.bw 2,.iF 3,.b6 [0],.bw 4,.bw 5]) (by kernel_rfl) ?_;refine WP.val I V.adf ?_;refine WP.val I V.eC ?_;refine WP.Mg I I I I I I I I I I (a1:=[]) (cB:=_) (.refl _) (axE (cr _ _ cq) aB bi (qQ l (dq aj)) (hg l (dq aj))) ?_ ?_
   rotate_left 1
   ·rintro bx m' e3 cQ ⟨rfl,_,ak,rfl⟩;have jv:nD m=m7 l:=he.trans (MD cG aj ak);exact .inr ⟨_,[],I,I,kt _,I,by rw[jv];exact ak,by rw[jv]⟩
   rintro v' m' c3 bN ⟨_,rfl,qO,ev,dJ,rfl,MR⟩;have hS:addrEq ev ev=true:=MR.addr;have sO:et 1 (fun _=>e8 (DI c3)) (d++[.slice ev l.length dJ]) (m.take (i+1)):=by{rw[ly,aj];exact(fj.mono fun _ _ _ ⟨v,aN,aH⟩=>⟨v,aN,aH.mono bN⟩).app ⟨_,I,ev,dJ,I,MR⟩ I}
   refine WP.OC ?_;refine bX.buildSlice I I I I I I (ee I) I I I fun Yp=>?_;refine bX.b6 eN ?_;refine' bX.nP I I (v3 I I I I I I (ee I) (az5 Q g0) (fun i q=>by cases q) ?c1 ?hm ?U ?cH ?c7 ?aW ?aj fun aAI Oj E0=>?_);case c1=>exact nS
   case hm=>exact(ia (l₁:=[_,_,_]))
   case U=>exact lR
   case cH=>rfl
   case c7=>rfl
   case aW=>exact Nat.one_pos
   case aj=>exact(show i+1<=1000000 by omega)
   obtain⟨gH,eY,rfl⟩:=E0.tD;refine bX.nZ (m':=(bK,.loop {dc with state:=.busy})::(bG,.row [.slice iy i gm] 72)::(Oj++[(Yp,.row [.slice ev l.length dJ] 74)])) aeU.symm ?_;refine af 0x31c ?_;refine .inl ⟨none,_,_,(bK,_)::(bG,_)::Oj,I,(by repeat first|exact .head _ _ _ _|apply fY.app),(.cons_cons _ (.cons_cons _ (oB _ _))),?_⟩;exact⟨true,I,(fun _=>⟨_,_,pS.again,I,_,Oj,_,I,E0,sO,aez cG aj qO⟩),fun q=>by cases q⟩
  rintro v m' bj a8 ⟨_,⟨c9,uh,nn,rfl,w,aS,d,rfl,nS,fj,cG⟩|au⟩;case inr=>exact au.elim
  rw[ft (b2 _)] at fj cG;have rN:nD m=0:=he.trans (ME cG);refine⟨c9,(bK,_)::(bG,_)::(aS++[(ja,_)]),(by rw[Lm,Lm];exact .head _ _ _ _),(EL nn).1,?_⟩;rw[(EL nn).2];obtain⟨iy,gm,rfl⟩:=nS.tD;refine nS.k7 (e1:=[(ja,_),(bK,_),(bG,_)]) aeU (fun e3 cQ au=>?_);have eO:Xz e3 iy m.length gm m:=⟨⟨d,au,fun i x U=>by obtain⟨v,aX,aT⟩:=fj.2 i x U;exact⟨v,aX,aT.mono cQ⟩⟩⟩;refine af 0x357c0939 ?_;exact⟨_,_,I,.Er (.refl _) (.nil _),.inl ⟨I,_,[],.tmp I .nil,kt _,a8.trans cQ,I,rN,iy,gm,I,eO⟩⟩
end
open Classical
structure GR (ns:List dn) (a n:Nat):Prop where
 p8:∀j:Nat,a<j->j<n->∃p x,p<j/\ns[p]?=some x/\(j:Int)∈x.ao
 xq:∀(p:Nat) x c,a<=p->p<n->ns[p]?=some x->c∈x.ao->(p:Int)<c/\c<(n:Int)
def Mh{ns:List dn}{rec:Nat->Option (Nat×List iv)}(ar:∀m n e,rec m=some (n,e)->m<n/\GR ns m n):∀{cs:List Int} {m n:Nat} {e:List iv},hc rec cs m=some (n,e)->m<=n/\(∀j:Nat,m<=j->j<n->(j:Int)∈cs\/∃p x,p<j/\ns[p]?=some x/\(j:Int)∈x.ao)/\(∀(p:Nat) x c,m<=p->p<n->ns[p]?=some x->c∈x.ao->(p:Int)<c/\c<(n:Int))/\(∀c∈cs,(m:Int)<=c/\c<(n:Int)):=by
 intro cs;induction cs with
 |nil=>
  intro m n e h;simp only[hc,cb,c8] at h;obtain⟨rfl,rfl⟩:=h;exact⟨b2 _,fun j ae ag=>by omega,fun p x c ae ag=>by omega,fun c ax=>by cases ax⟩
 |cons c r aC=>
  intro m n e h
  have h:(if c≠(m:Int) then none else match rec m with
   |none=>none
   |some (bH,es)=>match hc rec r bH with
    |none=>none
    |some (c2,u9)=>some (c2,es++u9))=some (n,e):=h
  split at h
  ·cases h
  ·rename_i ax;have ax:c=(m:Int):=x4.1 ax;split at h
   ·cases h
   ·rename_i bH aF ae;obtain⟨ba,br⟩:=ar _ _ _ ae;split at h
    ·cases h
    ·rename_i c2 aV ag;simp only[cb,c8] at h;obtain⟨rfl,rfl⟩:=h;obtain⟨bc,bl,b0,dp⟩:=aC ag;refine⟨aa,fun j aN aH=>?_,fun p x d aN aH U av=>?_,fun d av=>?_⟩
     ·rcases ha j bH with q|q
      ·rcases uP aN with z|z
       ·subst z;exact .inl (by rw[ax];exact .head _)
       ·exact .inr (br.p8 j z q)
      ·rcases bl j q aH with z|z
       ·exact .inl (.tail _ z)
       ·exact .inr z
     ·rcases ha p bH with q|q
      ·have:=br.xq p x d aN q U av;omega
      ·exact b0 p x d q aH U av
     ·rcases fs.1 av with q|q
      ·omega
      ·have:=dp d q;omega
def Pu{ns:List dn}:∀(f:Nat) (p d:Int) (a n:Nat) (e:List iv),gq ns f p d a=some (n,e)->a<n/\GR ns a n:=by
 intro f;induction f with
 |zero=>intro p d a n e h;cases h
 |succ f aC=>
  intro p d a n e h;unfold gq at h;split at h
  ·cases h
  ·rename_i x U;split at h
   ·cases h
   ·rename_i c2 es ag;simp only[cb,c8] at h;obtain⟨rfl,rfl⟩:=h;obtain⟨bc,bl,b0,dp⟩:=Mh (ns:=ns) (fun m n e q=>aC _ _ m n e q) ag;refine⟨aa,fun j aN aH=>?_,fun q y c aN aH an ax=>?_⟩
    ·rcases bl j aN aH with z|z
     ·exact⟨a,x,aN,U,z⟩
     ·exact z
    ·rcases uP aN with z|z
     ·subst z;rw[U] at an;injection an with an;subst an
      have:=dp c ax;omega
     ·exact b0 q y c z aH an ax
def kS.zd{g:cM}(h:kS g):GR g.ns 0 g.ns.length:=by
 obtain⟨es,ae,_⟩:=h.walk;exact(Pu _ _ _ _ _ _ ae).2
def xB{g:cM}{x:dn}(h:g1 g x=0):(x.k=1/\1<=x.ao.length/\x.ao.length<=60)\/(x.k=2/\1<=x.ao.length/\x.ao.length<=60/\0<=x.p/\x.p<g.pl/\0<=x.i/\x.i<g.is.length)\/(x.k=3/\x.ao=[]/\(x.im.length:Int)=g.pl/\∀w∈x.im,-1000000<=w/\w<=1000000):=by
 unfold g1 at h;split at h
 ·rename_i hk;split at h
  ·omega
  ·left;omega
 ·split at h
  ·rename_i hk;split at h
   ·omega
   ·split at h
    ·omega
    ·right;left;omega
  ·split at h
   ·rename_i hk;split at h
    ·omega
    ·split at h
     ·omega
     ·rename_i ae ag;right;right
      refine⟨hk,mQ aa,aa,fun w hw=>?_⟩;have:¬(w< -1000000\/1000000<w):=fun q=>ag ⟨w,hw,q⟩;omega
   ·omega
def kS.last{g:cM}(h:kS g):∃x,g.ns[g.ns.length -1]?=some x/\x.k=3:=by
 have ae:=h.bH;have U:g.ns[g.ns.length -1]?=some (g.ns[g.ns.length -1]'aa):=cU aa;refine⟨_,U,?_⟩;have aA:=xB (h.nodes _ (dq U));have hk:∀c∈(g.ns[g.ns.length -1]'aa).ao,False:=fun c ax=>by
  have:=h.zd.xq _ _ c (c6 _) aa U ax;omega
 rcases aA with q|q|q
 ·obtain⟨c,ax⟩:=ain (l:=(g.ns[g.ns.length -1]'aa).ao) aa;exact(hk c ax).elim
 ·obtain⟨c,ax⟩:=ain (l:=(g.ns[g.ns.length -1]'aa).ao) aa;exact(hk c ax).elim
 ·exact q.1
structure Bx where
 ab:List a2
 fS:a2
 hi:Int
 lo:Int
def nC(a b:a2):a2:=a4 (a.z*b.d+b.z*a.d) (a.d*b.d)
def ve(a b:a2):Prop:=b.z*a.d<a.z*b.d
def nE(ab:List a2)(b:a2)(ao:List Int):List a2:=ao.foldl (fun l c=>l.set c.toNat b) ab
def atR(ab:List a2)(i:Nat):a2:=(ab[i]?).getD ⟨0,1⟩
def pO (b5:Nat->a2)(pl:Int)(x:dn)(a:a2):a2:=if x.k=2/\x.p=pl then nC a (b5 x.i.toNat) else a
def iU(x:dn)(pl:Int):Int:=(x.im[pl.toNat]?).getD 0
def te (b5:Nat->a2)(pl:Int)(i:Nat)(x:dn)(s:Bx):Bx:=
 ⟨nE s.ab (pO b5 pl x (atR s.ab i)) x.ao,if x.k=3/\ve (atR s.ab i) s.fS then atR s.ab i else s.fS,if x.k=3 then max s.hi (iU x pl) else s.hi,if x.k=3 then min s.lo (iU x pl) else s.lo⟩
def iN (b5:Nat->a2)(pl:Int)(ns:List dn):Nat->Bx
 |0=>⟨List.replicate ns.length ⟨0,1⟩,⟨0,1⟩,-1000000,1000000⟩
 |i+1=>match ns[i]? with
  |none=>iN b5 pl ns i
  |some x=>te b5 pl i x (iN b5 pl ns i)
def KD{b5:Nat->a2}{pl:Int}{ns:List dn}{i:Nat}{x:dn}(U:ns[i]?=some x):iN b5 pl ns (i+1)=te b5 pl i x (iN b5 pl ns i):=by
 show(match ns[i]? with|none=>iN b5 pl ns i|some x=>te b5 pl i x (iN b5 pl ns i))=_
 rw[U]
def aza{b5:Nat->a2}{pl:Int}{i:Nat}{x:dn}{A:List a2}{fS:a2}{hG ey:Int}(hk:x.k=3)(aB:ve (atR A i) fS):te b5 pl i x ⟨A,fS,hG,ey⟩=⟨nE A (atR A i) x.ao,atR A i,max hG (iU x pl),min ey (iU x pl)⟩:=by
 unfold te pO;rw[aG (fun q=>by omega),aP ⟨hk,aB⟩,aP hk,aP hk]
def azb{b5:Nat->a2}{pl:Int}{i:Nat}{x:dn}{A:List a2}{fS:a2}{hG ey:Int}(hk:x.k=3)(aB:¬ve (atR A i) fS):te b5 pl i x ⟨A,fS,hG,ey⟩=⟨nE A (atR A i) x.ao,fS,max hG (iU x pl),min ey (iU x pl)⟩:=by
 unfold te pO;rw[aG (fun q=>by omega),aG (fun q=>aB q.2),aP hk,aP hk]
def azc{b5:Nat->a2}{pl:Int}{i:Nat}{x:dn}{A:List a2}{fS:a2}{hG ey:Int}(hk:x.k=2)(ap:x.p=pl):te b5 pl i x ⟨A,fS,hG,ey⟩=⟨nE A (nC (atR A i) (b5 x.i.toNat)) x.ao,fS,hG,ey⟩:=by
 unfold te pO;rw[aP ⟨hk,ap⟩,aG (fun q=>by omega),aG aa,aG aa]
def agr{b5:Nat->a2}{pl:Int}{i:Nat}{x:dn}{A:List a2}{fS:a2}{hG ey:Int}(hk:¬x.k=3)(ap:¬(x.k=2/\x.p=pl)):te b5 pl i x ⟨A,fS,hG,ey⟩=⟨nE A (atR A i) x.ao,fS,hG,ey⟩:=by
 unfold te pO;rw[aG ap,aG (fun q=>hk q.1),aG hk,aG hk]
def ajO{b5:Nat->a2}{pl:Int}{x:dn}{a:a2}(hk:x.k=2/\x.p=pl):pO b5 pl x a=nC a (b5 x.i.toNat):=aP hk
def ajN{b5:Nat->a2}{pl:Int}{x:dn}{a:a2}(hk:¬(x.k=2/\x.p=pl)):pO b5 pl x a=a:=aG hk
def OU{b:a2}:∀{ao:List Int} {ab:List a2},(nE ab b ao).length=ab.length:=by
 intro ao;induction ao with
 |nil=>intro ab;rfl
 |cons c r aC=>intro ab;show(nE (ab.set c.toNat b) b r).length=_;rw[aC,hy]
def axa{b:a2}{ab:List a2}{ao:List Int}{k:Nat}{c:Int}(h:ao[k]?=some c):nE ab b (ao.take (k+1))=(nE ab b (ao.take k)).set c.toNat b:=by
 rw[ly,h];unfold nE;rw[List.foldl_append];rfl
def aw9{b:a2}:∀{ao:List Int} {ab:List a2} {j:Nat},(∀c∈ao,0<=c)->j<ab.length->(nE ab b ao)[j]?=if(j:Int)∈ao then some b else ab[j]?:=by
 intro ao;induction ao with
 |nil=>intro ab j _ _;rw[aG (fun h=>by cases h)];rfl
 |cons c r aC=>
  intro ab j h aW;show(nE (ab.set c.toNat b) b r)[j]?=_;rw[aC (fun d av=>h d (.tail _ av)) (by rw[hy];exact aW)];have ax:=h c (.head _);by_cases q:(j:Int)∈r
  ·rw[aP q,aP (.tail _ q)]
  ·rw[aG q];by_cases aH:c.toNat=j
   ·rw[aP (by rw[show(j:Int)=c by omega];exact .head _),aH,GW aW]
   ·rw[GV aH,aG (fun z=>by rcases fs.1 z with z|z;omega;exact q z)]
def aw'{b r:a2}:∀{ao:List Int} {ab:List a2},r∈nE ab b ao->r∈ab\/r=b:=by
 intro ao;induction ao with
 |nil=>intro ab h;exact .inl h
 |cons c l aC=>
  intro ab h;rcases aC (ab:=ab.set c.toNat b) h with q|q
  ·rcases Lp q with z|z
   ·exact .inl z
   ·exact .inr z
  ·exact .inr q
def LV{ab:List a2}{i:Nat}(h:i<ab.length):ab[i]?=some (atR ab i):=by
 unfold atR;rw[cU h];rfl
def se:Nat:=144403552893600*128
def Vw{z:Int}{d:Nat}:(a4 z d).d ∣ d:=Nat.div_dvd_of_dvd (uR _ _)
def awN{a b:a2}(aI:a.d ∣ se)(ak:b.d ∣ se)(awg:0<a.d)(awp:0<b.d):(nC a b).d ∣ se:=by
 obtain⟨u,hu⟩:=aI;obtain⟨v,az⟩:=ak;have e:nC a b=a4 (a.z*u+b.z*v) se:=by
  refine(AT (ib awg awp) (show 0<se by decide)).2 ?_;have hu:(se:Int)=a.d*u:=by rw[hu];exact iX _ _
  have az:(se:Int)=b.d*v:=by rw[az];exact iX _ _
  rw[iX,DJ,DJ];have aF:a.z*(b.d:Int)*se=a.z*u*((a.d:Int)*b.d):=by rw[hu];ac_rfl
  have aV:b.z*(a.d:Int)*se=b.z*v*((a.d:Int)*b.d):=by rw[az];ac_rfl
  rw[aF,aV]
 rw[e];exact Vw
structure jB (k:Nat) (r:a2):Prop where
 bu:r.g9
 nA:0<=r.z
 n:(aq r.z.natAbs).length<=k
 d:(aq r.d).length<=k
 l:r.d ∣ se
def jB.mono{k j:Nat}{r:a2}(h:jB k r)(hk:k<=j):jB j r:=⟨h.bu,h.nA,dT h.n hk,dT h.d hk,h.l⟩
def QN{k:Nat}(hk:1<=k):jB k ⟨0,1⟩:=⟨⟨by decide,by decide⟩,Lc _,by show(aq 0).length<=k;rw[m1];exact c6 _,dT (kK (x:=1) (k:=1) bI) hk,Nat.one_dvd _⟩
def QM{k n d:Nat}(av:0<d)(ae:(aq n).length<=k)(ag:(aq d).length<=k)(aj:(a4 (n:Int) d).d ∣ se):jB k (a4 (n:Int) d):=by
 have aE:=FZ (z:=(n:Int)) av;rw[gR] at aE;refine⟨k4 av,?_,dT (p2 aE.1) ae,dT (p2 aE.2) ag,aj⟩;have:=(Oz (z:=(n:Int)) av).2.1;rcases wg (a4 (n:Int) d).z 0 with q|q
 ·have:=this.1 q;omega
 ·exact q
def jB.plus{k j:Nat}{a b:a2}(aI:jB k a)(ak:jB j b):jB (k+j+1) (nC a b):=by
 obtain⟨x,U⟩:∃x:Nat,a.z=x:=⟨a.z.toNat,by have:=aI.nA;omega⟩;obtain⟨y,an⟩:∃y:Nat,b.z=y:=⟨b.z.toNat,by have:=ak.nA;omega⟩;have ae:=aI.n;have ag:=ak.n;have aE:=aI.d;have a6:=ak.d;have dK:=awN aI.l ak.l aI.bu.1 ak.bu.1;rw[U,gR] at ae;rw[an,gR] at ag;unfold nC at dK ⊢;rw[U,an,<-iX,<-iX,<-wh] at dK ⊢;exact QM (ib aI.bu.1 ak.bu.1) (N9 (oZ ae a6) (dT (oZ ag aE) (G7 (G3 _ _)))) (dT (oZ aE a6) (Nat.le_succ _)) dK
structure X4 (n i:Nat) (s:Bx):Prop where
 l:s.ab.length=n
 ab:∀r∈s.ab,jB (11*i+1) r
 fS:jB (11*i+1) s.fS
 hi:-1000000<=s.hi/\s.hi<=1000000
 lo:-1000000<=s.lo/\s.lo<=1000000
def LX{n i j:Nat}{s:Bx}(h:X4 n i s)(aW:j<n):jB (11*i+1) (atR s.ab j):=h.ab _ (dq (LV (by rw[h.l];exact aW)))
def ajP{b5:Nat->a2}{pl:Int}{x:dn}{a:a2}{i:Nat}(oP:∀s,jB 9 (b5 s))(aI:jB (11*i+1) a):jB (11*i+12) (pO b5 pl x a):=by
 unfold pO;split
 ·exact(aI.plus (oP _)).mono aa
 ·exact aI.mono aa
def ON{g:cM}{x:dn}{pl:Int}(h:g1 g x=0)(hk:x.k=3)(aQ:0<=pl)(ae:pl<g.pl):x.im[pl.toNat]?=some (iU x pl)/\-1000000<=iU x pl/\iU x pl<=1000000:=by
 rcases xB h with q|q|⟨_,_,bo,db⟩
 ·omega
 ·omega
 ·have aj:pl.toNat<x.im.length:=aa;have e:x.im[pl.toNat]?=some (iU x pl):=by unfold iU;rw[cU aj];rfl
  exact⟨e,db _ (dq e)⟩
def Df{g:cM}{b5:Nat->a2}{pl:Int}(h:kS g)(oP:∀s,jB 9 (b5 s))(aQ:0<=pl)(ae:pl<g.pl):∀i,i<=g.ns.length->X4 g.ns.length i (iN b5 pl g.ns i):=by
 intro i;induction i with
 |zero=>intro _;exact⟨kU,fun r ar=>by rw[DS ar];exact QN aa,QN aa,⟨by show(-1000000:Int)<=-1000000;omega,by show(-1000000:Int)<=1000000;omega⟩,⟨by show(-1000000:Int)<=1000000;omega,by show(1000000:Int)<=1000000;omega⟩⟩
 |succ i aC=>
  intro hi;have k:=aC aa;have U:g.ns[i]?=some (g.ns[i]'aa):=cU aa;have aA:=h.nodes _ (dq U);rw[KD U];have ac2:=LX k (j:=i) aa;refine⟨by show(nE _ _ _).length=_;rw[OU];exact k.l,fun r ar=>?_,?_,?_,?_⟩
  ·rcases aw' ar with q|q
   ·exact(k.ab r q).mono aa
   ·rw[q];exact ajP oP ac2
  ·show jB _ (if _ then _ else _);split
   ·exact ac2.mono aa
   ·exact k.fS.mono aa
  ·have ati:=k.hi;show _<=(if _ then _ else _)/\(if _ then _ else _)<=_;split
   ·rename_i hk;have:=ON aA hk aQ ae;rw[Int.max_def];split<;>omega
   ·exact ati
  ·have kl:=k.lo;show _<=(if _ then _ else _)/\(if _ then _ else _)<=_;split
   ·rename_i hk;have:=ON aA hk aQ ae;rw[Int.min_def];split<;>omega
   ·exact kl
def Ww{g:cM}{b5:Nat->a2}{pl:Int}(h:kS g):(iN b5 pl g.ns g.ns.length).lo<=(iN b5 pl g.ns g.ns.length).hi:=by
 obtain⟨x,U,hk⟩:=h.last;have ae:=h.bH;have e:iN b5 pl g.ns g.ns.length=iN b5 pl g.ns (g.ns.length -1+1):=by rw[Ly ae]
 rw[e,KD U];show(if x.k=3 then min _ _ else _)<=(if x.k=3 then max _ _ else _);rw[aP hk,aP hk];omega
def lk (m:List (List bO))(ts:List (List Int))(M:Nat)(s:Nat):a2:=match m[s]?,ts[s]? with
 |some l,some t=>a4 (hI (fF l) M (iq l) (t.map Int.toNat):Int) (fF l*M*2)
 |_,_=>⟨0,1⟩
def Pp:∀{l:List Int} {M:Nat},xQ M l->(((l.map Int.toNat).sum:Nat):Int)=l.sum:=by
 intro l;induction l with
 |nil=>intro M _;rfl
 |cons a l aC=>
  intro M h;have ae:=h a (.head _);rw[tp,lg,lg,wh,aC (M:=M) fun s hs=>h s (.tail _ hs)];omega
def ajz{m:List (List bO)}{ts:List (List Int)}{M:Nat}(hm:∀l∈m,m7 l=0)(hs:∀l∈m,(aq (fF l)).length<=3)(aM:∀t∈ts,mJ M t=0)(ih:M<=1073741824)(yG:0<M)(av:∀l∈m,∀t∈ts,(a4 (hI (fF l) M (iq l) (t.map Int.toNat):Int) (fF l*M*2)).d ∣ se)(s:Nat):jB 9 (lk m ts M s):=by
 unfold lk;split
 ·rename_i l t ae ag;have ik:=hm l (dq ae);have aX:=hs l (dq ae);obtain⟨gj,g2,iB,o8⟩:=tc ik;obtain⟨eH,eQ,ml,Dz⟩:=A8 (aM t (dq ag));have GG:(t.map Int.toNat).sum=M:=by have:=Pp ml;omega
  have atb:(aq M).length<=4:=kK (k:=4) (jg ih bI);have aT:(aq (fF l*M)).length<=3+4:=oZ aX atb;have bd:(aq (fF l*M*2)).length<=3+4+1:=oZ aT (kK bI);have cm:=WZ (sa:=fF l) (dG:=M) (ps:=iq l) (dd:=t.map Int.toNat);rw[o8,GG,hn M,<-Nat.mul_two] at cm;exact QM (ib (ib (ry iB) yG) bI) (dT (p2 cm) aa) aa (av l (dq ae) t (dq ag))
 ·exact QN bI
def KJ(g:cM)(m:List (List bO))(ts:List (List Int)):Prop:=∀(i:Nat) x,g.is[i]?=some x->∃l t,m[i]?=some l/\ts[i]?=some t/\(l.length:Int)=x.2/\(t.length:Int)=x.2
def azY{g:cM}{m:List (List bO)}{ts:List (List Int)}{i:Nat}{x:Int×Int}{l:List bO}{t:List Int}(U:g.is[i]?=some x)(aj:m[i]?=some l)(aM:ts[i]?=some t)(h:¬((l.length:Int)=x.2/\(t.length:Int)=x.2)):¬KJ g m ts:=fun q=>by
 obtain⟨a9,j0,ae,ag,aE⟩:=q i x U;rw[aj] at ae;rw[aM] at ag;injection ae with ae;injection ag with ag
 subst ae;subst ag;exact h aE
def ug (b5:Nat->a2)(pl:Int)(g:cM):a2:=a4 ((iN b5 pl g.ns g.ns.length).fS.z*((iN b5 pl g.ns g.ns.length).hi -(iN b5 pl g.ns g.ns.length).lo)) ((iN b5 pl g.ns g.ns.length).fS.d*1)
def ads{g:cM}{b5:Nat->a2}{pl:Int}(h:kS g)(oP:∀s,jB 9 (b5 s))(aQ:0<=pl)(ae:pl<g.pl)(aA:g.ns.length<=60):jB 700 (ug b5 pl g):=by
 have k:=Df h oP aQ ae g.ns.length (b2 _);have aT:=Ww (b5:=b5) (pl:=pl) h;unfold ug;generalize iN b5 pl g.ns g.ns.length=S at k aT;obtain⟨x,U⟩:∃x:Nat,S.fS.z=x:=⟨S.fS.z.toNat,by have:=k.fS.nA;omega⟩;obtain⟨y,an⟩:∃y:Nat,S.hi -S.lo=y:=⟨(S.hi -S.lo).toNat,aa⟩;have bd:=k.fS.n;have cm:=k.hi;have fz:=k.lo;rw[U,gR] at bd;have kh:(aq y).length<=4:=kK (k:=4) (jg (show y<=2000000 by omega) bI);rw[U,an,<-iX,jr];exact QM k.fS.bu.1 (dT (oZ bd kh) aa) (dT k.fS.d aa) (DX Vw k.fS.l)
end
end Go.Opn
