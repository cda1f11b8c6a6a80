/- A part of the proof of TableMetric. -/
import Derived.Test.YtmmfodofkbmfnaaGreatDoorCbd
import Derived.Test.YtmmfodofkbmfnaaGreatDoorCar
set_option maxRecDepth 100000
set_option maxHeartbeats 8000000
set_option linter.unusedVariables false
set_option linter.unusedSimpArgs false
namespace Go.Opn
noncomputable section
open Go.Cre Go.RowKit Go.Proofs
def MJ(x:Nat):Nat->List Nat
 |0=>[0]
 |_+1=>[x]
abbrev Df(J:an)(x:Nat):Value->aU->an->Prop:=fun u m' ai=>J.le ai/\m'=[]/\∃w,u=.tuple #[w,.bool true]/\dE ai w x
section
variable {Q:eF Tryz.prog}{g0:Nat}{J:an}
theorem aac{v:Value}(h:cn J v 0):Fn (aS Q g0) 93 [v] [] J (fun u m' ai=>J=ai/\m'=[]/\∃b c,u=.slice b 0 c/\addrEq b b=true):=by
 have a2:=h;obtain⟨b,n,c,rfl,nK,aE,ap⟩:=h.bN;obtain rfl:=aE.sA rfl;obtain⟨h7,y1⟩:=a2;refine Fn.cH (cK Tryz.func93) rfl rfl fun H=>?_;refine rg ?_;refine I V.aI ?_;refine bg ?_;refine I V.aT ?_;refine I V.GQ ?_;refine aJ ?_;refine If (fun eg=>?_) fun eg=>?_
 ·refine rg ?_;refine I V.aI ?_;refine aJ ?_;refine ad.ret ?_;refine'⟨.inr rfl,rfl,_,[],.tmp rfl .nil,b1 _,?_⟩;first
   |(have c:=eg
     first
         |exact⟨rfl,rfl,AP,A1,rfl,GI⟩
         |exact⟨rfl,rfl,none,0,rfl,rfl⟩)
 ·refine aM ?_;refine ad.skip ?_;refine rg ?_;refine jA (jQ Q g0) fun cO=>?_;refine I V.aT ?_;refine' W.step rfl (.of (rr rfl rfl rfl rfl rfl rfl (jQ Q g0) (G9 Q g0) (fun i q=>by cases q) ?ez ?hm ?j ?dQ ?dV ?aw fun l9 VZ EL FQ=>?_));case ez=>exact .hy _
  case hm=>exact .refl _
  case j=>exact y1.rd
  case dQ=>exact rfl
  case dV=>exact rfl
  case aw=>exact(show 0+0<=1000000 by decide)
  obtain⟨AP,A1,rfl,GI⟩:=EL.JB;refine I V.aI ?_;refine aJ ?_;refine ad.ret ?_;refine'⟨.inr rfl,rfl,_,[],.tmp rfl .nil,b1 _,?_⟩;first
   |(have c:=eg
     first
        |exact⟨rfl,rfl,AP,A1,rfl,GI⟩
        |exact⟨rfl,rfl,none,0,rfl,rfl⟩)
theorem Zi{v:Value}(h:cn J v 0):Fn (aS Q g0) 68 [v] [] J (Df J 0):=by
 have a2:=h;obtain⟨b,n,c,rfl,nK,aE,ap⟩:=h.bN;obtain rfl:=aE.sA rfl;refine Fn.cH (cK Tryz.func68) rfl rfl fun H=>?_;refine rg ?_;refine aH ?_;refine bg ?_;refine aH ?_;refine I V.bk ?_;refine aJ ?_;refine If (fun qm=>?_) fun qm=>?_
 ·exfalso;omega
 ·refine aM ?_;refine ad.skip ?_;refine rg ?_;refine I V.aT ?_;refine cm (G:=aac a2) (h:=?_);rintro v' m' ai hle ⟨rfl,rfl,AP,A1,rfl,GI⟩;refine I V.aI ?_;refine bg ?_;refine I V.aI ?_;refine aJ ?_;refine ad.block ?_;refine aM ?_;refine ad.F8 ?_;refine rg ?_;refine aH ?_;refine I V.bk ?_;refine aJ ?_;refine If (fun mn=>?_) fun mn=>?_
  ·exfalso;omega
  ·refine aM ?_;refine ad.exit ?_;refine rg ?_;refine aH ?_;refine bg ?_;refine I V.aT ?_;refine I V.bk ?_;refine I V.aT ?_;refine gP 51 (fun Em=>?_) fun Em=>?_
   ·exfalso;omega
   ·refine cz ?_;refine cz ?_;refine cz ?_;refine cz ?_;refine cz ?_;refine cz ?_;refine I V.bx ?_;refine aJ ?_;refine ad.rU rfl ?_;refine lf ?_;refine aH ?_;refine I V.bk ?_;refine aH ?_;refine aJ ?_;refine ad.ret ?_;refine'⟨.inr rfl,rfl,_,[],.tmp rfl (.tmp rfl .nil),b1 _,⟨an.le.refl _,rfl,_,rfl,by unfold dE;rw[ks];exact dx.nil⟩⟩
theorem Zj{v:Value}{x:Nat}(h:cn J v x)(gC:x≠0)(j:x<1000000000):Fn (aS Q g0) 68 [v] [] J (Df J x):=by
 have a2:=h;obtain⟨b,n,c,rfl,nK,aE,ap⟩:=h.bN;obtain rfl:=aE.cV gC;have h':x / 1000000000000000000=0:=o3 (by omega);have TY:x % 1000000000000000000=x:=qc (by omega);have y2:(x:Int).tmod 1000000000=(x:Int):=by
  rw[Int.tmod_eq_emod_of_nonneg (by omega)];omega
 have KY:IntKind.u64.wrap ((x:Int).tdiv 1000000000)=0:=by
  rw[show(x:Int).tdiv 1000000000=((x / 1000000000:Nat):Int) from rfl,o3 j];rfl
 have iK:aj x=[x]:=by rw[zm j];unfold iz;rw[a1 gC]
 refine Fn.cH (cK Tryz.func68) rfl rfl fun H=>?_;refine rg ?_;refine aH ?_;refine bg ?_;refine aH ?_;refine I V.bk ?_;refine aJ ?_;refine If (fun qm=>?_) fun qm=>?_
 ·exfalso;omega
 ·refine aM ?_;refine ad.skip ?_;refine rg ?_;refine I V.aT ?_;refine cm (G:=aad a2 gC) (h:=?_);rintro v' m' ai hle ⟨rfl,ac,wX,rfl,rfl⟩;refine I V.aI ?_;refine bg ?_;refine I V.aI ?_;refine aJ ?_;refine ad.block ?_;refine' ad.eZ (l':=[(4,.slice (some ⟨ac,0,none⟩) (1) cf),(5,(.slice none 0 0))]) ⟨?l8,?fu,trivial⟩ (cl _) ?_;case l8=>first|exact cu|exact ak some (ak (Value.int .u64) (by omega))|exact ak some (ak (Value.int .i64) (by omega))
  case fu=>first|exact cu|exact ak some (ak (Value.int .u64) (by omega))|exact ak some (ak (Value.int .i64) (by omega))
  refine aM ?_;refine' ad.hN (fun(cT:Nat×Value×aU×(List Nat))=>match cT with|(k,o,bq,cD)=>⟨[(4,.slice (some ⟨ac,0,none⟩) k cf),(5,o)],bq++[w1 .u64 92 ac (MJ x k) cD],J,k<=1/\(k=1->o=.slice none 0 0/\bq=[])/\(k=0->Acc 61 1 o 2 (cj .u32 [x,0]) bq),k⟩) ⟨1,.slice none 0 0,[],wX⟩ ?ag ?b2
  case ag=>exact⟨c9 _,fun _=>⟨rfl,rfl⟩,fun q=>absurd q (by decide)⟩
  case b2=>
   rintro⟨k,o,bq,cD⟩ hinv;try simp only at hinv
   obtain⟨hk,mE,pv⟩:=hinv;refine rg ?_;refine aH ?_;refine I V.bk ?_;refine aJ ?_;refine If (fun mn=>?_) fun mn=>?_
   ·obtain rfl:k=1:=by omega
    obtain⟨rfl,rfl⟩:=mE rfl;refine fJ ?_;refine aM ?_;refine ad.block ?_;refine rg ?_;refine I V.aI ?_;refine bg ?_;refine aH ?_;refine I V.bX ?_;refine I V.aI ?_;refine aJ ?_;refine ad.block ?_;refine' ad.eZ (l':=[(7,.int .i64 (((1):Int) -1)),(6,.int .u64 ((Cz x (1):Nat):Int)),(4,_),(5,_)]) ⟨?l9,?lx,rfl,rfl,trivial⟩ (cl _) ?_;case l9=>first|exact cu|exact ak some (ak (Value.int .u64) (by omega))|exact ak some (ak (Value.int .i64) (by omega))
    case lx=>first|exact cu|exact ak some (ak (Value.int .u64) (by omega))|exact ak some (ak (Value.int .i64) (by omega))
    refine aM ?_;refine' ad.hN (fun(cT:Nat×(List Nat))=>match cT with|(aa,cW)=>⟨[(7,.int .i64 ((aa:Int) -1)),(6,.int .u64 ((Cz x aa:Nat):Int))],[w1 .u64 92 ac (MJ x aa) cW],J,aa<=1,aa⟩) ⟨1,cD⟩ ?ag ?b2
    case ag=>exact c9 _
    case b2=>
     rintro⟨aa,cW⟩ hinv;try simp only at hinv
     have aX:=hinv;refine rg ?_;refine I V.aT ?_;refine I V.bk ?_;refine aJ ?_;refine If (fun qp=>?_) fun qp=>?_
     ·obtain rfl:aa=1:=by omega
      refine fJ ?_;refine aM ?_;refine ad.block ?_;refine rg ?_;refine aH ?_;refine I V.bw ?_;refine I V.cP ?_;refine cm (G:=I' (x:=x) (d:=1000000000000000000) (by omega) (by decide)) (h:=?_);rintro v' m' ai hle ⟨rfl,rfl,rfl⟩;rw[h',TY];refine aH ?_;refine I V.bw ?_;refine' W.step rfl (.of (Hm rfl rfl rfl rfl (lq rfl) rfl rfl rfl ?U ?ag ?a0 ?ao ?_));case ao=>exact .refl _
      case ag=>exact pP (l:=[x]) (x:=0) 0 (by simp) (by omega)
      case U=>first|rfl|assumption
      case a0=>exact fj _
      refine I V.aI ?_;refine bg ?_;refine I V.aT ?_;refine I V.bX ?_;refine I V.aI ?_;refine bU ?_;refine hO ⟨0,[]⟩ ?_;exact(fj _)
     ·obtain rfl:aa=0:=by omega
      refine aM ?_;refine ad.exit ?_;refine ma [4,6,5] ?_;refine aM ?_;refine' ad.nd 2 [(6,.int .u64 (x:Int)),(4,.slice (some ⟨ac,0,none⟩) 0 cf)] ?Qw ?Q6;case Qw=>
       refine ad.region ?_;refine I V.aT ?_;refine' W.step rfl (Exec.call rfl rfl rfl rfl rfl rfl rfl (ck:=[w1 .u64 92 ac [0] cW]) (e8:=[]) (.refl _) trivial (Zl (l:=[0]) (by decide)) ?_);rintro v' m' ai hle ⟨a5,rfl,TT,a0,lS,rfl,rfl⟩;obtain rfl:a5=0:=by(rcases ke a5 with q|q;exact q;exact absurd rfl (lS 0 q (by rw[show a5 -1=0 by simp at TT;omega];rfl)))
       refine I V.aI ?_;refine bU ?_;refine'⟨⟨_,rfl,⟨?ed,?fp,rfl,trivial⟩⟩,cl _,rfl⟩;case ed=>rfl
       case fp=>rfl
      case Q6=>
       refine rg ?_;refine aH ?_;refine I V.hU ?_;rw[y2];refine I V.gb ?_;refine I V.aT ?_;refine I V.hU ?_;rw[KY];refine I V.gb ?_;refine jA (iQ Q g0) fun aaO=>?_;refine' W.step rfl (.of (Of rfl rfl rfl rfl rfl rfl (iQ Q g0) (uT Q g0) (fun i q=>by cases q) ?ez ?hm ?j ?dQ ?dV ?aw fun Z' VX Ti=>?_));case ez=>exact .nil
       case hm=>exact .refl _
       case j=>exact jg.own (cells:=cj .u32 [x,0]) (.head _) rfl
       case dQ=>exact rfl
       case dV=>exact zD _
       case aw=>exact cQ
       refine I V.aI ?_;refine bU ?_;refine hO ⟨0,Z',VX,cW⟩ ?_ (hm:=.append (.refl _) (.cons _ (.refl _)));exact⟨fj _,fun q=>absurd q (by decide),fun _=>Ti⟩
   ·obtain rfl:k=0:=by omega
    have e3:=pv rfl;obtain⟨aa1,co,rfl,acG⟩:=e3.JB;refine aM ?_;refine ad.exit ?_;refine e3.pU (.refl _) fun hG dc y1=>?_;obtain⟨_,_,aA,_,_,qH⟩:=y1.inv;injection aA with aA _ n8
    subst aA;subst n8;obtain⟨aaX,Gx,Ql,abm,rfl,abA,gH⟩:=qH (by decide);have eu:nth Ql (Gx+1)=some (.int .u32 0):=gH 1 (by decide);refine rg ?_;refine aH ?_;refine bg ?_;refine I V.aT ?_;refine I V.bk ?_;refine I V.aT ?_;refine gP 51 (fun Em=>?_) fun Em=>?_
    ·refine bF V.aT ?_;refine bF V.aT ?_;refine bF V.bX ?_;refine bF V.bw ?_;refine bF V.cP ?_;refine bF V.bk ?_;refine I V.bx ?_;refine aJ ?_;refine If (fun IW=>?_) fun IW=>?_
     ·refine rg ?_;refine aH ?_;refine I V.bX ?_;refine' W.step rfl (.of (Oj rfl rfl rfl rfl (iQ Q g0) ?aD ?hk rfl rfl ?a2 ?U ?ab fun ac0 K7=>?_));case aD=>assumption
      case hk=>exact cQ
      case a2=>exact cQ
      case U=>exact cQ
      case ab=>exact cQ
      obtain⟨AP,A1,rfl,_⟩:=K7.inv;refine I V.aI ?_;refine bg ?_;refine aH ?_;refine I V.bk ?_;refine aH ?_;refine aJ ?_;refine ad.ret ?_;refine'⟨.inr rfl,rfl,_,[],.tmp rfl (.tmp rfl .nil),b1 _,⟨dc,rfl,_,rfl,61,by rw[iK];exact K7⟩⟩
     ·exfalso;exact IW rfl
    ·exfalso;omega
end
def o0{α:Type}(sz:Nat)(R:Nat->α->List Value->Prop)(cells:List Value)(xs:List α):Prop:=cells.length=xs.length*sz/\∀i x,xs[i]?=some x->R i x ((cells.drop (i*sz)).take sz)
theorem o0.app{α:Type}{sz:Nat}{R:Nat->α->List Value->Prop}{cells new:List Value}{xs:List α}{x:α}(h:o0 sz R cells xs)(j:R xs.length x new)(aE:new.length=sz):o0 sz R (cells++new) (xs++[x]):=by
 refine⟨by rw[hP,hP,h.1,aE,xx,hH,AB],fun i y aC=>?_⟩;by_cases q:i<xs.length
 ·rw[List.getElem?_append_left q] at aC
  have ag:i*sz+sz<=xs.length*sz:=by rw[<-xE];exact kf _ q
  rw[OJ (by rw[h.1];omega),List.take_append_of_le_length (by rw[qa,h.1];omega)];exact h.2 i y aC
 ·rw[OL (by omega)] at aC
  have a2:i=xs.length:=by
   have:=(h4.1 aC).1;rw[xx] at this;omega
  subst a2;rw[AE] at aC;injection aC with aC;subst aC
  rw[List.drop_left' (by rw[h.1]),jY (by omega)];exact j
theorem o0.mono{α:Type}{sz:Nat}{R R':Nat->α->List Value->Prop}{cells:List Value}{xs:List α}(h:o0 sz R cells xs)(et:∀i x cs,R i x cs->R' i x cs):o0 sz R' cells xs:=⟨h.1,fun i x j=>et _ _ _ (h.2 i x j)⟩
structure ho (J:an) (r:cv) (v1 v2:Value):Prop where
 n:dE J v1 r.z.natAbs
 d:dE J v2 r.d
theorem ho.mono{J ai:an}(hle:J.le ai){r:cv}{v1 v2:Value}(h:ho J r v1 v2):ho ai r v1 v2:=⟨h.n.mono hle,h.d.mono hle⟩
def gn(J:an)(r:cv)(cs:List Value):Prop:=∃v1 v2,cs=r2 r v1 v2/\ho J r v1 v2
def m1(J:an)(r:cv)(cs:List Value):Prop:=∃v1 v2,cs=r2 r v1 v2/\fE J r v1 v2
theorem gn.mono{J ai:an}(hle:J.le ai){r:cv}{cs:List Value}(h:gn J r cs):gn ai r cs:=by
 obtain⟨v1,v2,U,ab⟩:=h;exact⟨v1,v2,U,ab.mono hle⟩
theorem m1.mono{J ai:an}(hle:J.le ai){r:cv}{cs:List Value}(h:m1 J r cs):m1 ai r cs:=by
 obtain⟨v1,v2,U,ab⟩:=h;exact⟨v1,v2,U,ab.mono hle⟩
abbrev O4(J:an)(r:cv):Value->aU->an->Prop:=fun u m' ai=>J.le ai/\m'=[]/\∃v1 v2,u=.tuple #[dF r v1 v2,.bool true]/\ho ai r v1 v2
theorem Yx{d z rest new:List Value}{off:Nat}(ae:off=d.length)(a0:z.length=new.length):fD off (d++(z++rest)) new=some (d++(new++rest)):=by
 subst ae;rw[CJ _ _ _ (by rw[hP,hP];omega),List.take_left,xu];congr 3
 rw[<-xu,OJ (by rw[hP];omega),va (by rw[hP];omega),rD]
theorem dE.bN{J:an}{v:Value}{x:Nat}(h:dE J v x):∃b n c,v=.slice b n c/\addrEq b b=true:=by
 have h:dx .u32 J v (aj x):=h;obtain⟨b,c,rfl⟩:=h.form;exact⟨b,_,c,rfl,h.addr⟩
theorem dE.lu{J ai:an}{v w:Value}{x y:Nat}(h:dE J v x)(fO:dE ai w y)(hle:J.le ai)(j:x<1000000000)(aC:y<1000000000)(e:v=w):x=y:=by
 subst e;obtain⟨b,n,c,rfl,_,U,ab⟩:=h.un j;obtain⟨b',uu,bo,e,_,aV,br⟩:=fO.un aC;injection e with aA aW cr
 subst aA;subst aW;by_cases q:n=0
 ·rw[U.z q,aV.z q]
 ·have q:n=1:=by have:=U.le;omega
  obtain⟨a,off,cells,e,rfl,a8,a5⟩:=ab q;obtain⟨bA,eB,cells',bl,w,qZ,oB⟩:=br q;injection w with w
  injection w with bc b6
  subst bc;subst b6;rw[hle _ _ a8] at qZ;injection qZ with qZ
  injection qZ with bc b6
  subst bc;rw[a5] at oB;injection oB with oB
  injection oB with _ oB
  omega
section
variable {Q:eF Tryz.prog}{g0:Nat}{J:an}
theorem Nx{v:Value}{x:Nat}(h:cn J v x)(j:x<1000000000):Fn (aS Q g0) 68 [v] [] J (Df J x):=by
 by_cases q:x=0
 ·subst q;exact Zi h
 ·exact Zj h q j
theorem X1{r:cv}{v1 v2:Value}(ap:fE J r v1 v2)(a0:r.z.natAbs<1000000000)(ax:r.d<1000000000)(h':r.d≠0):Fn (aS Q g0) 40 [dF r v1 v2] [] J (O4 J r):=by
 have dR:=ap;obtain⟨bV,cV,bE,rfl,aQ,eu,gI⟩:=ap.n.bN;obtain⟨b7,dn,b8,rfl,aP,eX,gW⟩:=ap.d.bN;refine Fn.cH (cK Tryz.func40) rfl rfl fun H=>?_;refine rg ?_;refine fl fun bP=>?_;refine' W.step rfl (.of (gN rfl rfl rfl (kT Q g0) rfl rfl rfl fun bS=>?_));refine I V.aI ?_;refine bg ?_;refine I V.cN ?_;refine I V.cP ?_;refine cm (G:=Nx dR.n a0) (h:=?_);rintro v' m' bO a' ⟨_,rfl,bc,rfl,BO⟩;have lU:=BO;obtain⟨c5,ep,dj,rfl,bC⟩:=BO.bN;refine aH ?_;refine bg ?_;refine I V.aT ?_;refine I V.pO ?_;refine aJ ?_;refine If (fun iF=>?_) fun iF=>?_
 ·exfalso;simp at iF
 ·refine aM ?_;refine ad.skip ?_;refine rg ?_;refine I V.fH ?_;refine cm (G:=mm (dR.mono a') h') (h:=?_);rintro v' m' eL bW ⟨_,rfl,za⟩;have uj:=za;obtain⟨dM,fp,eg,rfl,dp,_,_⟩:=za.bN;refine cm (G:=Nx uj ax) (h:=?_);rintro v' m' hG dc ⟨_,rfl,dX,rfl,K6⟩;have UT:=K6;obtain⟨fF,hi,hb,rfl,gi⟩:=K6.bN;refine aH ?_;refine bg ?_;refine I V.aT ?_;refine I V.pO ?_;refine aJ ?_;refine If (fun n4=>?_) fun n4=>?_
  ·exfalso;simp at n4
  ·refine aM ?_;refine ad.skip ?_;refine rg ?_;refine I V.cN ?_;refine I V.cP ?_;refine aH ?_;refine fM ?_;refine I V.aI ?_;refine aJ ?_;refine ad.ret ?_;refine'⟨.inr rfl,rfl,_,[],.cell rfl (by repeat first|exact .head _|refine .tail _ ?_|refine eU _ ?_) (gh (fs rfl) rfl) (.tmp rfl .nil),b1 _,⟨(a'.trans bW).trans dc,rfl,_,_,rfl,(lU.mono bW).mono dc,UT⟩⟩
theorem Sf{r:cv}{v1 v2:Value}(ap:ho J r v1 v2)(a0:r.z.natAbs<1000000000)(ax:r.d<1000000000)(gR:r.fi):Fn (aS Q g0) 62 [dF r v1 v2] [] J (n2 J r):=by
 have dR:=ap;have rd:=gR.1;obtain⟨bV,cV,bE,rfl,aQ⟩:=ap.n.bN;obtain⟨b7,dn,b8,rfl,aP⟩:=ap.d.bN;refine Fn.cH (cK Tryz.func62) rfl rfl fun H=>?_;refine rg ?_;refine fl fun bP=>?_;refine' W.step rfl (.of (gN rfl rfl rfl (ly Q g0) rfl rfl rfl fun bS=>?_));refine aJ ?_;refine ad.draw rfl (by kernel_rfl) (a6:=[.val 0,.val 1,.val 2,.val 3,.val 5,.val 6,.bZ 4,.cq [6,5,1,0],.bZ 7,.cq [1,0],.bZ 8,.bZ 9]) (by kernel_rfl) ?_;refine bd rfl V.cN ?_;refine bd rfl V.cP ?_;refine bd rfl V.cN ?_;refine bd rfl V.cP ?_;refine bd rfl V.cN ?_;refine bd rfl V.cP ?_;refine bR.jP ?_;refine' bh.ea rfl rfl rfl rfl rfl rfl rfl rfl rfl dC (JC dR.n a0) ?_;rintro v' m' bO a' ⟨_,rfl,lU⟩;have BO:=lU;obtain⟨c5,ep,dj,rfl,bC,_,_⟩:=lU.bN;refine bh.cq eV ?_;refine' bh.ea rfl rfl rfl rfl rfl rfl rfl rfl rfl (cp (fun _ aK=>hS.ag a' (dR.n.lu (dR.mono a').d a' a0 ax (List.cons.inj aK).1) rfl) dC) (JC (dR.mono a').d ax) ?_;rintro v' m' eL bW ⟨_,rfl,za⟩;have uj:=za;obtain⟨dM,fp,eg,rfl,dp,_,_⟩:=za.bN;refine bh.cq eV ?_;refine' bh.ea rfl rfl rfl rfl rfl rfl rfl rfl rfl (cp (c0 rfl) (cp (c0 rfl) dC)) (B8 (r:=r) (BO.mono bW) uj (fun _=>rfl) (DP gR) (hR rd)) ?_;rintro v' m' hG dc ⟨_,rfl,fa,fh,rfl,cg⟩;have da:=cg;obtain⟨fF,hi,hb,rfl,gi,_,_⟩:=cg.n.bN;obtain⟨gp,ed,e1,rfl,iO,_,_⟩:=cg.d.bN;refine bh.jO (fun x j=>jX (f:=fun x=>(x.f,x.ca)) j) ?_;refine oZ rfl ?_;refine bR.nil ?_;refine aM ?_;refine ad.ret ?_;refine'⟨.inr rfl,rfl,_,[],.cell rfl (by repeat first|exact .head _|refine .tail _ ?_|refine eU _ ?_) (gh (fs rfl) rfl) (.nil),b1 _,⟨(a'.trans bW).trans dc,rfl,_,_,rfl,da⟩⟩
theorem list_fn{rs:List cv}{b:Option Addr}{c:Nat}(h:eO J 32 3 (gn J) (.slice b rs.length c) rs)(aw:rs.length<=1000)(af:∀r∈rs,r.fi/\r.z.natAbs<1000000000/\r.d<1000000000):
 Fn (aS Q g0) 36 [.slice b rs.length c] [] J (fun u m' ai=>J.le ai/\m'=[]/\∃b' bo,u=.slice b' rs.length bo/\eO ai 55 3 (m1 ai) (.slice b' rs.length bo) rs):=by
 have nK:addrEq b b=true:=h.addr;obtain⟨_,iW⟩:=h.at;refine Fn.cH (cK Tryz.func36) rfl rfl fun H=>?_;refine rg ?_;refine I V.aI ?_;refine bg ?_;refine aH ?_;refine' W.step rfl (.of (xh rfl rfl rfl rfl rfl (Yl Q g0) ?a2 ?U ?ab fun ij=>?_));case a2=>exact cQ
 case U=>exact cQ
 case ab=>exact cQ
 refine I V.aI ?_;refine bU ?_;rw[jW];refine rg ?_;refine aH ?_;refine aJ ?_;refine ad.block ?_;refine' ad.eZ (l':=[(11,.int .i64 ((0):Int)),(3,_),(9,_),(10,_)]) ⟨?xe,rfl,rfl,rfl,trivial⟩ (cl _) ?_;case xe=>first|exact cu|exact ak some (ak (Value.int .u64) (by omega))|exact ak some (ak (Value.int .i64) (by omega))
 refine aM ?_;refine' ad.hN (fun(cT:Nat×(List Value)×an)=>match cT with|(i,d,fT)=>⟨[(11,.int .i64 (i:Int))],[(ij,.row (d++fb [.bool false,.slice none 0 0,.slice none 0 0] (rs.length -i)) 55)],fT,i<=rs.length/\J.le fT/\o0 3 (fun _=>m1 fT) d (rs.take i),rs.length -i⟩) ⟨0,[],J⟩ ?ag ?b2
 case ag=>exact⟨fj _,an.le.refl _,rfl,fun i x h=>by cases h⟩
 case b2=>
  rintro⟨i,d,fT⟩ hinv;try simp only at hinv
  obtain⟨aq,fP,j7⟩:=hinv;refine rg ?_;refine I V.bk ?_;refine aJ ?_;refine If (fun kI=>?_) fun kI=>?_
  ·obtain⟨a,off,cells,bl,rfl,kL,kN⟩:=iW (by omega);obtain⟨r,cs,ap,hK,yN,v1,v2,rfl,et⟩:=kN i (by omega) (by omega);rw[jW] at ap;have kL:=fP _ _ kL;obtain⟨gR,w2,rd⟩:=af r (nZ ap);have k6:=et;obtain⟨bV,cV,bE,rfl,aQ⟩:=et.n.bN;obtain⟨b7,dn,b8,rfl,aP⟩:=et.d.bN;have Bs:d.length=i*3:=by rw[j7.1,hQ,h5 aq]
   refine fJ ?_;refine aM ?_;refine ad.block ?_;refine rg ?_;refine I V.aT ?_;refine I V.bw ?_;refine I V.kQ ?_;refine' W.step rfl (.of (gN rfl rfl rfl (kT Q g0) rfl rfl rfl fun cO=>?_));refine I V.aI ?_;refine fM ?_;refine bg ?_;refine aH ?_;refine I V.kQ ?_;refine cm (G:=Sf (k6.mono fP) w2 rd gR) (h:=?_);rintro v' m' bO a' ⟨_,rfl,fa,fh,rfl,cg⟩;have da:=cg;obtain⟨gp,ed,e1,rfl,iO,_,_⟩:=cg.n.bN;obtain⟨kG,nF,hJ,rfl,nJ,_,_⟩:=cg.d.bN;refine I V.bw ?_;refine' W.step rfl (.of (nP rfl rfl rfl rfl (lq rfl) rfl rfl rfl ?U ?ag ?ao ?_));case ao=>repeat first|exact .head _ _ _ _|apply e6.tail|apply e6.app
   case ag=>exact(by rw[show rs.length -i=(rs.length -(i+1))+1 by omega,C1];exact Yx (by rw[Bs];omega) rfl)
   case U=>first|rfl|assumption
   refine bU ?_;have TC:o0 3 (fun _=>m1 bO) (d++r2 r (.slice gp ed e1) (.slice kG nF hJ)) (rs.take (i+1)):=by
    rw[xA,ap];exact(j7.mono fun _ _ _ q=>q.mono a').app ⟨_,_,rfl,da⟩ rfl
   rw[<-xu];refine rg ?_;refine I V.bX ?_;refine I V.aT ?_;refine bU ?_;refine hO ⟨i+1,d++r2 r (.slice gp ed e1) (.slice kG nF hJ),bO⟩ ?_ (hm:=.cons _ (.refl _));exact⟨by omega,fP.trans a',TC⟩
  ·refine aM ?_;refine ad.exit ?_;obtain rfl:i=rs.length:=by omega
   refine ad.GG (m':=[(ij,.row d 55)]) (by show List.Perm _ [(ij,db.row (d++fb [.bool false,.slice none 0 0,.slice none 0 0] (rs.length -rs.length)) 55)];rw[AE,Hu,kW]) ?_;refine ad.ju rfl fun bW=>?_;rw[tb] at j7;refine rg ?_;refine aH ?_;refine aJ ?_;refine ad.ret ?_;refine'⟨.inr rfl,rfl,_,[],.tmp rfl .nil,b1 _,?_⟩;refine⟨fP.trans bW,rfl,some ⟨ij,0,none⟩,rs.length,rfl,d,ew.row (an.h6 _ _ _) (by rw[kd,jY (by rw[j7.1];exact c9 _)]) j7.1 (fun _=>⟨c9 _,hn aw (by decide)⟩) (fun _=>rfl),fun aa x j=>(j7.2 aa x j).mono bW⟩
end
end
end Go.Opn
namespace Go.Opn
noncomputable section
def c8(sa bQ:Nat):List Nat->List Nat->Nat
 |p::ps,q::bb=>((p:Int)*bQ -(q:Int)*sa).natAbs+c8 sa bQ ps bb
 |_,_=>0
theorem N2{sa bQ:Nat}:∀{ps bb:List Nat},c8 sa bQ ps bb=c8 bQ sa bb ps
 |[],[]=>rfl
 |[],_::_=>rfl
 |_::_,[]=>rfl
 |p::ps,q::bb=>by
  show _+c8 sa bQ ps bb=_+c8 bQ sa bb ps;rw[N2 (ps:=ps) (bb:=bb)];congr 1
  omega
theorem z5{sa bQ:Nat}:∀{ps bb:List Nat},c8 sa bQ ps bb<=ps.sum*bQ+bb.sum*sa
 |[],_=>by show 0<=_;omega
 |_::_,[]=>by show 0<=_;omega
 |p::ps,q::bb=>by
  have aN:=z5 (sa:=sa) (bQ:=bQ) (ps:=ps) (bb:=bb);show _+c8 sa bQ ps bb<=_;rw[ta,ta,hH,hH];have:((p:Int)*bQ -(q:Int)*sa).natAbs<=p*bQ+q*sa:=by
   have aA:((p*bQ:Nat):Int)=(p:Int)*bQ:=gw _ _;have aW:((q*sa:Nat):Int)=(q:Int)*sa:=gw _ _;omega
  omega
theorem N5{sa bQ:Nat}:∀{ps bb:List Nat},ps.length=bb.length->(c8 sa bQ ps bb=0↔∀(i:Nat) (p q:Nat),ps[i]?=some p->bb[i]?=some q->p*bQ=q*sa)
 |[],[],_=>by simp[c8]
 |[],_::_,h=>by cases h
 |_::_,[],h=>by cases h
 |p::ps,q::bb,h=>by
  have aN:=N5 (sa:=sa) (bQ:=bQ) (ps:=ps) (bb:=bb) (by simpa using h);have aA:((p*bQ:Nat):Int)=(p:Int)*bQ:=gw _ _;have aW:((q*sa:Nat):Int)=(q:Int)*sa:=gw _ _;show((p:Int)*bQ -(q:Int)*sa).natAbs+c8 sa bQ ps bb=0↔_;constructor
  ·intro a2 i x y j aC;cases i with
   |zero=>
    injection j with j;injection aC with aC;subst j;subst aC
    omega
   |succ i=>exact(aN.1 (by omega)) i x y j aC
  ·intro iV;have U:=iV 0 p q rfl rfl;have ab:=aN.2 fun i x y j aC=>iV (i+1) x y j aC;omega
theorem N4{sa bQ sc:Nat}:∀{ps bb rs:List Nat},ps.length=bb.length->bb.length=rs.length->c8 sa sc ps rs*bQ<=c8 sa bQ ps bb*sc+c8 bQ sc bb rs*sa
 |[],_,_,_,_=>by simp[c8]
 |_::_,[],_,h,_=>by cases h
 |_::_,_::_,[],_,h=>by cases h
 |p::ps,q::bb,r::rs,U,ab=>by
  have aN:=N4 (sa:=sa) (bQ:=bQ) (sc:=sc) (ps:=ps) (bb:=bb) (rs:=rs) (by simpa using U) (by simpa using ab);show(_+c8 sa sc ps rs)*bQ<=(_+c8 sa bQ ps bb)*sc+(_+c8 bQ sc bb rs)*sa;rw[hH,hH,hH];have key:((p:Int)*sc -(r:Int)*sa).natAbs*bQ<=((p:Int)*bQ -(q:Int)*sa).natAbs*sc+((q:Int)*sc -(r:Int)*bQ).natAbs*sa:=by
   have bP:((p:Int)*sc -(r:Int)*sa).natAbs*bQ=(((p:Int)*sc -(r:Int)*sa)*bQ).natAbs:=by rw[iC,iD]
   have bS:((p:Int)*bQ -(q:Int)*sa).natAbs*sc=(((p:Int)*bQ -(q:Int)*sa)*sc).natAbs:=by rw[iC,iD]
   have cE:((q:Int)*sc -(r:Int)*bQ).natAbs*sa=(((q:Int)*sc -(r:Int)*bQ)*sa).natAbs:=by rw[iC,iD]
   rw[bP,bS,cE];have e:((p:Int)*sc -(r:Int)*sa)*bQ=((p:Int)*bQ -(q:Int)*sa)*sc+((q:Int)*sc -(r:Int)*bQ)*sa:=by
    simp only[Int.sub_mul,iB];rw[jv (sc:Int) bQ,jv (sa:Int) sc,jv (sa:Int) bQ];omega
   rw[e];exact HJ _ _
  omega
end
end Go.Opn
