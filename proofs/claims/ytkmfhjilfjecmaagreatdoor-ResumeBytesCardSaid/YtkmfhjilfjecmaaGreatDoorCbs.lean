/- A part of the proof of ResumeBytes. -/
import Derived.Test.YtkmfhjilfjecmaaGreatDoorCbr
import Derived.Test.YtkmfhjilfjecmaaGreatDoorCbj
import Derived.Test.YtkmfhjilfjecmaaGreatDoorCbn
import Derived.Test.YtkmfhjilfjecmaaGreatDoorCbh
set_option maxRecDepth 100000
set_option maxHeartbeats 8000000
set_option linter.unusedVariables false
set_option linter.unusedSimpArgs false
namespace Go.Opn
noncomputable section
open Go.Cre Go.RowKit Go.Proofs
theorem RE{cells:List Value}{off:Nat}{v:Value}(i:Nat)(h:i<cells.length)(ar:off=i:=by omega):gg off cells [v]=some (cells.set i v):=by
 subst ar;have:=RD (f:=fun v:Value=>v) (L:=cells) (x:=v) h;rwa [List.map_id',List.map_id'] at this
theorem X5{cells:List Value}{off:Nat}{v:Value}(i:Nat)(h:cells[i]?=some v)(ar:off=i:=by omega):nth cells off=some v:=by subst ar;rw[kE];exact h
theorem dI.addr{J:aH}{b:Option Addr}{n c:Nat}{l:List Int}(h:dI J (.slice b n c) l):addrEq b b=true:=by
 obtain⟨e,h⟩:=h;generalize l.length=k at h;generalize l.map (Value.int .i64)=cs at h;cases h<;>simp[addrEq]
theorem akT{α:Type}{P:Nat->α->Prop}:∀{n:Nat},(∀j,j<n->∃r,P j r)->∃V:List α,V.length=n/\∀j r,V[j]?=some r->P j r:=by
 intro n;induction n with
 |zero=>intro _;exact⟨[],rfl,fun j r h=>by cases h⟩
 |succ n aI=>
  intro h;obtain⟨V,aa,ae⟩:=aI fun j a'=>h j (by omega);obtain⟨r,aw⟩:=h n (by omega);refine⟨V++[r],by simp[aa],fun j q c8=>?_⟩;rcases vD c8 with k|⟨bl,bp⟩
  ·exact ae j q k
  ·rw[bl,bp,aa];exact aw
theorem Rh{v w b:Int}(aa:-b<=v)(ae:v<=b)(bw:0<=w):-(b*w)<=v*w/\v*w<=b*w:=by
 have bm:=MU aa bw;have a2:=MU ae bw;rw[Int.neg_mul] at bm;exact⟨bm,a2⟩
theorem X1{g:bq}{S:List (List Int)}{x:cR}(hw:jg g)(ax:wR g S)(U:x∈g.ns)(aO:¬x.k=3):∃(W:List Int) (D:Int),W.length=x.ak.length/\(∀v∈W,0<=v)/\W.sum=D/\0<D/\D<=65536/\(x.k=1->W=x.ws/\D=x.ws.sum)/\(¬x.k=1->x.k=2/\D=65536/\0<=x.p/\x.p<g.pl/\∃i:Nat,x.i=(i:Int)/\i<g.is.length/\S[i]?=some W)/\x.ak.length<=3/\1<=x.ak.length:=by
 rcases hw.kind x U with⟨h,_⟩|⟨aa,ae,aF,bo,eB⟩|⟨aa,ae,aF,bo,eB,k,ht,lI⟩
 ·exact absurd h aO
 ·have s1:=ZI (l:=x.ws) (b:=1) fun v ay=>(eB v ay).1
  have s2:=Mk (l:=x.ws) (b:=3) fun v ay=>(eB v ay).2;exact⟨x.ws,x.ws.sum,ae,fun v ay=>by have:=eB v ay;omega,rfl,by omega,by omega,fun _=>⟨rfl,rfl⟩,fun q=>absurd aa q,by omega,by omega⟩
 ·obtain⟨r,aw,rN,pH⟩:=ax.1.get lI
  have hm:=cb aw;exact⟨r,65536,by omega,fun v ay=>by obtain⟨i,ao⟩:=kp.1 ay;exact(pH i v ao).1,ax.2 r hm,by omega,by omega,fun q=>by omega,fun _=>⟨aa,rfl,bo,eB,k,ht,eU lI,aw⟩,by omega,by omega⟩
def ra(g:bq)(r:List Int):Prop:=r.length=g.pl.toNat/\∀v∈r,-3072<=v/\v<=3072
def JW(g:bq)(J:aH)(cells:List Value)(z:Int):Prop:=cells.length=g.ns.length/\∀j:Nat,z<(j:Int)->j<g.ns.length->∃r w,cells[j]?=some w/\dI J w r/\ra g r
theorem JW.set{g:bq}{J af:aH}{cells:List Value}{i:Nat}{r:List Int}{w:Value}(h:JW g J cells (i:Int))(hle:J.le af)(ao:i<g.ns.length)(aa:dI af w r)(ae:ra g r):JW g af (cells.set i w) ((i:Int) -1):=by
 refine⟨by rw[fz];exact h.1,fun j BT Lq=>?_⟩;rw[kJ];split
 ·rw[aE (by have:=h.1;omega)];exact⟨r,w,rfl,aa,ae⟩
 ·obtain⟨dx,br,bb,a7,b8⟩:=h.2 j (by omega) Lq
  exact⟨dx,br,bb,a7.mono hle,b8⟩
theorem ra.zero{g:bq}:ra g (List.replicate g.pl.toNat 0):=⟨by simp,fun v ay=>by rw[wL ay];omega⟩
theorem ra.set{g:bq}{r:List Int}{p:Nat}{v:Int}(h:ra g r)(aa:-3072<=v)(ae:v<=3072):ra g (r.set p v):=by
 refine⟨by rw[fz];exact h.1,fun w hw=>?_⟩;rcases Ay hw with q|q
 ·exact h.2 w q
 ·subst q;exact⟨aa,ae⟩
abbrev qB(a:Nat)(x:cR)(b1:Option Addr)(c1:Nat)(b2:Option Addr)(c2:Nat)(b3:Option Addr)(c3:Nat):Nat×cC:=(a,.row [.int .i64 x.k,.int .i64 x.p,.int .i64 x.i,.slice b1 x.ak.length c1,.slice b2 x.ws.length c2,.slice b3 x.fF.length c3] 47)
section
variable {Q:dD Tryz.prog}{g0:Nat}{J:aH}
theorem apE{g:bq}{aT aK ez:Option Addr}{aQ ci fi:Nat}{S:List (List Int)}(hw:jg g)(aq:fH J g aT aQ aK ci)(ix:fc J 22 1 (jW J) (.slice ez S.length fi) S)(ax:wR g S):
 Fn (bd Q g0) 57 [hb g aT aQ aK ci,.slice ez S.length fi] [] J (fun u m' af=>J.le af/\m'=[]/\∃b c V,u=.slice b V.length c/\fc af 22 1 (jW af) (.slice b V.length c) V/\V.length=g.ns.length/\∀r∈V,ra g r):=by
 have fX:addrEq aK aK=true:=aq.i.addr;have gq:addrEq aT aT=true:=aq.n.addr;have E5:addrEq ez ez=true:=ix.addr;obtain⟨_,fE⟩:=aq.n.at;obtain⟨_,Pd⟩:=ix.at;have bX:=hw.bX;have de:=hw.de;have dH:=hw.dH;have ij:=hw.ij;obtain⟨bO,off,EO,ne,rfl,tS,j0⟩:=fE (by omega);refine Fn.cH (cM Tryz.func57) rfl rfl fun H=>?_;refine rg ?_;refine dK fun a2=>?_;refine I V.az ?_;refine bi ?_;refine I V.ba ?_;refine I V.aG ?_;refine I V.bL ?_;refine' W.step rfl (.of (p4 rfl rfl rfl rfl rfl (nt Q g0) ?bw ?aa ?ae fun u'=>?_));case bw=>exact cc
 case aa=>exact cc
 case ae=>exact cc
 refine I V.az ?_;refine a6 ?_;rw[CR,cx];refine rg ?_;refine I V.ba ?_;refine I V.aG ?_;refine I V.bL ?_;refine I V.bt ?_;refine I V.az ?_;refine ns ?_;refine ab.block ?_;refine' ab.c0 (l':=[(6,.int .i64 ((g.ns.length:Int) -1)),(1,_),(2,_),(5,_)]) ⟨?nv,rfl,rfl,rfl,trivial⟩ (bu _) ?_;case nv=>exact bP
 refine aj ?_;refine' ab.dF (fun(bC:Int×(List Value)×aH)=>match bC with|(z,cells,dX)=>⟨[(6,.int .i64 z)],[(u',.row cells 22),dh a2 g (some ⟨bO,off,none⟩) aQ aK ci],dX,-1<=z/\z<g.ns.length/\J.le dX/\JW g dX cells z,(z+1).toNat⟩) ⟨(g.ns.length:Int) -1,List.replicate g.ns.length (.slice none 0 0),J⟩ ?hs ?bA
 case hs=>exact⟨by omega,by omega,aH.le.refl _,by simp,fun j BT Lq=>by omega⟩
 case bA=>
  rintro⟨z,cells,dX⟩ hinv;try simp only at hinv
  obtain⟨BO,lk,dp,lK⟩:=hinv;refine rg ?_;refine I V.ag ?_;refine I V.aZ ?_;refine ns ?_;refine If (fun Gm=>?_) fun Gm=>?_
  ·obtain⟨i,rfl⟩:∃i:Nat,z=(i:Int):=⟨z.toNat,by omega⟩;have ao:i<g.ns.length:=by omega
   obtain⟨x,cs,U,gU,iz,ei⟩:=j0 i (by omega) (by omega);obtain⟨b1,c1,b2,c2,b3,c3,rfl,eG,gM,gA⟩:=ei;have zk:=iz 3 _ (by decide) rfl;rw[cx] at U;have iX:=cb U;have sO:=hw.kids i x U;have tS:=dp _ _ tS;have Hi:=lK.1;have eG:=eG.mono dp;have gM:=gM.mono dp;have gA:=gA.mono dp;have bb:addrEq b1 b1=true:=eG.addr;have a7:addrEq b2 b2=true:=gM.addr;have b8:addrEq b3 b3=true:=gA.addr;have Wj:∀a:Nat,nth (cells.set i (.slice (some ⟨a,0,none⟩) g.pl.toNat g.pl.toNat)) (0+i*1)=some (.slice (some ⟨a,0,none⟩) g.pl.toNat g.pl.toNat):=fun a=>X5 i (by rw[kJ,aE rfl,aE (by omega)]);have OY:∀(a:Nat) (c:Int),c∈x.ak->∃r AJ Dn,nth (cells.set i (.slice (some ⟨a,0,none⟩) g.pl.toNat g.pl.toNat)) (0+c.toNat*1)=some (.slice AJ r.length Dn)/\dI dX (.slice AJ r.length Dn) r/\ra g r/\0<=c/\c<g.ns.length:=fun a c aC=>by
    have xA:=sO c aC;obtain⟨r,w,bl,bp,bQ⟩:=lK.2 c.toNat (by omega) (by omega);obtain⟨AJ,Dn,rfl,_⟩:=bp.inv;exact⟨r,AJ,Dn,X5 c.toNat (by rw[kJ,an (by omega)];exact bl),bp,bQ,by omega,by omega⟩
   refine c7 ?_;refine aj ?_;refine ab.block ?_;refine rg ?_;refine I V.ba ?_;refine I V.aG ?_;refine I V.ag ?_;refine I V.aW ?_;refine I V.c9 ?_;refine' W.step rfl (.of (eT rfl rfl rfl (oB Q g0) rfl rfl rfl fun cT=>?_));refine dC ?_;refine bi ?_;refine aM ?_;refine I V.aG ?_;refine' W.step rfl (.of (p4 rfl rfl rfl rfl rfl (e0 Q g0) ?bw ?aa ?ae fun oI=>?_));case bw=>exact cc
   case aa=>exact cc
   case ae=>exact cc
   refine I V.aW ?_;refine' W.step rfl (.of (hy rfl rfl rfl rfl (fQ rfl) rfl rfl rfl ?aa ?hs ?au ?_));case au=>repeat first|exact .head _ _ _ _|apply cQ.tail|apply cQ.app
   case hs=>exact RE i (by omega)
   case aa=>first|rfl|assumption
   refine a6 ?_;rw[yv];have Wj:=Wj oI;have OY:=OY oI;refine rg ?_;refine I V.az ?_;refine ns ?_;refine ab.block ?_;refine' ab.c0 (l':=[(8,.int .i64 ((0):Int)),(1,_),(2,_),(5,_),(6,_),(7,_)]) ⟨?jC,rfl,rfl,rfl,rfl,rfl,trivial⟩ (bu _) ?_;case jC=>exact bP
   refine aj ?_;refine' ab.dF (fun(bC:Nat×(List Int))=>match bC with|(p,L)=>⟨[(8,.int .i64 (p:Int))],[ll oI L,qB cT x b1 c1 b2 c2 b3 c3,(u',.row (cells.set i (.slice (some ⟨oI,0,none⟩) g.pl.toNat g.pl.toNat)) 22),dh a2 g (some ⟨bO,off,none⟩) aQ aK ci],dX,(p:Int)<=g.pl/\ra g L,g.pl.toNat -p⟩) ⟨0,List.replicate g.pl.toNat 0⟩ ?hs ?bA
   case hs=>exact⟨by omega,ra.zero⟩
   case bA=>
    rintro⟨p,L⟩ hinv;try simp only at hinv
    obtain⟨au,bS⟩:=hinv;refine rg ?_;refine aM ?_;refine I V.aG ?_;refine I V.aZ ?_;refine ns ?_;refine If (fun k7=>?_) fun k7=>?_
    ·have D2:=bS.1;refine c7 ?_;refine aj ?_;refine ab.block ?_;refine rg ?_;refine I V.ba ?_;refine I V.aG ?_;refine I V.aZ ?_;refine ns ?_;refine If (fun TV=>?_) fun TV=>?_
     ·obtain⟨_,uo,Wv⟩:x.ak=[]/\(x.fF.length:Int)=g.pl/\∀w∈x.fF,-3<=w/\w<=3:=by
        rcases hw.kind x iX with⟨_,h⟩|⟨h,_⟩|⟨h,_⟩
        ·exact h
        ·omega
        ·omega
      obtain⟨abK,zR,adf,N6,rfl,ag8,Pn⟩:=gA.ja (by omega);obtain⟨w,j1,o4⟩:=Pn p (by omega);have BL:=Wv w (cb j1);refine aj ?_;refine ab.draw rfl (by kernel_rfl) (bc:=[.val 0,.val 1,.val 2,.val 3,.val 4,.val 5,.val 6,.val 7,.val 8,.val 9,.val 10,.val 11,.bR 12]) (by kernel_rfl) ?_;refine cq ?_;refine al rfl V.aW ?_;refine al rfl V.aG ?_;refine cq ?_;refine al rfl V.aG ?_;refine al rfl V.ag ?_;refine al rfl V.aW ?_;refine al rfl V.aG ?_;refine al rfl V.bt ?_;refine al rfl V.aW ?_;refine' a8.fP rfl rfl (hy rfl rfl rfl rfl (fQ rfl) rfl rfl rfl ?aa ?hs ?au ?_);case au=>repeat first|exact .head _ _ _ _|apply cQ.tail|apply cQ.app
      case hs=>exact jA p (by omega)
      case aa=>first|rfl|assumption
      refine a8.nil ?_;refine aj ?_;refine ab.exit ?_;refine rg ?_;refine I V.ag ?_;refine I V.bt ?_;refine I V.az ?_;refine a6 ?_;refine cB ⟨p+1,L.set p (w*1024)⟩ ?_;first|exact⟨by omega,bS.set (by omega) (by omega)⟩|exact⟨by omega,bS.set vZ.1 vZ.2⟩
     ·obtain⟨W,D,KL,sJ,Hl,DW,gT,nf,qo,cr,aiQ⟩:=X1 hw ax iX TV;obtain⟨mw,i',oP,ex,rfl,rs,ic⟩:=eG.ja (by omega);refine ln ?_;refine aM ?_;refine bi ?_;refine I V.ba ?_;refine I V.aG ?_;refine I V.aZ ?_;refine a6 ?_;refine fR [10,59,1,2,5,6,7,8,9] ?_;refine aj ?_;refine' ab.y2 (α:=(Int)) 2 (fun(fO:Int)=>[(10,.int .i64 fO)]) (fun(fO:Int)=>[ll oI L,qB cT x (some ⟨mw,i',none⟩) c1 b2 c2 b3 c3,(u',.row (cells.set i (.slice (some ⟨oI,0,none⟩) g.pl.toNat g.pl.toNat)) 22),dh a2 g (some ⟨bO,off,none⟩) aQ aK ci]) (fun(fO:Int)=>dX) (fun(fO:Int)=>D=fO) ?ac3 ?ad6;case ac3=>
        refine If (fun iv=>?_) fun iv=>?_
        ·refine rg ?_;refine I V.ba ?_;refine I V.aG ?_;refine cl (G:=ZU gM (by rw[<-(nf iv).1];exact sJ) (by rw[<-(nf iv).2];omega) (by rw[<-(nf iv).1,KL];omega)) (h:=?_);rintro v' m' e2 cF ⟨rfl,rfl,rfl⟩;refine I V.az ?_;refine a6 ?_;refine'⟨(x.ws.sum),_,?hinv,rfl,⟨?m10,rfl,rfl,rfl,rfl,rfl,rfl,rfl,trivial⟩,rR,rfl⟩;case m10=>exact bP
         case hinv=>exact(nf iv).2
        ·refine aj ?_;refine ab.skip ?_;refine'⟨(65536),_,?hinv,rfl,⟨?m10,rfl,rfl,rfl,rfl,rfl,rfl,rfl,trivial⟩,rR,rfl⟩;case m10=>exact bP
         case hinv=>exact(qo iv).2.1
      case ad6=>
        rintro fO hinv;try simp only at hinv
        obtain rfl:=hinv;refine rg ?_;refine I V.az ?_;refine ns ?_;refine ab.block ?_;refine' ab.c0 (l':=[(9,.int .i64 (0)),(11,.int .i64 ((0):Int)),(1,_),(2,_),(5,_),(6,_),(7,_),(8,_),(10,_)]) ⟨?p3,?yp,rfl,rfl,rfl,rfl,rfl,rfl,rfl,trivial⟩ (bu _) ?_;case p3=>exact bP
        case yp=>exact bP
        refine aj ?_;refine' ab.dF (fun(bC:Nat×Int)=>match bC with|(k,sm)=>⟨[(9,.int .i64 sm),(11,.int .i64 (k:Int))],[ll oI L,qB cT x (some ⟨mw,i',none⟩) c1 b2 c2 b3 c3,(u',.row (cells.set i (.slice (some ⟨oI,0,none⟩) g.pl.toNat g.pl.toNat)) 22),dh a2 g (some ⟨bO,off,none⟩) aQ aK ci],dX,k<=x.ak.length/\-(3072*(W.take k).sum)<=sm/\sm<=3072*(W.take k).sum,x.ak.length -k⟩) ⟨0,0⟩ ?hs ?bA
        case hs=>exact⟨by omega,by simp,by simp⟩
        case bA=>
         rintro⟨k,sm⟩ hinv;try simp only at hinv
         obtain⟨aO,Lb,Lc⟩:=hinv;refine rg ?_;refine aM ?_;refine I V.aG ?_;refine I V.bL ?_;refine I V.aZ ?_;refine ns ?_;refine If (fun n6=>?_) fun n6=>?_
         ·obtain⟨bK,fs,zo⟩:=ic k (by omega);obtain⟨r,AJ,Dn,HF,oi,aw,arw,arx⟩:=OY bK (cb fs);have Er:=aw.1;have auI:addrEq AJ AJ=true:=oi.addr;obtain⟨ac,auk,arI,asi,rfl,asD,aio⟩:=oi.ja (by omega);obtain⟨v,ay,PN⟩:=aio p (by omega);have HZ:=aw.2 v (cb ay);obtain⟨w,j1⟩:∃w,W[k]?=some w:=⟨_,dj (by omega)⟩;have Qi:=sJ w (cb j1);have HL:=Rh (v:=v) (w:=w) (b:=3072) (by omega) HZ.2 Qi;have dw:=Fg j1;have zm:=r6 sJ k;have aiL:=r6 sJ (k+1);refine c7 ?_;refine aj ?_;refine ab.block ?_;refine rg ?_;refine I V.az ?_;refine bi ?_;refine I V.ba ?_;refine I V.aG ?_;refine I V.aZ ?_;refine a6 ?_;refine fR [72,1,2,5,6,7,8,9,10,11] ?_;refine aj ?_;refine' ab.y2 (α:=(Int)) 1 (fun(hi:Int)=>[(12,.int .i64 hi)]) (fun(hi:Int)=>[ll oI L,qB cT x (some ⟨mw,i',none⟩) c1 b2 c2 b3 c3,(u',.row (cells.set i (.slice (some ⟨oI,0,none⟩) g.pl.toNat g.pl.toNat)) 22),dh a2 g (some ⟨bO,off,none⟩) aQ aK ci]) (fun(hi:Int)=>dX) (fun(hi:Int)=>w=hi) ?ac5 ?ad8;case ac5=>
           refine If (fun Dl=>?_) fun Dl=>?_
           ·have xU:x.ws.length=x.ak.length:=by rw[<-(nf Dl).1];exact KL
            obtain⟨db,EX,Ds,za,rfl,D1,rE⟩:=gM.ja (by rw[<-(nf Dl).1];omega);obtain⟨eK,nP,PO⟩:=rE k (by rw[<-(nf Dl).1];omega);obtain rfl:w=eK:=by rw[<-(nf Dl).1,j1] at nP;injection nP
            refine rg ?_;refine I V.ba ?_;refine I V.aG ?_;refine I V.ag ?_;refine I V.aW ?_;refine I V.aG ?_;refine I V.az ?_;refine a6 ?_;refine'⟨(w),_,?hinv,rfl,⟨?m12,rfl,rfl,rfl,rfl,rfl,rfl,rfl,rfl,rfl,trivial⟩,rR,rfl⟩;case m12=>exact bP
            case hinv=>rfl
           ·obtain⟨_,_,_,_,ii,pF,mE,Be⟩:=qo Dl;have lj:=eU Be;obtain⟨wW,nn,Dr,DG,rfl,zg,Pj⟩:=Pd (by have:=eU Be;omega);obtain⟨tt,vn,tV,vL,mg,jn,ks,rfl,BD⟩:=Pj x.i (by omega) (by have:=eU Be;omega);have sP:=mg 0 _ (by decide) rfl;rw[pF,cx,Be] at tV;injection tV with tV;subst tV
            have zg:=dp _ _ zg;have BD:=BD.mono dp;have ank:addrEq jn jn=true:=BD.addr;obtain⟨db,EX,Ds,za,rfl,D1,rE⟩:=BD.ja (by omega);obtain⟨eK,nP,PO⟩:=rE k (by omega);obtain rfl:w=eK:=by rw[j1] at nP;injection nP
            refine rg ?_;refine aM ?_;refine I V.aG ?_;refine I V.aW ?_;refine I V.aG ?_;refine I V.ag ?_;refine I V.aW ?_;refine I V.aG ?_;refine I V.az ?_;refine a6 ?_;refine'⟨(w),_,?hinv,rfl,⟨?m12,rfl,rfl,rfl,rfl,rfl,rfl,rfl,rfl,rfl,trivial⟩,rR,rfl⟩;case m12=>exact bP
            case hinv=>rfl
          case ad8=>
           rintro hi hinv;try simp only at hinv
           obtain rfl:=hinv;refine rg ?_;refine aM ?_;refine I V.aG ?_;refine I V.ag ?_;refine I V.aW ?_;refine I V.aG ?_;refine I V.aW ?_;refine I V.aG ?_;refine I V.ag ?_;refine I V.aW ?_;refine I V.aG ?_;refine I V.ag ?_;refine I V.bt ?_;refine I V.bt ?_;refine I V.az ?_;refine bi ?_;refine I V.ag ?_;refine I V.bt ?_;refine I V.az ?_;refine a6 ?_;refine cB ⟨k+1,sm+v*w⟩ ?_;exact⟨by omega,by omega,by omega⟩
         ·have vZ:-3072<=sm.tdiv D/\sm.tdiv D<=3072:=by
           rw[eo (by omega),Hl] at Lb Lc;exact tdiv_le DW Lb Lc
          have WG:-201326592<=sm/\sm<=201326592:=by
           have:=r6 sJ k;omega
          clear nf qo
          refine aj ?_;refine ab.exit ?_;refine aj ?_;refine ab.draw rfl (by kernel_rfl) (bc:=[.val 0,.val 1,.val 2,.val 3,.val 4,.val 5,.val 6,.val 7,.val 8,.bR 9]) (by kernel_rfl) ?_;refine cq ?_;refine al rfl V.aW ?_;refine al rfl V.aG ?_;refine cq ?_;refine al rfl V.y5 ?_;refine al rfl V.aW ?_;refine' a8.fP rfl rfl (hy rfl rfl rfl rfl (fQ rfl) rfl rfl rfl ?aa ?hs ?au ?_);case au=>repeat first|exact .head _ _ _ _|apply cQ.tail|apply cQ.app
          case hs=>exact jA p (by omega)
          case aa=>first|rfl|assumption
          refine a8.nil ?_;refine rg ?_;refine I V.ag ?_;refine I V.bt ?_;refine I V.az ?_;refine a6 ?_;refine cB ⟨p+1,L.set p (sm.tdiv D)⟩ ?_;first|exact⟨by omega,bS.set (by omega) (by omega)⟩|exact⟨by omega,bS.set vZ.1 vZ.2⟩
    ·refine aj ?_;refine ab.exit ?_;refine ab.mJ rfl fun dU=>?_;have OF:dI (dX.add oI (L.map (Value.int .i64),3)) (.slice (some ⟨oI,0,none⟩) g.pl.toNat g.pl.toNat) L:=by
        have:=dI.lit (a:=oI) (l:=L) (e:=3) (by have:=bS.1;exact wN (show L.length<=60 by omega) (by decide)) (aH.oL dX oI (L.map (Value.int .i64),3));rwa [bS.1] at this
     refine rg ?_;refine I V.ag ?_;refine I V.bt ?_;refine I V.az ?_;refine a6 ?_;refine cB ⟨(i:Int) -1,cells.set i (.slice (some ⟨oI,0,none⟩) g.pl.toNat g.pl.toNat),_⟩ ?_ (hm:=.cons _ (.refl _));exact⟨by omega,by omega,dp.trans dU,lK.set dU ao OF bS⟩
  ·refine aj ?_;refine ab.exit ?_;obtain rfl:z=-1:=by omega
   refine ab.mJ rfl fun ie=>?_;refine rg ?_;refine aM ?_;refine ns ?_;refine ab.ret ?_;refine c5 ?_;obtain⟨V,KK,Vz⟩:=akT (P:=fun j r=>∃w,cells[j]?=some w/\dI (dX.add u' (cells,22)) w r/\ra g r) (n:=g.ns.length) fun j a'=>(by obtain⟨r,w,aa,ae,aF⟩:=lK.2 j (by omega) a';exact⟨r,w,aa,ae.mono ie,aF⟩);have ahh:mS (fun j r=>ra g r) (dX.add u' (cells,22)) g.ns.length cells V:=⟨lK.1,KK,fun j r w aa ae=>by obtain⟨br,bl,bp,bQ⟩:=Vz j r aa;rw[ae] at bl;injection bl with bl;subst bl;exact⟨bp,bQ⟩⟩;have ag0:=ahh.sA (e:=22) (v:=.slice (some ⟨u',0,none⟩) g.ns.length g.ns.length) (.row (aH.oL dX u' (cells,22)) (by rw[mr,eo (by rw[lK.1];omega)]) (by rw[lK.1];omega) (fun _=>⟨cW _,wN de (by decide)⟩) (fun _=>rfl));refine⟨dp.trans ie,rfl,some ⟨u',0,none⟩,g.ns.length,V,by rw[KK];rfl,by rw[KK];exact ag0,KK,fun r aw=>?_⟩;obtain⟨j,a'⟩:=kp.1 aw;obtain⟨_,_,_,h⟩:=Vz j r a';exact h
end
theorem Ys{r w D b:Int}(bw:0<=r)(aa:r<=b)(ap:b<=1073741824)(w0:0<=w)(eK:w<=D)(jt:0<D)(gT:D<=65536):0<=(r*w).tdiv D/\(r*w).tdiv D<=b/\0<=r*w/\r*w<=70368744177664:=by
 have a0:0<=r*w:=Int.mul_nonneg bw w0;have bm:r*w<=b*D:=Int.le_trans (MU aa w0) (Sv eK (by omega));have a2:b*D<=1073741824*65536:=Int.le_trans (MU ap (by omega)) (Sv gT (by omega));have ae:-(b*D)<=r*w:=by have:0<=b*D:=Int.mul_nonneg (by omega) (by omega);omega
 exact⟨Int.tdiv_nonneg a0 (by omega),(tdiv_le jt ae bm).2,a0,by omega⟩
def wP(n:Nat)(R:List Int):Prop:=R.length=n/\∀v∈R,0<=v/\v<=1073741824
theorem wP.zero{n:Nat}:wP n (List.replicate n 0):=⟨by simp,fun v ay=>by rw[wL ay];omega⟩
theorem wP.set{n k:Nat}{R:List Int}{v:Int}(h:wP n R)(aa:0<=v)(ae:v<=1073741824):wP n (R.set k v):=by
 refine⟨by rw[fz];exact h.1,fun w hw=>?_⟩;rcases Ay hw with q|q
 ·exact h.2 w q
 ·subst q;exact⟨aa,ae⟩
section
variable {Q:dD Tryz.prog}{g0:Nat}{J:aH}
open Classical in
theorem YX{g:bq}{aT aK ez:Option Addr}{aQ ci fi:Nat}{S:List (List Int)}{p:Int}{EX:Bool}(hw:jg g)(aq:fH J g aT aQ aK ci)(ix:fc J 22 1 (jW J) (.slice ez S.length fi) S)(ax:wR g S):
 Fn (bd Q g0) 58 [hb g aT aQ aK ci,.slice ez S.length fi,.int .i64 p,.bool EX] [] J (fun u m' af=>J.le af/\m'=[]/\∃b c R,u=.slice b g.ns.length c/\dI af u R/\wP g.ns.length R):=by
 have fX:addrEq aK aK=true:=aq.i.addr;have gq:addrEq aT aT=true:=aq.n.addr;have E5:addrEq ez ez=true:=ix.addr;obtain⟨_,fE⟩:=aq.n.at;obtain⟨_,Pd⟩:=ix.at;have bX:=hw.bX;have de:=hw.de;obtain⟨bO,off,EO,ne,rfl,tS,j0⟩:=fE (by omega);refine Fn.cH (cM Tryz.func58) rfl rfl fun H=>?_;refine rg ?_;refine dK fun a4=>?_;refine I V.az ?_;refine bi ?_;refine I V.ba ?_;refine I V.aG ?_;refine I V.bL ?_;refine' W.step rfl (.of (p4 rfl rfl rfl rfl rfl (e0 Q g0) ?bw ?aa ?ae fun va=>?_));case bw=>exact cc
 case aa=>exact cc
 case ae=>exact cc
 refine I V.az ?_;refine a6 ?_;rw[yv,cx];refine rg ?_;refine I V.ag ?_;refine I V.aW ?_;refine' W.step rfl (.of (hy rfl rfl rfl rfl (fQ rfl) rfl rfl rfl ?aa ?hs ?au ?_));case au=>repeat first|exact .head _ _ _ _|apply cQ.tail|apply cQ.app
 case hs=>exact jA 0 (by simp;omega)
 case aa=>first|rfl|assumption
 refine bi ?_;refine I V.az ?_;refine ns ?_;refine ab.block ?_;refine' ab.c0 (l':=[(10,.int .i64 ((0):Int)),(1,_),(2,_),(3,_),(4,_),(9,_)]) ⟨?p1,rfl,rfl,rfl,rfl,rfl,trivial⟩ (bu _) ?_;case p1=>exact bP
 refine aj ?_;refine' ab.dF (fun(bC:Nat×(List Int))=>match bC with|(i,R)=>⟨[(10,.int .i64 (i:Int))],[ll va R,dh a4 g (some ⟨bO,off,none⟩) aQ aK ci],J,i<=g.ns.length/\wP g.ns.length R,g.ns.length -i⟩) ⟨0,(List.replicate g.ns.length 0).set 0 1073741824⟩ ?hs ?bA
 case hs=>exact⟨cy _,wP.zero.set (by omega) (by omega)⟩
 case bA=>
  rintro⟨i,R⟩ hinv;try simp only at hinv
  obtain⟨ao,ei⟩:=hinv;refine rg ?_;refine aM ?_;refine I V.aG ?_;refine I V.bL ?_;refine I V.aZ ?_;refine ns ?_;refine If (fun mU=>?_) fun mU=>?_
  ·obtain⟨x,cs,U,gU,iz,mZ⟩:=j0 i (by omega) (by omega);obtain⟨b1,c1,b2,c2,b3,c3,rfl,eG,gM,gA⟩:=mZ;have zk:=iz 3 _ (by decide) rfl;rw[cx] at U;have iX:=cb U;have sO:=hw.kids i x U;have bb:addrEq b1 b1=true:=eG.addr;have a7:addrEq b2 b2=true:=gM.addr;have b8:addrEq b3 b3=true:=gA.addr;have K6:x.ak.length<=3:=by
    rcases hw.kind x iX with⟨_,h,_⟩|⟨_,_,_,h,_⟩|⟨_,_,h,_⟩
    ·rw[h];simp
    ·exact h
    ·exact h
   refine c7 ?_;refine aj ?_;refine ab.block ?_;refine rg ?_;refine I V.ba ?_;refine I V.aG ?_;refine I V.ag ?_;refine I V.aW ?_;refine I V.c9 ?_;refine' W.step rfl (.of (eT rfl rfl rfl (oB Q g0) rfl rfl rfl fun kL=>?_));refine dC ?_;refine a6 ?_;refine fR [1,2,3,4,9,10,11] ?_;refine aj ?_;refine' ab.hl 0 [(12,.bool (decide ((x.k=2/\x.p=p))))] ?Gv ?GF;case Gv=>
    refine ab.region ?_;refine I V.ba ?_;refine I V.aG ?_;refine I V.aZ ?_;refine I V.ag ?_;refine dr 35 (fun On=>?_) fun On=>?_
    ·refine aX V.ba ?_;refine aX V.aG ?_;refine aX V.ag ?_;refine aX V.aZ ?_;refine I V.aU ?_;refine I V.az ?_;refine a6 ?_;exact ce
    ·refine ah ?_;refine ah ?_;refine ah ?_;refine ah ?_;refine I V.aU ?_;refine I V.az ?_;refine a6 ?_;exact ce
   case GF=>
    refine rg ?_;refine I V.az ?_;refine ns ?_;refine ab.block ?_;refine' ab.c0 (l':=[(13,.int .i64 ((0):Int)),(1,_),(2,_),(3,_),(4,_),(9,_),(10,_),(11,_),(12,_)]) ⟨?r9,rfl,rfl,rfl,rfl,rfl,rfl,rfl,rfl,trivial⟩ (bu _) ?_;case r9=>exact bP
    refine aj ?_;refine' ab.dF (fun(bC:Nat×(List Int))=>match bC with|(k,pp)=>⟨[(13,.int .i64 (k:Int))],[qB kL x b1 c1 b2 c2 b3 c3,ll va pp,dh a4 g (some ⟨bO,off,none⟩) aQ aK ci],J,k<=x.ak.length/\wP g.ns.length pp,x.ak.length -k⟩) ⟨0,R⟩ ?hs ?bA
    case hs=>exact⟨cy _,ei⟩
    case bA=>
     rintro⟨k,pp⟩ hinv;try simp only at hinv
     obtain⟨aO,qi⟩:=hinv;refine rg ?_;refine aM ?_;refine I V.aG ?_;refine I V.bL ?_;refine I V.aZ ?_;refine ns ?_;refine If (fun j9=>?_) fun j9=>?_
     ·have D3:=qi.1;obtain⟨mw,i',oP,ex,rfl,rs,ic⟩:=eG.ja (by omega);obtain⟨bK,fs,zo⟩:=ic k (by omega);have xA:=sO bK (cb fs);obtain⟨rv,WE⟩:∃v,pp[i]?=some v:=⟨_,dj (by omega)⟩;have rO:=qi.2 rv (cb WE);have atu:=nm (off:=0+i*1) i WE (by omega);have zk:¬x.k=3:=fun q=>by
        rcases hw.kind x iX with⟨_,h,_⟩|⟨h,_⟩|⟨h,_⟩
        ·rw[h] at fs;cases fs
        ·omega
        ·omega
      refine c7 ?_;refine aj ?_;refine ab.block ?_;refine aj ?_;refine ab.block ?_;refine rg ?_;refine aM ?_;refine' W.step rfl (Exec.val rfl rfl (apg rfl rfl rfl (.inr ⟨rfl,rfl⟩) (by kernel_rfl)) ?_);refine I V.az ?_;refine ns ?_;refine If (fun tz=>?_) fun tz=>?_
      ·
        refine aj ?_;refine ab.draw rfl (by kernel_rfl) (bc:=[.val 0,.val 1,.val 2,.val 3,.val 4,.val 5,.val 6,.val 7,.val 8,.val 9,.val 10,.bR 11]) (by kernel_rfl) ?_;refine cq ?_;refine al rfl V.aG ?_;refine al rfl V.ag ?_;refine al rfl V.aW ?_;refine al rfl V.aG ?_;refine cq ?_;refine al rfl V.aW ?_;refine al rfl V.aG ?_;refine al rfl V.aW ?_;refine' a8.fP rfl rfl (hy rfl rfl rfl rfl (fQ rfl) rfl rfl rfl ?aa ?hs ?au ?_);case au=>repeat first|exact .head _ _ _ _|apply cQ.tail|apply cQ.app
        case hs=>exact jA bK.toNat (by omega)
        case aa=>first|rfl|assumption
        refine a8.nil ?_;refine rg ?_;refine I V.ag ?_;refine I V.bt ?_;refine I V.az ?_;refine a6 ?_;refine cB ⟨k+1,pp.set bK.toNat rv⟩ ?_;first|exact⟨by omega,qi.set rO.1 rO.2⟩|exact⟨by omega,qi.set dE.1 dE.2.1⟩
      ·
        obtain⟨W,D,KL,sJ,Hl,DW,gT,nf,qo,cr,aiQ⟩:=X1 hw ax iX zk;obtain⟨w,j1⟩:∃w,W[k]?=some w:=⟨_,dj (by omega)⟩;have Qi:=sJ w (cb j1);have atL:=Ml sJ j1;have dE:=Ys (r:=rv) (w:=w) (D:=D) rO.1 rO.2 (by omega) Qi (by omega) DW gT;refine rg ?_;refine I V.ba ?_;refine I V.aG ?_;refine I V.aZ ?_;refine I V.az ?_;refine ns ?_;refine If (fun Nt=>?_) fun Nt=>?_
        ·obtain⟨ahn,tQ⟩:=nf Nt;subst ahn;subst tQ;obtain⟨db,aml,Ds,za,rfl,D1,rE⟩:=gM.ja (by omega);obtain⟨eK,nP,PO⟩:=rE k (by omega);obtain rfl:w=eK:=by rw[j1] at nP;injection nP
         have xU:x.ws.length=x.ak.length:=KL;clear nf qo
         refine aj ?_;refine ab.draw rfl (by kernel_rfl) (bc:=[.val 0,.val 1,.val 2,.val 3,.val 4,.val 5,.val 6,.val 7,.val 8,.val 9,.val 10,.val 11,.val 12,.val 13,.val 14,.val 15,.val 16,.val 17,.bR 18,.val 19,.val 20,.cA [15,14,13,12,11,10,9,8,7,6,5,4,3,2,1,0],.bR 21]) (by kernel_rfl) ?_;refine cq ?_;refine al rfl V.aG ?_;refine al rfl V.ag ?_;refine al rfl V.aW ?_;refine al rfl V.aG ?_;refine cq ?_;refine al rfl V.aW ?_;refine al rfl V.aG ?_;refine al rfl V.ba ?_;refine al rfl V.aG ?_;refine al rfl V.ag ?_;refine al rfl V.aW ?_;refine al rfl V.aG ?_;refine al rfl V.bt ?_;refine al rfl V.ba ?_;refine al rfl V.aG ?_;refine dl rfl (G:=ZU gM sJ (by omega) (by omega)) (h:=?_);rintro v' m' e2 cF ⟨rfl,rfl,rfl⟩;refine al rfl V.y5 ?_;refine al rfl V.aW ?_;refine a8.cA eX ?_;refine' a8.fP rfl rfl (hy rfl rfl rfl rfl (fQ rfl) rfl rfl rfl ?aa ?hs ?au ?_);case au=>repeat first|exact .head _ _ _ _|apply cQ.tail|apply cQ.app
         case hs=>exact jA bK.toNat (by omega)
         case aa=>first|rfl|assumption
         refine a8.nil ?_;refine rg ?_;refine I V.ag ?_;refine I V.bt ?_;refine I V.az ?_;refine a6 ?_;refine cB ⟨k+1,pp.set bK.toNat ((rv*w).tdiv x.ws.sum)⟩ ?_;first|exact⟨by omega,qi.set rO.1 rO.2⟩|exact⟨by omega,qi.set dE.1 dE.2.1⟩
        ·obtain⟨_,tQ,_,_,ii,pF,mE,Be⟩:=qo Nt;subst tQ;have lj:=eU Be;obtain⟨wW,nn,Dr,DG,rfl,zg,Pj⟩:=Pd (by omega);obtain⟨tt,vn,tV,vL,mg,jn,ks,rfl,BD⟩:=Pj x.i (by omega) (by omega);have sP:=mg 0 _ (by decide) rfl;rw[pF,cx,Be] at tV;injection tV with tV;subst tV
         have ank:addrEq jn jn=true:=BD.addr;obtain⟨db,aml,Ds,za,rfl,D1,rE⟩:=BD.ja (by omega);obtain⟨eK,nP,PO⟩:=rE k (by omega);obtain rfl:w=eK:=by rw[j1] at nP;injection nP
         clear nf qo
         refine aj ?_;refine ab.draw rfl (by kernel_rfl) (bc:=[.val 0,.val 1,.val 2,.val 3,.val 4,.val 5,.val 6,.val 7,.val 8,.val 9,.val 10,.val 11,.val 12,.val 13,.val 14,.val 15,.val 16,.val 17,.val 18,.val 19,.val 20,.bR 21]) (by kernel_rfl) ?_;refine cq ?_;refine al rfl V.aG ?_;refine al rfl V.ag ?_;refine al rfl V.aW ?_;refine al rfl V.aG ?_;refine cq ?_;refine al rfl V.aW ?_;refine al rfl V.aG ?_;refine cq ?_;refine al rfl V.aG ?_;refine al rfl V.aW ?_;refine al rfl V.aG ?_;refine al rfl V.ag ?_;refine al rfl V.aW ?_;refine al rfl V.aG ?_;refine al rfl V.bt ?_;refine al rfl V.y5 ?_;refine al rfl V.aW ?_;refine' a8.fP rfl rfl (hy rfl rfl rfl rfl (fQ rfl) rfl rfl rfl ?aa ?hs ?au ?_);case au=>repeat first|exact .head _ _ _ _|apply cQ.tail|apply cQ.app
         case hs=>exact jA bK.toNat (by omega)
         case aa=>first|rfl|assumption
         refine a8.nil ?_;refine rg ?_;refine I V.ag ?_;refine I V.bt ?_;refine I V.az ?_;refine a6 ?_;refine cB ⟨k+1,pp.set bK.toNat ((rv*w).tdiv 65536)⟩ ?_;first|exact⟨by omega,qi.set rO.1 rO.2⟩|exact⟨by omega,qi.set dE.1 dE.2.1⟩
     ·refine aj ?_;refine ab.exit ?_;refine rg ?_;refine I V.ag ?_;refine I V.bt ?_;refine I V.az ?_;refine a6 ?_;refine cB ⟨i+1,pp⟩ ?_ (hm:=.cons _ (.refl _));exact⟨by omega,qi⟩
  ·refine aj ?_;refine ab.exit ?_;refine ab.mJ rfl fun hle=>?_;refine rg ?_;refine aM ?_;refine ns ?_;refine ab.ret ?_;refine c5 ?_;refine⟨hle,rfl,some ⟨va,0,none⟩,g.ns.length,R,rfl,?_,ei⟩;have:=dI.lit (a:=va) (l:=R) (e:=3) (by rw[ei.1];exact wN de (by decide)) (aH.oL J va (R.map (Value.int .i64),3));rwa [ei.1] at this
end
end
end Go.Opn
namespace Go.Opn
noncomputable section
def fp(g:bq)(s p:List (List Int))(n:Nat):Prop:=lz g s (-(6144*(n:Int))) (6144*n)/\lz g p 0 (1073741824*n)
theorem fp.wide{g:bq}{s p:List (List Int)}{n nR:Nat}(h:fp g s p n)(aP:n<=nR):fp g s p nR:=
 ⟨h.1.wide (by omega) (by omega),h.2.wide (by omega) (by omega)⟩
theorem fp.zero{g:bq}(hw:jg g){n:Nat}:fp g (jE g) (jE g) n:=⟨(aaJ hw).wide (by omega) (by omega),(aaJ hw).wide (by omega) (by omega)⟩
theorem fp.sum{g:bq}{s p:List (List Int)}{n i k:Nat}{r:List Int}{v:Int}(h:fp g s p n)(aw:s[i]?=some r)(aa:-(6144*(n:Int)+6144)<=v)(ae:v<=6144*n+6144):fp g (s.set i (r.set k v)) p (n+1):=
 ⟨(h.1.wide (lo':=-(6144*((n+1:Nat):Int))) (hi':=6144*((n+1:Nat):Int)) (by omega) (by omega)).put aw (by omega) (by omega),(h.wide (Nat.le_succ n)).2⟩
theorem fp.pl{g:bq}{s p:List (List Int)}{n i k:Nat}{r:List Int}{v:Int}(h:fp g s p n)(aw:p[i]?=some r)(aa:0<=v)(ae:v<=1073741824*n+1073741824):fp g s (p.set i (r.set k v)) (n+1):=
 ⟨(h.wide (Nat.le_succ n)).1,(h.2.wide (lo':=0) (hi':=1073741824*((n+1:Nat):Int)) (by omega) (by omega)).put aw (by omega) (by omega)⟩
theorem fp.both{g:bq}{s p:List (List Int)}{n i k Ig ft:Nat}{r dx:List Int}{v v':Int}(h:fp g s p n)(aw:s[i]?=some r)(aa:-(6144*(n:Int)+6144)<=v)(ae:v<=6144*n+6144)(ni:p[Ig]?=some dx)(G3:0<=v')(Oq:v'<=1073741824*n+1073741824):fp g (s.set i (r.set k v)) (p.set Ig (dx.set ft v')) (n+1):=
 ⟨(h.sum (k:=k) aw aa ae).1,(h.pl (k:=ft) ni G3 Oq).2⟩
theorem fp.at{g:bq}{s p:List (List Int)}{n i k:Nat}{y:Int×Int}(h:fp g s p n)(ai:g.is[i]?=some y)(aO:(k:Int)<y.2):∃r x,s[i]?=some r/\(r.length:Int)=y.2/\r[k]?=some x/\-(6144*(n:Int))<=x/\x<=6144*n:=by
 obtain⟨r,aa,ae,aF⟩:=h.1.get ai;have U:=dj (l:=r) (i:=k) (by omega);have:=aF k _ U;exact⟨r,_,aa,ae,U,this.1,this.2⟩
theorem fp.To{g:bq}{s p:List (List Int)}{n i k:Nat}{y:Int×Int}(h:fp g s p n)(ai:g.is[i]?=some y)(aO:(k:Int)<y.2):∃r x,p[i]?=some r/\(r.length:Int)=y.2/\r[k]?=some x/\0<=x/\x<=1073741824*n:=by
 obtain⟨r,aa,ae,aF⟩:=h.2.get ai;have U:=dj (l:=r) (i:=k) (by omega);have:=aF k _ U;exact⟨r,_,aa,ae,U,this.1,this.2⟩
theorem Y8{cm:Int}:∀{l:List (List Int)} {ys:List (Int×Int)},(∀(i:Nat) (r:List Int) (y:Int×Int),l[i]?=some r->ys[i]?=some y->(r.length:Int)=y.2/\∀v∈r,cm<=v/\v<=70368744177664)->r3 cm l ys=0
 |[],_,_=>rfl
 |_::_,[],_=>rfl
 |r::l,y::ys,h=>by
  obtain⟨aa,ae⟩:=h 0 r y rfl rfl;have aF:r.any (hG cm 70368744177664)=false:=by
   rw[List.any_eq_false];intro v ay;have:=ae v ay;simp[hG];omega
  show(if(r.length:Int)≠y.2 then 3 else if r.any (hG cm 70368744177664)=true then 2 else r3 cm l ys)=0;rw[an (by omega),aF,an CU];exact Y8 fun i dx iQ bb a7=>h (i+1) dx iQ bb a7
theorem lz.ok{g:bq}{l:List (List Int)}{cm ao lo':Int}(h:lz g l cm ao)(aa:lo'<=cm)(ae:ao<=70368744177664):nk g l lo'=0:=by
 unfold nk;rw[an (by rw[h.1];simp)];exact Y8 fun i r y bb a7=>⟨(h.2 i r y bb a7).1,fun v ay=>by have:=(h.2 i r y bb a7).2 v ay;omega⟩
theorem fp.valid{g:bq}{t:gI}{n:Nat}(h:fp g t.sum t.pl n)(aP:n<=60000)(aa:0<=t.r)(ae:t.r<=1000000)(aF:0<=t.s)(bo:t.s<=2147483646):r8 g t=0:=by
 have aL:nk g t.sum (-70368744177664)=0:=h.1.ok (by omega) (by omega);have bk:nk g t.pl 0=0:=h.2.ok (by omega) (by omega);unfold r8;rw[an (by omega),aL,an (by simp),bk]
theorem fp.len{g:bq}{s p:List (List Int)}{n:Nat}(aq:jg g)(h:fp g s p n):s.length=g.is.length/\p.length=g.is.length/\(∀r∈s,1<=r.length/\r.length<=3)/\∀r∈p,1<=r.length/\r.length<=3:=
 ⟨h.1.1,h.2.1,(h.1.len aq).2,(h.2.len aq).2⟩
end
end Go.Opn
