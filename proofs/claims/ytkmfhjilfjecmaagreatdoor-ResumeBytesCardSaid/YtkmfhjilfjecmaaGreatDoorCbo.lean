/- A part of the proof of ResumeBytes. -/
import Derived.Test.YtkmfhjilfjecmaaGreatDoorCbh
import Derived.Test.YtkmfhjilfjecmaaGreatDoorCaz
import Derived.Test.YtkmfhjilfjecmaaGreatDoorCax
set_option maxRecDepth 100000
set_option maxHeartbeats 4000000
set_option linter.unusedVariables false
set_option linter.unusedSimpArgs false
namespace Go.Opn
noncomputable section
open Go.Cre Go.RowKit Go.Proofs
section
variable {Q:dD Tryz.prog}{g0:Nat}{J:aH}
theorem Zb{g:bq}{aT aK:Option Addr}{aQ ci:Nat}(aq:fH J g aT aQ aK ci)(dq:yy g):
 Fn (bd Q g0) 94 [hb g aT aQ aK ci] [] J (fun u m' af=>∃b c,u=.slice b (gB g).length c/\m'=[]/\J.le af/\dI af (.slice b (gB g).length c) (gB g)):=by
 obtain⟨_,fE⟩:=aq.n.at;have fX:addrEq aK aK=true:=aq.i.addr;have gq:addrEq aT aT=true:=aq.n.addr;have aB:=IU dq;have dE:=aB.len;have bX:=dq.bX;have de:=dq.de;have nO:∀x∈g.ns,x.ak.length<=60:=fun x U=>(ES (dq.nodes x U) dq.ki).1;refine Fn.cH (cM Tryz.func94) rfl rfl fun H=>?_;refine rg ?_;refine dK fun bm=>?_;refine I V.az ?_;refine bi ?_;refine I V.ba ?_;refine I V.aG ?_;refine I V.bL ?_;refine' W.step rfl (.of (p4 rfl rfl rfl rfl rfl (e0 Q g0) ?bw ?aa ?ae fun a9=>?_));case bw=>exact cc
 case aa=>exact cc
 case ae=>exact cc
 refine I V.az ?_;refine a6 ?_;rw[yv,cx];refine rg ?_;refine I V.ag ?_;refine I V.aW ?_;refine' W.step rfl (.of (hy rfl rfl rfl rfl (fQ rfl) rfl rfl rfl ?aa ?hs ?au ?_));case au=>repeat first|exact .head _ _ _ _|apply cQ.tail|apply cQ.app
 case hs=>exact jA 0 (by simp;omega)
 case aa=>first|rfl|assumption
 refine bi ?_;refine I V.az ?_;refine ns ?_;refine ab.block ?_;refine' ab.c0 (l':=[(4,.int .i64 ((0):Int)),(1,_),(3,_)]) ⟨?j4,rfl,rfl,trivial⟩ (bu _) ?_;case j4=>exact bP
 refine aj ?_;refine' ab.dF (fun(bC:Nat×(List Int))=>match bC with|(i,L)=>⟨[(4,.int .i64 (i:Int))],ll a9 L::[(bm,.row (iw g aT aQ aK ci) 27)],J,i<=g.ns.length/\tq (gB g) L i [],g.ns.length -i⟩) ⟨0,(List.replicate g.ns.length 0).set 0 (-1)⟩ ?hs ?bA
 case hs=>refine⟨cy _,by simp[dE],by rw[kJ,aE rfl,aE (by simp;omega)],fun c a aC a1 aV=>?_⟩;rcases aV with aV|⟨_,aV⟩;(obtain⟨b,aa,_⟩:=aB.up c aC (by rw[<-dE];exact(dY.1 a1).1);rw[a1] at aa;injection aa with aa;omega);cases aV
 case bA=>
  rintro⟨i,L⟩ hinv;try simp only at hinv
  obtain⟨ao,dt⟩:=hinv;refine rg ?_;refine aM ?_;refine I V.aG ?_;refine I V.bL ?_;refine I V.aZ ?_;refine ns ?_;refine If (fun kN=>?_) fun kN=>?_
  ·obtain⟨bO,off,cells,bz,rfl,mC,j0⟩:=fE (by omega);obtain⟨x,cs,U,gU,iz,ei⟩:=j0 i (by omega) (by omega);obtain⟨b1,c1,b2,c2,b3,c3,rfl,eG,gM,gA⟩:=ei;have zk:=iz 3 _ (by decide) rfl;rw[cx] at U;have Ov:=nO x (cb U);have O4:=aB.down i x U;have kf:=eG.iH [];refine c7 ?_;refine aj ?_;refine ab.block ?_;refine rg ?_;refine I V.az ?_;refine ns ?_;refine ab.block ?_;refine' ab.c0 (l':=[(5,.int .i64 ((0):Int)),(1,_),(3,_),(4,_)]) ⟨?p2,rfl,rfl,rfl,trivial⟩ (bu _) ?_;case p2=>exact bP
   refine aj ?_;refine' ab.dF (fun(bC:Nat×(List Int))=>match bC with|(k,eN)=>⟨[(5,.int .i64 (k:Int))],ll a9 eN::[(bm,.row (iw g (some ⟨bO,off,none⟩) aQ aK ci) 27)],J,k<=x.ak.length/\tq (gB g) eN i (x.ak.take k),x.ak.length -k⟩) ⟨0,L⟩ ?hs ?bA
   case hs=>exact⟨cy _,dt⟩
   case bA=>
    rintro⟨k,eN⟩ hinv;try simp only at hinv
    obtain⟨aO,na⟩:=hinv;refine rg ?_;refine aM ?_;refine I V.aG ?_;refine I V.ag ?_;refine I V.aW ?_;refine I V.ba ?_;refine I V.aG ?_;refine I V.bL ?_;refine I V.aZ ?_;refine ns ?_;refine If (fun jL=>?_) fun jL=>?_
    ·obtain⟨mw,i',oP,rfl,BH,ic⟩:=kf (by omega);obtain⟨w,hw,o4⟩:=ic k (by omega) (by omega);rw[cx] at hw;obtain⟨nP,Ew,aj1⟩:=O4.2 w (cb hw);have zh:=na.len;refine c7 ?_;refine aj ?_;refine ab.block ?_;refine rg ?_;refine aM ?_;refine I V.aG ?_;refine I V.ag ?_;refine I V.aW ?_;refine I V.ba ?_;refine I V.aG ?_;refine I V.ag ?_;refine I V.aW ?_;refine' W.step rfl (Exec.val rfl rfl (gP rfl rfl ?aw (ho (eW rfl) ?ay)) ?_);case aw=>exact BH.sub (fun _ q=>by cases q)
     case ay=>first|rfl|assumption
     refine I V.ag ?_;refine I V.aW ?_;refine' W.step rfl (.of (hy rfl rfl rfl rfl (fQ rfl) rfl rfl rfl ?aa ?hs ?au ?_));case au=>repeat first|exact .head _ _ _ _|apply cQ.tail|apply cQ.app
     case hs=>exact jA w.toNat (by omega)
     case aa=>first|rfl|assumption
     refine bi ?_;refine I V.ag ?_;refine I V.bt ?_;refine I V.az ?_;refine a6 ?_;refine cB ⟨k+1,eN.set w.toNat i⟩ ?_;exact⟨by omega,na.step hw (by omega) aj1⟩
    ·have ahe:tq (gB g) eN (i+1) []:=by
        rw[eo (by omega)] at na;exact na.next aB U
     refine aj ?_;refine ab.exit ?_;refine rg ?_;refine I V.ag ?_;refine I V.bt ?_;refine I V.az ?_;refine a6 ?_;refine cB ⟨i+1,eN⟩ ?_;exact⟨by omega,ahe⟩
  ·refine aj ?_;refine ab.exit ?_;have OE:L=gB g:=by
    rw[show i=g.ns.length by omega] at dt;exact dt.all aB bX
   subst OE;refine ab.mJ rfl fun hle=>?_;refine rg ?_;refine aM ?_;refine ns ?_;refine ab.ret ?_;refine c5 ?_;refine⟨some ⟨a9,0,none⟩,(gB g).length,by rw[dE];rfl,rfl,hle,dI.lit (by unfold cZ;omega) (aH.oL _ _ _)⟩
theorem I2{g:bq}{aT aK:Option Addr}{aQ ci:Nat}{dS:Nat}{p:Int}(aq:fH J g aT aQ aK ci)(dq:yy g)(ib:dS<g.ns.length):
 Fn (bd Q g0) 77 [hb g aT aQ aK ci,.int .i64 (dS:Int),.int .i64 p] [] J (fun u m' af=>∃b c a3,u=.slice b (gE g (gB g) p dS).length c/\m'=[(a3,.row (iw g aT aQ aK ci) 27)]/\J.le af/\fc af 145 2 uX (.slice b (gE g (gB g) p dS).length c) (gE g (gB g) p dS)):=by
 have fX:addrEq aK aK=true:=aq.i.addr;have gq:addrEq aT aT=true:=aq.n.addr;have aB:=IU dq;have dE:=aB.len;have de:=dq.de;have nO:∀x∈g.ns,x.ak.length<=60:=fun x U=>(ES (dq.nodes x U) dq.ki).1;have xU:∀c,c<g.ns.length->(j5 g (gB g) p c).length<=c:=fun c aC=>by
  have:=zG (g:=g) (P:=gB g) (p:=p) c c (cW _);unfold j5;rw[lB];exact this
 have lj:(gE g (gB g) p dS).length<=2000:=by have:=xU dS ib;unfold gE;rw[uY];omega
 have ec:∀c:Nat,c<g.ns.length->∃a,(gB g)[c]?=some a/\-1<=a/\a<g.ns.length:=fun c aC=>by
  by_cases q:c=0
  ·subst q;exact⟨-1,aB.root,by omega,by omega⟩
  ·obtain⟨a,aa,ae,_⟩:=aB.up c (by omega) aC
   exact⟨a,aa,by omega,by omega⟩
 refine Fn.cH (cM Tryz.func77) rfl rfl fun H=>?_;refine rg ?_;refine dK fun a3=>?_;refine I V.az ?_;refine bi ?_;refine I V.c9 ?_;refine cl (G:=Zb aq dq) (h:=?_);rintro v m' dO ch ⟨ct,cE,rfl,rfl,_,dt⟩;refine I V.az ?_;refine a6 ?_;have pC:=aq.mono ch;obtain⟨_,fE⟩:=pC.n.at;obtain⟨dc,op,NG,rfl,BG,Pl⟩:=dt.iH [] (by omega);have Ld:∀(c:Nat) (at_:Int),c<g.ns.length->(gB g)[c]?=some at_->nth NG (op+c*1)=some (.int .i64 at_):=fun c at_ aC h=>by
  obtain⟨x,aa,ae⟩:=Pl c (by omega) (by omega);rw[cx] at aa ae;rw[aa] at h;injection h with h;subst h;exact ae
 refine rg ?_;refine I V.az ?_;refine bi ?_;refine aM ?_;refine ns ?_;refine ab.block ?_;refine' ab.c0 (l':=[(8,(.slice none 0 0)),(9,.int .i64 ((dS):Int)),(2,_),(3,_),(7,_)]) ⟨?jC,?p3,rfl,rfl,rfl,trivial⟩ (bu _) ?_;case jC=>exact bP
 case p3=>exact bP
 refine aj ?_;refine' ab.dF (fun(bC:Nat×(List (Int×Int))×Value×aN)=>match bC with|(c,done,v,aY)=>⟨[(8,v),(9,.int .i64 (c:Int))],aY++[(a3,.row (iw g aT aQ aK ci) 27)],dO,c<g.ns.length/\done++j5 g (gB g) p c=j5 g (gB g) p dS/\done.length+c<=2000/\Acc 145 2 v done.length (ik done) aY,c⟩) ⟨dS,[],.slice none 0 0,[]⟩ ?hs ?bA
 case hs=>exact⟨ib,rfl,by simp;omega,.nil⟩
 case bA=>
  rintro⟨c,done,v,aY⟩ hinv;try simp only at hinv
  obtain⟨aC,KU,Bu,cw⟩:=hinv;obtain⟨at_,fK,Bo,vJ⟩:=ec c aC;have PN:=Ld c _ aC fK;refine rg ?_;refine aM ?_;refine I V.aW ?_;refine' W.step rfl (Exec.val rfl rfl (gP rfl rfl ?aw (ho (eW rfl) ?ay)) ?_);case aw=>exact BG.sub (fun _ q=>by cases q)
  case ay=>first|rfl|assumption
  refine I V.aZ ?_;refine ns ?_;refine If (fun yX=>?_) fun yX=>?_
  ·obtain⟨a,lL,gK,y,ai,oh⟩:=aB.up c (by by_cases q:c=0;(subst q;rw[aB.root] at fK;injection fK with fK;omega);omega) aC;rw[fK] at lL;injection lL with lL;subst lL
   obtain⟨bO,off,cells,bz,rfl,mC,j0⟩:=fE (by omega);obtain⟨iQ,cs,hd,gU,iz,ei⟩:=j0 a (by omega) (by omega);obtain⟨b1,c1,b2,c2,b3,c3,rfl,eG,gM,gA⟩:=ei;rw[cx,ai] at hd;injection hd with hd;subst hd
   have Ov:=nO y (cb ai);have Wy:=(aB.down a y ai).1;have kf:=eG.iH [];refine c7 ?_;refine aj ?_;refine ab.block ?_;refine aj ?_;refine ab.draw rfl (by kernel_rfl) (bc:=[.gk 8,.val 0,.val 1,.val 2,.val 3,.val 4,.val 5,.val 6,.val 7,.bR 9]) (by kernel_rfl) ?_;refine a8.alloc rfl rfl rfl rfl rfl (oB Q g0) rfl rfl rfl fun si=>?_;refine al rfl V.ba ?_;refine al rfl V.aG ?_;refine cq ?_;refine al rfl V.aW ?_;refine' a8.val rfl rfl rfl rfl (gP rfl rfl ?aw (ho (eW rfl) ?ay)) ?_;case aw=>exact BG.sub (fun _ q=>by cases q)
   case ay=>first|rfl|assumption
   refine al rfl V.aW ?_;refine al rfl V.c9 ?_;refine kn rfl ?_;refine a8.nil ?_;refine rg ?_;refine I V.az ?_;refine ns ?_;refine ab.block ?_;refine aj ?_;refine ab.gN (EZ.symm) ?_;refine' ab.c0 (l':=[(8,(v)),(11,.int .i64 ((0):Int)),(2,_),(3,_),(7,_),(9,_),(10,_)]) ⟨?jC,?yp,rfl,rfl,rfl,rfl,rfl,trivial⟩ (bu _) ?_;case jC=>exact bP
   case yp=>exact bP
   refine aj ?_;refine' ab.dF (fun(bC:Nat×Value×aN)=>match bC with|(k,v1,ml)=>⟨[(8,v1),(11,.int .i64 (k:Int))],ml++[(si,.row [.int .i64 y.k,.int .i64 y.p,.int .i64 y.i,.slice b1 y.ak.length c1,.slice b2 y.ws.length c2,.slice b3 y.fF.length c3] 47),(a3,.row (iw g (some ⟨bO,off,none⟩) aQ aK ci) 27)],dO,k<=y.ak.length/\Acc 145 2 v1 (oq done y p c k).length (ik (oq done y p c k)) ml,y.ak.length -k⟩) ⟨0,v,aY⟩ ?hs ?bA
   case hs=>exact⟨cy _,by rw[ako];exact cw⟩
   case bA=>
    rintro⟨k,v1,ml⟩ hinv;try simp only at hinv
    obtain⟨aO,Bh⟩:=hinv;refine rg ?_;refine aM ?_;refine I V.aG ?_;refine I V.bL ?_;refine I V.aZ ?_;refine I V.ag ?_;refine dr 39 (fun agJ=>?_) fun agJ=>?_
    ·refine aX V.ba ?_;refine aX V.aG ?_;refine aX V.aZ ?_;refine I V.aU ?_;refine I V.ag ?_;refine dr 44 (fun zf=>?_) fun zf=>?_
     ·refine aX V.ba ?_;refine aX V.aG ?_;refine aX V.ag ?_;refine aX V.aZ ?_;refine I V.aU ?_;refine ns ?_;refine If (fun su=>?_) fun su=>?_
      ·
        obtain⟨mw,i',oP,rfl,BH,ic⟩:=kf (by omega);obtain⟨w,hw,o4⟩:=ic k (by omega) (by omega);rw[cx] at hw;have mE:=Lj (done:=done) (y:=y) (p:=p) (c:=c) (k:=k);refine c7 ?_;refine aj ?_;refine ab.block ?_;refine rg ?_;refine I V.ba ?_;refine I V.aG ?_;refine I V.ag ?_;refine I V.aW ?_;refine' W.step rfl (Exec.val rfl rfl (gP rfl rfl ?aw (ho (eW rfl) ?ay)) ?_);case aw=>exact BH.sub (fun _ q=>by cases q)
        case ay=>first|rfl|assumption
        refine I V.ag ?_;refine I V.aZ ?_;refine ns ?_;refine If (fun w8=>?_) fun w8=>?_
        ·refine rg ?_;refine aM ?_;refine I V.aG ?_;refine aM ?_;refine jK (E6 Q g0) fun JY=>?_;refine' W.step rfl (.of (kk rfl rfl rfl rfl rfl rfl (E6 Q g0) (RS Q g0) (fun i q=>by cases q) ?cw ?hm ?U ?cr ?ca ?av fun Jp x6 Hp=>?_));case cw=>assumption
         case hm=>exact s'
         case U=>exact hR
         case cr=>first|rfl|(simp;done)|(simp;omega)
         case ca=>first|rfl|exact hf _
         case av=>exact cc
         refine I V.az ?_;refine bi ?_;refine I V.ag ?_;refine I V.bt ?_;refine I V.az ?_;refine a6 ?_;refine cB ⟨k+1,Jp,x6⟩ ?_ (hm:=q3 (bu _) (.cons _ (.refl _)));refine⟨by omega,?_⟩;rw[akn Wy ⟨zf,su⟩ hw w8];exact Hp.uL (by simp) (by rw[E3];rfl)
        ·refine aj ?_;refine ab.skip ?_;refine rg ?_;refine I V.ag ?_;refine I V.bt ?_;refine I V.az ?_;refine a6 ?_;refine cB ⟨k+1,v1,ml⟩ ?_;refine⟨by omega,?_⟩;rw[akm Wy hw w8];exact Bh
      ·
        refine aj ?_;refine ab.exit ?_;refine rg ?_;refine aM ?_;refine I V.aW ?_;refine' W.step rfl (Exec.val rfl rfl (gP rfl rfl ?aw (ho (eW rfl) ?ay)) ?_);case aw=>exact BG.sub (fun _ q=>by cases q)
        case ay=>first|rfl|assumption
        refine I V.az ?_;refine a6 ?_;refine cB ⟨a,oq done y p c k,v1,ml⟩ ?_ (hm:=q3 (bu _) (.cons _ (.refl _)));refine⟨by omega,by rw[Qs fK gK ai oh (by first|(have nT:=su;exact fun q=>absurd q.2 su)|(have nT:=zf;exact fun q=>absurd q.1 zf)|(intro _;omega)),KU],by have:=Lj (done:=done) (y:=y) (p:=p) (c:=c) (k:=k);omega,Bh⟩
     ·refine ah ?_;refine ah ?_;refine ah ?_;refine ah ?_;refine I V.aU ?_;refine ns ?_;refine ab.w' rfl ?_;refine aj ?_;refine ab.exit ?_;refine rg ?_;refine aM ?_;refine I V.aW ?_;refine' W.step rfl (Exec.val rfl rfl (gP rfl rfl ?aw (ho (eW rfl) ?ay)) ?_);case aw=>exact BG.sub (fun _ q=>by cases q)
      case ay=>first|rfl|assumption
      refine I V.az ?_;refine a6 ?_;refine cB ⟨a,oq done y p c k,v1,ml⟩ ?_ (hm:=q3 (bu _) (.cons _ (.refl _)));refine⟨by omega,by rw[Qs fK gK ai oh (by first|(have nT:=su;exact fun q=>absurd q.2 su)|(have nT:=zf;exact fun q=>absurd q.1 zf)|(intro _;omega)),KU],by have:=Lj (done:=done) (y:=y) (p:=p) (c:=c) (k:=k);omega,Bh⟩
    ·refine ah ?_;refine ah ?_;refine ah ?_;refine I V.aU ?_;refine I V.ag ?_;refine ah ?_;refine ah ?_;refine ah ?_;refine ah ?_;refine I V.aU ?_;refine ns ?_;refine ab.w' rfl ?_;refine aj ?_;refine ab.exit ?_;refine rg ?_;refine aM ?_;refine I V.aW ?_;refine' W.step rfl (Exec.val rfl rfl (gP rfl rfl ?aw (ho (eW rfl) ?ay)) ?_);case aw=>exact BG.sub (fun _ q=>by cases q)
     case ay=>first|rfl|assumption
     refine I V.az ?_;refine a6 ?_;refine cB ⟨a,oq done y p c k,v1,ml⟩ ?_ (hm:=q3 (bu _) (.cons _ (.refl _)));refine⟨by omega,by rw[Qs fK gK ai oh (by first|(have nT:=su;exact fun q=>absurd q.2 su)|(have nT:=zf;exact fun q=>absurd q.1 zf)|(intro _;omega)),KU],by have:=Lj (done:=done) (y:=y) (p:=p) (c:=c) (k:=k);omega,Bh⟩
  ·have aV:done=j5 g (gB g) p dS:=by
    rw[<-KU,show j5 g (gB g) p c=[] by unfold j5;rw[LD fK (by omega)];rfl,gj]
   refine aj ?_;refine ab.exit ?_;refine rg ?_;refine I V.az ?_;refine a6 ?_;obtain⟨bv,gJ,rfl⟩:=cw.form;refine cw.hQ (.refl _) fun e2 cF xS=>?_;have kw:=NZ xS;obtain⟨_,ue⟩:=kw.at;refine rg ?_;refine aM ?_;refine I V.bt ?_;refine I V.az ?_;refine ns ?_;refine ab.block ?_;refine' ab.c0 (l':=[(12,(.slice none 0 0)),(13,.int .i64 (((done.length):Int) -1)),(8,_)]) ⟨?uQ,?r9,rfl,trivial⟩ (bu _) ?_;case uQ=>exact bP
   case r9=>exact bP
   refine aj ?_;refine' ab.dF (fun(bC:Nat×Value×aN)=>match bC with|(k,v2,It)=>⟨[(12,v2),(13,.int .i64 ((k:Int) -1))],It++[(a3,.row (iw g aT aQ aK ci) 27)],e2,k<=done.length/\Acc 145 2 v2 (done.drop k).reverse.length (ik (done.drop k).reverse) It,k⟩) ⟨done.length,.slice none 0 0,[]⟩ ?hs ?bA
   case hs=>exact⟨cW _,by rw[List.drop_length];exact .nil⟩
   case bA=>
    rintro⟨k,v2,It⟩ hinv;try simp only at hinv
    obtain⟨aO,Bi⟩:=hinv;refine rg ?_;refine I V.ag ?_;refine I V.aZ ?_;refine ns ?_;refine If (fun acx=>?_) fun acx=>?_
    ·obtain⟨ad,aul,arJ,asj,rfl,jZ,aid⟩:=ue (by omega);obtain⟨x,AT,U,ahL,_,rfl⟩:=aid ((k:Int) -1) (by omega) (by omega);have e5:done[k -1]?=some x:=by rw[<-U];congr 1;omega
     have ahR:done.drop (k -1)=x::done.drop k:=by
        have cV:=(dY.1 e5).1;rw[ny cV,show k -1+1=k by omega];congr 1
        rw[dj cV] at e5;injection e5
     have Ps:(done.drop k).reverse.length<=2000:=by simp;omega
     refine c7 ?_;refine aj ?_;refine ab.block ?_;refine rg ?_;refine aM ?_;refine I V.aW ?_;refine I V.c9 ?_;refine jK (E6 Q g0) fun abl=>?_;refine' W.step rfl (.of (kk rfl rfl rfl rfl rfl rfl (E6 Q g0) (RS Q g0) (fun i q=>by cases q) ?cw ?hm ?U ?cr ?ca ?av fun aau XP Bk=>?_));case cw=>assumption
     case hm=>exact s'
     case U=>exact hR
     case cr=>first|rfl|(simp;done)|(simp;omega)
     case ca=>first|rfl|exact hf _
     case av=>exact cc
     refine I V.az ?_;refine bi ?_;refine I V.ag ?_;refine I V.bt ?_;refine I V.az ?_;refine a6 ?_;refine cB ⟨k -1,aau,XP⟩ ?_ (hm:=q3 (bu _) (.cons _ (.refl _)));refine⟨by omega,?_⟩;rw[ahR];exact Bk.uL (by simp) (by rw[List.reverse_cons,E3];rfl)
    ·obtain rfl:k=0:=by omega
     rw[mr,aV] at Bi;refine aj ?_;refine ab.exit ?_;obtain⟨b2,c2,rfl⟩:=Bi.form;refine Bi.hQ (m0:=[(a3,.row (iw g aT aQ aK ci) 27)]) (.refl _) fun jV dU HT=>?_;refine rg ?_;refine aM ?_;refine ns ?_;refine ab.ret ?_;refine'⟨.inr rfl,rfl,_,[(a3,_)],.tmp rfl .nil,bu _,⟨_,_,a3,rfl,rfl,ch.trans (cF.trans dU),NZ HT⟩⟩
end
end
end Go.Opn
