/- A part of the proof of ResumeBytes. -/
import Derived.Test.YtkmfhjilfjecmaaGreatDoorCbb
import Derived.Test.YtkmfhjilfjecmaaGreatDoorCay
set_option maxRecDepth 100000
set_option maxHeartbeats 4000000
set_option linter.unusedVariables false
set_option linter.unusedSimpArgs false
namespace Go.Opn
noncomputable section
open Go.Cre Go.RowKit Go.Proofs
theorem fc.tail{α:Type}{J:aH}{e:TypeId}{sz a:Nat}{R:α->List Value->Prop}{w:Value}{xs:List α}{cs:List Value}(a1:a<xs.length)
 (hw:hL J e sz w (((xs.drop a).length:Int) -1).toNat ((cs.drop ((1:Int).toNat*sz)).take ((((xs.drop a).length:Int) -1).toNat*sz)))
 (ei:∀i x,(xs.drop a)[i]?=some x->R x ((cs.drop (i*sz)).take sz)):∃b c,w=.slice b (xs.drop (a+1)).length c/\fc J e sz R (.slice b (xs.drop (a+1)).length c) (xs.drop (a+1)):=by
 have aL:(((xs.drop a).length:Int) -1).toNat=(xs.drop (a+1)).length:=by rw[ms,ms];omega
 rw[aL] at hw;obtain⟨b,c,rfl,_⟩:=hw.inv;refine⟨b,c,rfl,⟨_,hw,fun i x U=>?_⟩⟩;have ao:i<(xs.drop (a+1)).length:=(dY.1 U).1;have ae:=ei (i+1) x (by rw[q4] at U ⊢;rw[<-U];congr 1;omega);have hle:i*sz+sz<=(xs.drop (a+1)).length*sz:=by rw[<-po];exact nB _ ao
 rw[FH,yz,yC,mu (by omega),show(1:Int).toNat*sz+i*sz=(i+1)*sz by rw[nA,show(1:Int).toNat=1 from rfl];omega];exact ae
theorem uM{ns:List cR}{f a:Nat}{kF d:Int}{x:cR}(U:ns[a]?=some x)(h:hk (dN ns f a (d+1)) x.ak (a+1)=none):dN ns (f+1) kF d a=none:=by
 unfold dN;rw[U];simp only;rw[h]
theorem Ac{ns:List cR}{f a n:Nat}{kF d:Int}{x:cR}{es:List gu}(U:ns[a]?=some x)(h:hk (dN ns f a (d+1)) x.ak (a+1)=some (n,es)):dN ns (f+1) kF d a=some (n,(kF,d,(n:Int) -1)::es):=by
 unfold dN;rw[U];simp only;rw[h]
section
variable {Q:dD Tryz.prog}{g0:Nat}{J:aH}
abbrev Fa(a n:Nat):Value:=.slice (some ⟨a,0,none⟩) n n
abbrev ll(a:Nat)(L:List Int):Nat×cC:=(a,.row (L.map (Value.int .i64)) 3)
abbrev Fo(db dc ad cj:Nat)(g:bq)(aT:Option Addr)(aQ:Nat)(aK:Option Addr)(ci:Nat)(P D L:List Int):aN:=[jT db g aT aQ aK ci (Fa dc g.ns.length) (Fa ad g.ns.length) (Fa cj g.ns.length),ll dc P,ll ad D,ll cj L]
def abd(db dc ad cj:Nat)(g:bq)(aT:Option Addr)(aQ:Nat)(aK:Option Addr)(ci:Nat)(a:Nat)(P D L:List Int)(r:Option (Nat×List gu))(J:aH):Value->aN->aH->Prop:=fun u m' af=>∃b n c ok q7 CW bN,u=.tuple #[.slice b n c,.bool ok]/\m'=Fo db dc ad cj g aT aQ aK ci q7 CW bN/\J=af/\q7.length=g.ns.length/\CW.length=g.ns.length/\bN.length=g.ns.length/\
 (match r with
 |none=>ok=false
 |some (bX,es)=>ok=true/\q7=jR P a (es.map fun e=>e.1)/\CW=jR D a (es.map fun e=>e.2.1)/\bN=jR L a (es.map fun e=>e.2.2)/\n=(g.ns.drop bX).length/\fc J 47 6 (nC J) (.slice b (g.ns.drop bX).length c) (g.ns.drop bX))
theorem ap5{g:bq}{aT aK:Option Addr}{aQ ci:Nat}{db dc ad cj:Nat}(aq:fH J g aT aQ aK ci)(de:g.ns.length<=2000)(av:∀x∈g.ns,x.ak.length<=60):∀(f a:Nat) (kF d:Int) (P D L:List Int) (bv:Option Addr) (gJ:Nat),a<=g.ns.length->g.ns.length<a+f->P.length=g.ns.length->D.length=g.ns.length->L.length=g.ns.length->0<=d->d<=a->
 fc J 47 6 (nC J) (.slice bv (g.ns.drop a).length gJ) (g.ns.drop a)->
 Fn (bd Q g0) 70 [.pointer (some ⟨db,0,none⟩),.int .i64 kF,.int .i64 d,.slice bv (g.ns.drop a).length gJ] (Fo db dc ad cj g aT aQ aK ci P D L) J (abd db dc ad cj g aT aQ aK ci a P D L (dN g.ns f kF d a) J):=by
 intro f;induction f with
 |zero=>intro a kF d P D L bv gJ aa ae;omega
 |succ f aI=>
 intro a kF d P D L bv gJ a1 aD dt jt bS ud ahO kw;have K0:(g.ns.drop a).length=g.ns.length -a:=ms;have fX:addrEq aK aK=true:=aq.i.addr;have gq:addrEq aT aT=true:=aq.n.addr;refine Fn.cH (cM Tryz.func70) rfl rfl fun H=>?_;refine rg ?_;refine aM ?_;refine bi ?_;refine aM ?_;refine I V.aZ ?_;refine ns ?_;refine If (fun yW=>?_) fun yW=>?_
 ·refine rg ?_;refine aM ?_;refine ns ?_;refine ab.ret ?_;refine'⟨.inr rfl,rfl,_,_,.tmp rfl (.tmp rfl .nil),bu _,?_⟩;first
   |exact⟨_,_,_,_,P,D,L,rfl,rfl,rfl,dt,jt,bS,by rw[show dN g.ns (f+1) kF d a=none by unfold dN;rw[fo (by omega)]]⟩
   |exact⟨_,_,_,_,oG,oD,eN,rfl,rfl,rfl,vI,vG,vH,by rw[uM lS (tD (k:=k+1) (by rw[rh fs qt,aE (by omega)]))]⟩
   |exact⟨_,_,_,_,C3,eQ,gv,rfl,rfl,rfl,xu,ju,Hc,by
     have:dN g.ns f a (d+1) cur=none:=by
      cases ee:dN g.ns f a (d+1) cur with
      |none=>rfl
      |some p=>obtain⟨bX,aL⟩:=p;rw[ee] at hm;rw[hm.1] at kq;cases kq
     rw[uM lS (tD (k:=k+1) (by rw[rh fs qt,this];split<;>rfl))]⟩
   |(refine⟨_,_,_,_,oG,oD,_,rfl,rfl,rfl,vI,vG,?_,?_⟩
     rw[fz];exact vH;rw[eo (by omega)] at fs;rw[Ac lS fs];refine⟨rfl,na,gT,?_,rfl,Hs⟩;rw[zh,L1 (by simp;omega),nz];congr 2;show _=(cur:Int) -1;omega)
 ·have cV:a<g.ns.length:=by omega
  obtain⟨_,fK⟩:=kw.at;obtain⟨a0,off,cells,bz,rfl,mC,ec⟩:=fK (by omega);obtain⟨x,cs,U,gU,iz,ei⟩:=ec 0 (by omega) (by omega);obtain⟨b1,c1,b2,c2,b3,c3,rfl,eG,gM,gA⟩:=ei;have zk:=iz 3 _ (by decide) rfl;have lS:g.ns[a]?=some x:=by simpa using U
  have aj7:=av x (cb lS);obtain⟨jo,lj,ahi⟩:=kw.ex;have kf:=eG.iH [];refine c7 ?_;refine fR [0,1,2,3] ?_;refine aj ?_;refine' ab.hl 0 [(10,.int .i64 (a:Int))] ?adw ?aei;case adw=>
   refine ab.region ?_;refine aM ?_;refine I V.aG ?_;refine aM ?_;refine I V.bt ?_;refine I V.az ?_;refine a6 ?_;exact ce
  case aei=>
   refine aj ?_;refine ab.draw rfl (by kernel_rfl) (bc:=[.val 0,.val 1,.val 2,.val 3,.val 4,.val 5,.val 6,.val 7,.val 8,.val 9,.val 10,.val 11,.val 12,.bR 13,.val 14,.cA [11,9],.bR 15]) (by kernel_rfl) ?_;refine cq ?_;refine al rfl V.aG ?_;refine cq ?_;refine al rfl V.aG ?_;refine cq ?_;refine al rfl V.aW ?_;refine' a8.fP rfl rfl (hy rfl rfl rfl rfl (fQ rfl) rfl rfl rfl ?aa ?hs ?au ?_);case au=>repeat first|exact .head _ _ _ _|apply cQ.tail|apply cQ.app
   case hs=>exact jA a (by omega)
   case aa=>first|rfl|assumption
   refine al rfl V.aW ?_;refine a8.cA eX ?_;refine' a8.fP rfl rfl (hy rfl rfl rfl rfl (fQ rfl) rfl rfl rfl ?aa ?hs ?au ?_);case au=>repeat first|exact .head _ _ _ _|apply cQ.tail|apply cQ.app
   case hs=>exact jA a (by omega)
   case aa=>first|rfl|assumption
   refine a8.nil ?_;refine rg ?_;refine I V.ag ?_;refine' W.step rfl (.of (aqg rfl rfl rfl rfl (Rt Q g0) ?ay ?aO rfl rfl ?bw ?aa ?ae fun aas aj2=>?_));case ay=>assumption
   case aO=>exact cc
   case bw=>exact cc
   case aa=>exact cc
   case ae=>exact cc
   obtain⟨sr,sx,rfl,ahX⟩:=fc.tail cV aj2 ahi;refine aM ?_;refine bi ?_;refine I V.ag ?_;refine I V.aW ?_;refine I V.ba ?_;refine I V.aG ?_;refine aM ?_;refine ns ?_;refine ab.block ?_;refine' ab.c0 (l':=[(11,.slice (sr) (g.ns.drop (a+1)).length (sx)),(48,.int .i64 ((0):Int)),(0,_),(2,_),(10,_),(46,_),(47,_)]) ⟨?yp,?apX,rfl,rfl,rfl,rfl,rfl,trivial⟩ (bu _) ?_;case yp=>exact bP
   case apX=>exact bP
   refine aj ?_;refine' ab.dF (fun(bC:Nat×Nat×(List gu)×(Option Addr)×Nat×(List Int)×(List Int)×(List Int))=>match bC with|(k,cur,es,jn,ks,oG,oD,eN)=>⟨[(11,.slice jn (g.ns.drop cur).length ks),(48,.int .i64 (k:Int))],Fo db dc ad cj g aT aQ aK ci oG oD eN,J,k<=x.ak.length/\hk (dN g.ns f a (d+1)) (x.ak.take k) (a+1)=some (cur,es)/\fc J 47 6 (nC J) (.slice jn (g.ns.drop cur).length ks) (g.ns.drop cur)/\oG=jR P a (kF::es.map fun e=>e.1)/\oD=jR D a (d::es.map fun e=>e.2.1)/\eN=jR L (a+1) (es.map fun e=>e.2.2),x.ak.length -k⟩) ⟨0,a+1,[],sr,sx,P.set a kF,D.set a d,L⟩ ?hs ?bA
   case hs=>exact⟨cy _,rfl,ahX,Zq (by omega),Zq (by omega),(am9 _ _).symm⟩
   case bA=>
    rintro⟨k,cur,es,jn,ks,oG,oD,eN⟩ hinv;try simp only at hinv
    obtain⟨aO,fs,Hs,na,gT,zh⟩:=hinv;refine rg ?_;refine I V.aZ ?_;refine ns ?_;refine If (fun su=>?_) fun su=>?_
    ·obtain⟨a4,aup,aru,rfl,lh,ah9⟩:=kf (by omega);obtain⟨Fs,H8,e4⟩:=ah9 k (by omega) (by omega);have qt:x.ak[k]?=some Fs:=by simpa using H8
     obtain⟨xz,jv,oX⟩:=AQ (fun p q r s=>qP _ _ _ p q r s) fs (by omega);have Eg:(g.ns.drop cur).length=g.ns.length -cur:=ms;have vI:oG.length=g.ns.length:=by rw[na,Cl (by simp;omega)];exact dt
     have vG:oD.length=g.ns.length:=by rw[gT,Cl (by simp;omega)];exact jt
     have vH:eN.length=g.ns.length:=by rw[zh,Cl (by simp;omega)];exact bS
     refine c7 ?_;refine aj ?_;refine ab.block ?_;refine rg ?_;refine I V.aW ?_;refine' W.step rfl (Exec.val rfl rfl (gP rfl rfl ?aw (ho (eW rfl) ?ay)) ?_);case aw=>exact lh.sub (fun _ q=>by cases q)
     case ay=>first|rfl|assumption
     refine I V.az ?_;refine bi ?_;refine aM ?_;refine I V.aG ?_;refine aM ?_;refine I V.bt ?_;refine I V.aZ ?_;refine ns ?_;refine If (fun acv=>?_) fun acv=>?_
     ·refine rg ?_;refine aM ?_;refine ns ?_;refine ab.ret ?_;refine'⟨.inr rfl,rfl,_,_,.tmp rfl (.tmp rfl .nil),bu _,?_⟩;first
        |exact⟨_,_,_,_,P,D,L,rfl,rfl,rfl,dt,jt,bS,by rw[show dN g.ns (f+1) kF d a=none by unfold dN;rw[fo (by omega)]]⟩
        |exact⟨_,_,_,_,oG,oD,eN,rfl,rfl,rfl,vI,vG,vH,by rw[uM lS (tD (k:=k+1) (by rw[rh fs qt,aE (by omega)]))]⟩
        |exact⟨_,_,_,_,C3,eQ,gv,rfl,rfl,rfl,xu,ju,Hc,by
          have:dN g.ns f a (d+1) cur=none:=by
           cases ee:dN g.ns f a (d+1) cur with
           |none=>rfl
           |some p=>obtain⟨bX,aL⟩:=p;rw[ee] at hm;rw[hm.1] at kq;cases kq
          rw[uM lS (tD (k:=k+1) (by rw[rh fs qt,this];split<;>rfl))]⟩
        |(refine⟨_,_,_,_,oG,oD,_,rfl,rfl,rfl,vI,vG,?_,?_⟩
          rw[fz];exact vH;rw[eo (by omega)] at fs;rw[Ac lS fs];refine⟨rfl,na,gT,?_,rfl,Hs⟩;rw[zh,L1 (by simp;omega),nz];congr 2;show _=(cur:Int) -1;omega)
     ·refine aj ?_;refine ab.skip ?_;refine rg ?_;refine aM ?_;refine I V.bt ?_;refine I V.ag ?_;refine' W.step rfl (Exec.call rfl rfl rfl rfl rfl rfl rfl (bf:=Fo db dc ad cj g aT aQ aK ci oG oD eN) (bM:=[]) (.refl _) trivial (aI cur a (d+1) oG oD eN jn ks jv (by omega) vI vG vH (by omega) (by omega) Hs) ?_);rintro v m' af hle ⟨b',nR,cd,ok,C3,eQ,gv,rfl,rfl,rfl,xu,ju,Hc,hm⟩;refine aM ?_;refine bi ?_;refine I V.ag ?_;refine I V.ou ?_;refine ns ?_;refine If (fun kq=>?_) fun kq=>?_
      ·refine rg ?_;refine aM ?_;refine ns ?_;refine ab.ret ?_;refine'⟨.inr rfl,rfl,_,_,.tmp rfl (.tmp rfl .nil),bu _,?_⟩;first
        |exact⟨_,_,_,_,P,D,L,rfl,rfl,rfl,dt,jt,bS,by rw[show dN g.ns (f+1) kF d a=none by unfold dN;rw[fo (by omega)]]⟩
        |exact⟨_,_,_,_,oG,oD,eN,rfl,rfl,rfl,vI,vG,vH,by rw[uM lS (tD (k:=k+1) (by rw[rh fs qt,aE (by omega)]))]⟩
        |exact⟨_,_,_,_,C3,eQ,gv,rfl,rfl,rfl,xu,ju,Hc,by
          have:dN g.ns f a (d+1) cur=none:=by
           cases ee:dN g.ns f a (d+1) cur with
           |none=>rfl
           |some p=>obtain⟨bX,aL⟩:=p;rw[ee] at hm;rw[hm.1] at kq;cases kq
          rw[uM lS (tD (k:=k+1) (by rw[rh fs qt,this];split<;>rfl))]⟩
        |(refine⟨_,_,_,_,oG,oD,_,rfl,rfl,rfl,vI,vG,?_,?_⟩
          rw[fz];exact vH;rw[eo (by omega)] at fs;rw[Ac lS fs];refine⟨rfl,na,gT,?_,rfl,Hs⟩;rw[zh,L1 (by simp;omega),nz];congr 2;show _=(cur:Int) -1;omega)
      ·obtain⟨bX,aL,ee,xv,agZ,ahb,rfl,ahW⟩:∃bX aL,dN g.ns f a (d+1) cur=some (bX,aL)/\C3=jR oG cur (aL.map fun e=>e.1)/\eQ=jR oD cur (aL.map fun e=>e.2.1)/\gv=jR eN cur (aL.map fun e=>e.2.2)/\nR=(g.ns.drop bX).length/\fc J 47 6 (nC J) (.slice b' (g.ns.drop bX).length cd) (g.ns.drop bX):=by
        cases ee:dN g.ns f a (d+1) cur with
        |none=>rw[ee] at hm;rw[hm] at kq;cases kq
        |some p=>obtain⟨bX,aL⟩:=p;rw[ee] at hm;exact⟨bX,aL,rfl,hm.2⟩
       subst xv;subst agZ;subst ahb;refine ln ?_;refine I V.bt ?_;refine I V.ag ?_;refine a6 ?_;refine cB ⟨k+1,bX,es++aL,b',cd,_,_,_⟩ ?_;refine⟨by omega,by rw[rh fs qt,an (by omega),ee],ahW,?_,?_,?_⟩;(rw[na,Rk (by simp;omega) (by simp;omega)];simp);(rw[gT,Rk (by simp;omega) (by simp;omega)];simp);(rw[zh,Rk (by simp;omega) (by simp;omega)];simp)
    ·obtain⟨xz,jv,oX⟩:=AQ (fun p q r s=>qP _ _ _ p q r s) fs (by omega);have Eg:(g.ns.drop cur).length=g.ns.length -cur:=ms;have vI:oG.length=g.ns.length:=by rw[na,Cl (by simp;omega)];exact dt
     have vG:oD.length=g.ns.length:=by rw[gT,Cl (by simp;omega)];exact jt
     have vH:eN.length=g.ns.length:=by rw[zh,Cl (by simp;omega)];exact bS
     refine aj ?_;refine ab.exit ?_;refine aj ?_;refine ab.draw rfl (by kernel_rfl) (bc:=[.val 0,.val 1,.val 2,.val 3,.val 4,.val 5,.val 6,.val 7,.val 8,.val 9,.val 10,.val 11,.val 12,.val 13,.val 14,.val 15,.bR 16]) (by kernel_rfl) ?_;refine cq ?_;refine al rfl V.aG ?_;refine cq ?_;refine al rfl V.aG ?_;refine cq ?_;refine al rfl V.bt ?_;refine al rfl V.bt ?_;refine al rfl V.aW ?_;refine' a8.fP rfl rfl (hy rfl rfl rfl rfl (fQ rfl) rfl rfl rfl ?aa ?hs ?au ?_);case au=>repeat first|exact .head _ _ _ _|apply cQ.tail|apply cQ.app
     case hs=>exact jA a (by omega)
     case aa=>first|rfl|assumption
     refine a8.nil ?_;refine rg ?_;refine aM ?_;refine ns ?_;refine ab.ret ?_;refine'⟨.inr rfl,rfl,_,_,.tmp rfl (.tmp rfl .nil),bu _,?_⟩;first
       |exact⟨_,_,_,_,P,D,L,rfl,rfl,rfl,dt,jt,bS,by rw[show dN g.ns (f+1) kF d a=none by unfold dN;rw[fo (by omega)]]⟩
       |exact⟨_,_,_,_,oG,oD,eN,rfl,rfl,rfl,vI,vG,vH,by rw[uM lS (tD (k:=k+1) (by rw[rh fs qt,aE (by omega)]))]⟩
       |exact⟨_,_,_,_,C3,eQ,gv,rfl,rfl,rfl,xu,ju,Hc,by
          have:dN g.ns f a (d+1) cur=none:=by
           cases ee:dN g.ns f a (d+1) cur with
           |none=>rfl
           |some p=>obtain⟨bX,aL⟩:=p;rw[ee] at hm;rw[hm.1] at kq;cases kq
          rw[uM lS (tD (k:=k+1) (by rw[rh fs qt,this];split<;>rfl))]⟩
       |(refine⟨_,_,_,_,oG,oD,_,rfl,rfl,rfl,vI,vG,?_,?_⟩
         rw[fz];exact vH;rw[eo (by omega)] at fs;rw[Ac lS fs];refine⟨rfl,na,gT,?_,rfl,Hs⟩;rw[zh,L1 (by simp;omega),nz];congr 2;show _=(cur:Int) -1;omega)
end
open Classical in
noncomputable instance (l:List Int):Decidable (MO l):=inferInstance
section
variable {Q:dD Tryz.prog}{g0:Nat}{J:aH}
theorem Xb{gn:aN}{b:Option Addr}{c:Nat}{l:List Int}{v:Int}(av:jX gn J b l)(aP:l.length<=1000000):
 Fn (bd Q g0) 105 [.slice b l.length c,.int .i64 v] gn J (fun u m' af=>u=.int .i64 (iD v l 0)/\m'=gn/\J=af):=by
 refine Fn.cH (cM Tryz.func105) rfl rfl fun H=>?_;refine rg ?_;refine I V.az ?_;refine bi ?_;refine aM ?_;refine ns ?_;refine ab.block ?_;refine' ab.c0 (l':=[(8,.int .i64 ((0):Int)),(0,_),(1,_),(7,_)]) ⟨?jC,rfl,rfl,rfl,trivial⟩ (bu _) ?_;case jC=>exact bP
 refine aj ?_;refine' ab.dF (fun(i:Nat)=>⟨[(8,.int .i64 (i:Int))],gn,J,i<=l.length/\iD v l 0=iD v (l.drop i) i,l.length -i⟩) (0) ?hs ?bA;case hs=>exact⟨cy _,rfl⟩
 case bA=>
  rintro i hinv;try simp only at hinv
  obtain⟨ao,Hw⟩:=hinv;refine rg ?_;refine I V.aZ ?_;refine ns ?_;refine If (fun dG=>?_) fun dG=>?_
  ·obtain⟨a,off,cells,rfl,lh,ec⟩:=av (by omega);obtain⟨x,U,e4⟩:=ec i (by omega) (by omega);have e5:l[i]?=some x:=by simpa using U
   refine c7 ?_;refine aj ?_;refine ab.block ?_;refine rg ?_;refine aM ?_;refine bi ?_;refine aM ?_;refine I V.aW ?_;refine' W.step rfl (Exec.val rfl rfl (gP rfl rfl ?aw (ho (eW rfl) ?ay)) ?_);case aw=>exact lh
   case ay=>first|rfl|assumption
   refine I V.aZ ?_;refine ns ?_;refine If (fun kN=>?_) fun kN=>?_
   ·refine rg ?_;refine aM ?_;refine ns ?_;refine ab.ret ?_;refine'⟨.inr rfl,rfl,_,_,.tmp rfl .nil,bu _,?_⟩;first
      |exact⟨by rw[Hw,Qm e5,aE (by simpa using kN)];rfl,rfl,rfl⟩
      |exact⟨by rw[Hw,W9 (by omega)];rfl,rfl,rfl⟩
   ·refine aj ?_;refine ab.skip ?_;refine rg ?_;refine I V.bt ?_;refine I V.ag ?_;refine a6 ?_;refine cB (i+1) ?_;exact⟨by omega,by rw[Hw,Qm e5,an (by simpa using kN)]⟩
  ·refine aj ?_;refine ab.exit ?_;refine rg ?_;refine I V.az ?_;refine ns ?_;refine ab.ret ?_;refine'⟨.inr rfl,rfl,_,_,.tmp rfl .nil,bu _,?_⟩;first
    |exact⟨by rw[Hw,Qm e5,aE (by simpa using kN)];rfl,rfl,rfl⟩
    |exact⟨by rw[Hw,W9 (by omega)];rfl,rfl,rfl⟩
theorem adi{gn:aN}{b:Option Addr}{c:Nat}{l:List Int}{v:Int}(av:jX gn J b l)(aP:l.length<=1000000):
 Fn (bd Q g0) 91 [.slice b l.length c,.int .i64 v] gn J (fun u m' af=>u=.bool (decide (v∈l))/\m'=gn/\J=af):=by
 refine Fn.cH (cM Tryz.func91) rfl rfl fun H=>?_;refine rg ?_;refine I V.az ?_;refine bi ?_;refine aM ?_;refine' W.step rfl (Exec.call rfl rfl rfl rfl rfl rfl rfl (bf:=gn) (bM:=[]) (by simp) trivial (Xb av aP) ?_);rintro v m' af hle ⟨rfl,rfl,rfl⟩;rw[gj];refine I V.aZ ?_;refine I V.az ?_;refine ns ?_;refine ab.ret ?_;refine'⟨.inr rfl,rfl,_,_,.tmp rfl .nil,bu _,?_⟩;refine⟨cD Value.bool ?_,rfl,rfl⟩;rw[qT,l6,l6];exact Qn
theorem ak5{gn:aN}{b:Option Addr}{c:Nat}{l:List Int}(av:jX gn J b l)(aP:l.length<=1000000)(aa:1<=l.length):
 Fn (bd Q g0) 71 [.slice b l.length c] gn J (fun u m' af=>u=.int .i64 (x3 l)/\m'=gn/\J=af):=by
 obtain⟨a,off,cells,rfl,lh,ec⟩:=av (by omega);obtain⟨kI,kA,HG⟩:=ec 0 (by omega) (by omega);refine Fn.cH (cM Tryz.func71) rfl rfl fun H=>?_;refine rg ?_;refine I V.az ?_;refine bi ?_;refine aM ?_;refine I V.aZ ?_;refine ns ?_;refine If (fun vk=>?_) fun vk=>?_
 ·exfalso;omega
 ·have Wh:x3 (l.take 1)=kI:=by
   cases l with
   |nil=>cases kA
   |cons y r=>simp at kA;subst kA;rfl
  refine ln ?_;refine I V.ag ?_;refine I V.aW ?_;refine' W.step rfl (Exec.val rfl rfl (gP rfl rfl ?aw (ho (eW rfl) ?ay)) ?_);case aw=>exact lh
  case ay=>first|rfl|assumption
  refine I V.az ?_;refine bi ?_;refine I V.az ?_;refine ns ?_;refine ab.block ?_;refine' ab.c0 (l':=[(3,.int .i64 (x3 (l.take (1)))),(4,.int .i64 ((1):Int)),(0,_)]) ⟨?jf,?j4,rfl,trivial⟩ (bu _) ?_;case jf=>exact bP
  case j4=>exact bP
  refine aj ?_;refine' ab.dF (fun(i:Nat)=>⟨[(3,.int .i64 (x3 (l.take i))),(4,.int .i64 (i:Int))],gn,J,1<=i/\i<=l.length,l.length -i⟩) (1) ?hs ?bA;case hs=>exact⟨cW _,by omega⟩
  case bA=>
   rintro i hinv;try simp only at hinv
   obtain⟨ais,ao⟩:=hinv;refine rg ?_;refine aM ?_;refine I V.aZ ?_;refine ns ?_;refine If (fun re=>?_) fun re=>?_
   ·obtain⟨x,U,e4⟩:=ec i (by omega) (by omega);have e5:l[i]?=some x:=by simpa using U
    have PH:=ak4 ais e5;refine c7 ?_;refine aj ?_;refine ab.block ?_;refine rg ?_;refine aM ?_;refine I V.aW ?_;refine' W.step rfl (Exec.val rfl rfl (gP rfl rfl ?aw (ho (eW rfl) ?ay)) ?_);case aw=>exact lh
    case ay=>first|rfl|assumption
    refine' W.step rfl (Exec.val rfl rfl (Mz rfl rfl rfl rfl rfl) ?_);refine I V.az ?_;refine bi ?_;refine I V.ag ?_;refine I V.bt ?_;refine I V.az ?_;refine a6 ?_;refine cB (i+1) ?_;exact⟨by omega,by omega⟩
   ·refine aj ?_;refine ab.exit ?_;refine rg ?_;refine aM ?_;refine ns ?_;refine ab.ret ?_;refine'⟨.inr rfl,rfl,_,_,.tmp rfl .nil,bu _,⟨by rw[eo (by omega)];rfl,rfl,rfl⟩⟩
theorem akx{gn:aN}{a:Int}:Fn (bd Q g0) 117 [.int .i64 a] gn J (fun u m' af=>u=.bool false/\m'=gn/\J=af):=by
 refine Fn.cH (cM Tryz.func117) rfl rfl fun H=>?_;refine rg ?_;refine I V.az ?_;refine bi ?_;refine aM ?_;refine I V.aZ ?_;refine I V.az ?_;refine ns ?_;refine ab.ret ?_;refine'⟨.inr rfl,rfl,_,_,.tmp rfl .nil,bu _,⟨by simp[qC],rfl,rfl⟩⟩
theorem akS{a b:Int}:Fn (bd Q g0) 106 [.int .i64 a,.int .i64 b] [] J (fun u m' af=>u=.bool (decide (a<b))/\m'=[]/\J=af):=by
 refine Fn.cH (cM Tryz.func106) rfl rfl fun H=>?_;refine rg ?_;refine I V.az ?_;refine bi ?_;refine I V.ag ?_;refine cl (G:=akx (gn:=[])) (h:=?_);rintro v m' af hle ⟨rfl,rfl,rfl⟩;refine I V.ag ?_;refine dr 7 (fun Kz=>?_) fun Kz=>?_
 ·exfalso;cases Kz
 ·refine ah ?_;refine W.oU rfl rfl rfl rfl rfl ?_;refine ah ?_;refine I V.aU ?_;refine I V.ag ?_;refine aX V.ag ?_;refine aX V.ag ?_;refine aX V.aZ ?_;refine I V.aU ?_;refine I V.az ?_;refine ns ?_;refine ab.ret ?_;refine c5 ?_;refine⟨cD Value.bool ?_,rfl,rfl⟩;first|rfl|simp
theorem akz{gn:aN}{b:Option Addr}{c:Nat}{l:List Int}(av:jX gn J b l)(aP:l.length<=1000000)(auF:addrEq b b=true):
 Fn (bd Q g0) 92 [.slice b l.length c] gn J (fun u m' af=>u=.bool (decide (MO l))/\m'=gn/\J=af):=by
 refine Fn.cH (cM Tryz.func92) rfl rfl fun H=>?_;refine rg ?_;refine I V.az ?_;refine bi ?_;refine aM ?_;refine I V.bt ?_;refine I V.az ?_;refine ns ?_;refine ab.block ?_;refine' ab.c0 (l':=[(3,.int .i64 ((l.length:Int) -1)),(0,_)]) ⟨?jf,rfl,trivial⟩ (bu _) ?_;case jf=>exact bP
 refine aj ?_;refine' ab.dF (fun(i:Int)=>⟨[(3,.int .i64 i)],gn,J,i<l.length/\-1<=i/\(∀(j:Nat) x y,i<=j->l[j]?=some x->l[j+1]?=some y->¬y<x),i.toNat⟩) ((l.length:Int) -1) ?hs ?bA;case hs=>exact⟨by omega,by omega,fun j x y a' U ai=>by have:=(dY.1 ai).1;omega⟩
 case bA=>
  rintro i hinv;try simp only at hinv
  obtain⟨ao,Hv,has⟩:=hinv;refine rg ?_;refine I V.ag ?_;refine I V.aZ ?_;refine ns ?_;refine If (fun my=>?_) fun my=>?_
  ·obtain⟨a,off,cells,rfl,lh,ec⟩:=av (by omega);obtain⟨gF,eG,ai0⟩:=ec i (by omega) (by omega);obtain⟨kI,kA,HG⟩:=ec (i -1) (by omega) (by omega);refine c7 ?_;refine aj ?_;refine ab.block ?_;refine aj ?_;refine ab.draw rfl (by kernel_rfl) (bc:=[.val 0,.val 1,.val 2,.val 3,.val 4,.val 5,.val 6,.val 7,.val 8,.bR 9]) (by kernel_rfl) ?_;refine cq ?_;refine al rfl V.aW ?_;refine' a8.val rfl rfl rfl rfl (gP rfl rfl ?aw (ho (eW rfl) ?ay)) ?_;case aw=>exact lh
   case ay=>first|rfl|assumption
   refine cq ?_;refine al rfl V.bt ?_;refine al rfl V.aW ?_;refine' a8.val rfl rfl rfl rfl (gP rfl rfl ?aw (ho (eW rfl) ?ay)) ?_;case aw=>exact lh
   case ay=>first|rfl|assumption
   refine' a8.call rfl rfl rfl rfl rfl rfl rfl rfl rfl rfl (bf:=[]) (bM:=gn) (.refl _) trivial (akS) ?_;rintro v m' af hle ⟨rfl,rfl,rfl⟩;rw[k2];refine a8.nil ?_;refine aj ?_;refine If (fun w6=>?_) fun w6=>?_
   ·refine rg ?_;refine I V.az ?_;refine ns ?_;refine ab.ret ?_;refine'⟨.inr rfl,rfl,_,_,.tmp rfl .nil,bu _,?_⟩;first
      |(refine⟨cD Value.bool ?_,rfl,rfl⟩
        symm;rw[mz];exact fun q=>q (i -1).toNat _ _ kA (by rw[show(i -1).toNat+1=i.toNat by omega];exact eG) (by simpa using w6))
      |(refine⟨cD Value.bool ?_,rfl,rfl⟩
        symm;rw[l6];exact fun j x y U ai=>has j x y (by omega) U ai)
   ·refine aj ?_;refine ab.skip ?_;refine rg ?_;refine I V.ag ?_;refine I V.bt ?_;refine I V.az ?_;refine a6 ?_;refine cB (i -1) ?_;refine⟨by omega,by omega,fun j x y a' U ai=>?_⟩;by_cases q:i<=j;(exact has j x y q U ai);(obtain rfl:j=(i -1).toNat:=by omega);(rw[kA] at U;rw[show(i -1).toNat+1=i.toNat by omega,eG] at ai;injection U with U;injection ai with ai;subst U;subst ai;simpa using w6)
  ·refine aj ?_;refine ab.exit ?_;refine rg ?_;refine I V.az ?_;refine ns ?_;refine ab.ret ?_;refine'⟨.inr rfl,rfl,_,_,.tmp rfl .nil,bu _,?_⟩;first
    |(refine⟨cD Value.bool ?_,rfl,rfl⟩
      symm;rw[mz];exact fun q=>q (i -1).toNat _ _ kA (by rw[show(i -1).toNat+1=i.toNat by omega];exact eG) (by simpa using w6))
    |(refine⟨cD Value.bool ?_,rfl,rfl⟩
      symm;rw[l6];exact fun j x y U ai=>has j x y (by omega) U ai)
end
theorem IF{g:bq}{x:cR}(h:eu g x=0)(aO:x.k=2):0<=x.i/\x.i<g.is.length/\0<=x.p/\x.p<g.pl/\1<=x.ak.length/\x.ak.length<=10:=by
 unfold eu at h;rw[an (by omega),aE aO] at h;split at h
 ·omega
 ·split at h<;>omega
theorem X2{g:bq}:∀{l:List cR},(∀x∈l,eu g x=0)->pc g l=0:=by
 intro l;induction l with
 |nil=>intro _;rfl
 |cons y r aI=>
  intro h;show(if eu g y≠0 then eu g y else pc g r)=0;rw[an (by rw[h y (.head _)];simp)];exact aI fun x U=>h x (.tail _ U)
theorem s5{g:bq}:∀{l:List cR} {i:Nat} {x:cR},(∀y∈l.take i,eu g y=0)->l[i]?=some x->eu g x≠0->pc g l=eu g x:=by
 intro l;induction l with
 |nil=>intro i x _ h;cases h
 |cons y r aI=>
  intro i x h U aP;show(if eu g y≠0 then eu g y else pc g r)=_;cases i with
  |zero=>simp at U;subst U;rw[aE aP]
  |succ i=>
   rw[an (by rw[h y (.head _)];simp)];exact aI (fun z bE=>h z (.tail _ bE)) (by simpa using U) aP
theorem te{α:Type}{P:α->Prop}{l:List α}{i:Nat}{x:α}(h:∀y∈l.take i,P y)(U:l[i]?=some x)(au:P x):∀y∈l.take (i+1),P y:=by
 intro y ai;rw[nY,U] at ai;rcases ko.1 ai with q|q
 ·exact h y q
 ·simp at q;subst q;exact au
section
variable {Q:dD Tryz.prog}{g0:Nat}{J:aH}
theorem aoa{db:Nat}{g:bq}{aT aK:Option Addr}{aQ ci:Nat}{je jd gY:Value}{aY:aN}(aq:fH J g aT aQ aK ci)(aP:∀x∈g.ns,eu g x=0)(de:g.ns.length<=2000)(i2:g.is.length<=200):
 Fn (bd Q g0) 72 [.pointer (some ⟨db,0,none⟩)] (jT db g aT aQ aK ci je jd gY::aY) J (fun u m' af=>u=.int .i64 (pV g)/\m'=jT db g aT aQ aK ci je jd gY::aY/\J=af):=by
 obtain⟨_,fE⟩:=aq.n.at;obtain⟨_,kx⟩:=aq.i.at;have fX:addrEq aK aK=true:=aq.i.addr;have gq:addrEq aT aT=true:=aq.n.addr;refine Fn.cH (cM Tryz.func72) rfl rfl fun H=>?_;refine rg ?_;refine I V.az ?_;refine bi ?_;refine aM ?_;refine I V.aG ?_;refine I V.bL ?_;refine' W.step rfl (.of (p4 rfl rfl rfl rfl rfl (e0 Q g0) ?bw ?aa ?ae fun wU=>?_));case bw=>exact cc
 case aa=>exact cc
 case ae=>exact cc
 refine I V.az ?_;refine a6 ?_;rw[yv,cx,show List.replicate g.is.length (0:Int)=mB g g.ns.length from(afn (cW _)).symm];refine rg ?_;refine aM ?_;refine I V.aG ?_;refine I V.bL ?_;refine I V.bt ?_;refine I V.az ?_;refine ns ?_;refine ab.block ?_;refine' ab.c0 (l':=[(4,.int .i64 (((g.ns.length):Int) -1)),(0,_),(3,_)]) ⟨?j4,rfl,rfl,trivial⟩ (bu _) ?_;case j4=>exact bP
 refine aj ?_;refine' ab.dF (fun(k:Nat)=>⟨[(4,.int .i64 ((k:Int) -1))],ll wU (mB g k)::jT db g aT aQ aK ci je jd gY::aY,J,k<=g.ns.length,k⟩) (g.ns.length) ?hs ?bA;case hs=>exact cW _
 case bA=>
  rintro k hinv;try simp only at hinv
  have aO:=hinv;refine rg ?_;refine I V.ag ?_;refine I V.aZ ?_;refine ns ?_;refine If (fun vi=>?_) fun vi=>?_
  ·obtain⟨a,off,cells,bz,rfl,mC,ec⟩:=fE (by omega);obtain⟨x,cs,U,gU,_,ei⟩:=ec ((k:Int) -1) (by omega) (by omega);obtain⟨b1,c1,b2,c2,b3,c3,rfl,eG,gM,gA⟩:=ei;have e5:g.ns[k -1]?=some x:=by rw[<-U];congr 1;omega
   have nf:k -1+1=k:=by omega
   have e4:=aP x (cb e5);refine c7 ?_;refine aj ?_;refine ab.block ?_;refine rg ?_;refine aM ?_;refine I V.aG ?_;refine I V.ag ?_;refine I V.aW ?_;refine I V.c9 ?_;refine' W.step rfl (.of (eT rfl rfl rfl (oB Q g0) rfl rfl rfl fun a5=>?_));refine dC ?_;refine bi ?_;refine I V.ba ?_;refine I V.aG ?_;refine I V.aZ ?_;refine ns ?_;refine If (fun fW=>?_) fun fW=>?_
   ·have ui:=IF e4 (by simpa using fW);have h1:(mB g k).length=g.is.length:=tL;refine rg ?_;refine aM ?_;refine I V.aG ?_;refine I V.ag ?_;refine I V.bt ?_;refine I V.aW ?_;refine' W.step rfl (.of (hy rfl rfl rfl rfl (fQ rfl) rfl rfl rfl ?aa ?hs ?au ?_));case au=>repeat first|exact .head _ _ _ _|apply cQ.tail|apply cQ.app
    case hs=>exact jA x.i.toNat (by omega)
    case aa=>first|rfl|assumption
    refine bi ?_;refine I V.ag ?_;refine I V.bt ?_;refine I V.az ?_;refine a6 ?_;refine cB (k -1) ?_ (hm:=(by rw[afp e5 (by simpa using fW) (by omega) (by omega),nf,show((k -1:Nat):Int)=(k:Int) -1 by omega];exact .cons _ (.refl _)));omega
   ·refine aj ?_;refine ab.skip ?_;refine rg ?_;refine I V.ag ?_;refine I V.bt ?_;refine I V.az ?_;refine a6 ?_;refine cB (k -1) ?_ (hm:=(by rw[afo e5 (by simpa using fW),nf];exact .cons _ (.refl _)));omega
  ·obtain rfl:k=0:=by omega
   refine aj ?_;refine ab.exit ?_;refine rg ?_;refine aM ?_;refine I V.aG ?_;refine aM ?_;refine ns ?_;refine ab.block ?_;refine' ab.c0 (l':=[(49,.int .i64 ((0):Int)),(0,_),(3,_),(47,_),(48,_)]) ⟨?apY,rfl,rfl,rfl,rfl,trivial⟩ (bu _) ?_;case apY=>exact bP
   refine aj ?_;refine' ab.dF (fun(i:Nat)=>⟨[(49,.int .i64 (i:Int))],ll wU (mB g 0)::jT db g aT aQ aK ci je jd gY::aY,J,i<=g.ns.length/\∀x∈g.ns.take i,x.k=2->g.is[x.i.toNat]?=some (x.p,(x.ak.length:Int)),g.ns.length -i⟩) (0) ?hs ?bA;case hs=>exact⟨cy _,fun x U=>by cases U⟩
   case bA=>
    rintro i hinv;try simp only at hinv
    obtain⟨ao,bx⟩:=hinv;refine rg ?_;refine I V.aZ ?_;refine ns ?_;refine If (fun j'=>?_) fun j'=>?_
    ·obtain⟨a,off,cells,bz,rfl,mC,ec⟩:=fE (by omega);obtain⟨x,cs,U,gU,_,ei⟩:=ec i (by omega) (by omega);obtain⟨b1,c1,b2,c2,b3,c3,rfl,eG,gM,gA⟩:=ei;have bb:addrEq b1 b1=true:=by obtain⟨e,h⟩:=eG;exact h.addr
     rw[cx] at U;have e4:=aP x (cb U);refine c7 ?_;refine aj ?_;refine ab.block ?_;refine rg ?_;refine I V.aW ?_;refine I V.c9 ?_;refine' W.step rfl (.of (eT rfl rfl rfl (oB Q g0) rfl rfl rfl fun cT=>?_));refine dC ?_;refine ns ?_;refine ab.DF [] rfl (by kernel_rfl) (bc:=[.val 0,.val 1,.val 2,.val 3,.val 4,.val 5,.val 6,.val 7,.val 8,.val 9,.val 10,.val 11,.val 12,.val 13,.val 14,.val 15,.val 16,.val 17,.val 18,.val 19,.val 20]) (by kernel_rfl) ?_;refine dk rfl V.ba ?_;refine dk rfl V.aG ?_;refine dk rfl V.aZ ?_;refine dk rfl V.ag ?_;refine ts 56 (fun vE=>?_) fun vE=>?_
     ·have ui:=IF e4 (by simpa using vE);obtain⟨g',Yc,acN,aew,rfl,mD,Pg⟩:=kx (by omega);obtain⟨y,cs,ai,ub,_,rfl⟩:=Pg x.i (by omega) (by omega);refine df rfl V.ag ?_;refine df rfl V.pb ?_;refine df rfl V.ba ?_;refine df rfl V.ba ?_;refine df rfl V.aG ?_;refine df rfl V.ba ?_;refine df rfl V.aG ?_;refine df rfl V.aW ?_;refine df rfl V.c9 ?_;refine df rfl V.ba ?_;refine df rfl V.aG ?_;refine df rfl V.ba ?_;refine df rfl V.aG ?_;refine df rfl V.bL ?_;refine df rfl V.jl ?_;refine' dv.aag rfl rfl rfl rfl rfl rfl (apr rfl (.inr ⟨rfl,rfl⟩) rfl rfl (akl Q g0) (la:=[_,_]) (bs:=[_,_]) rfl rfl rfl rfl) ?_;refine dk rfl V.aU ?_;refine dv.nil ?_;refine aj ?_;refine If (fun kq=>?_) fun kq=>?_
      ·
        refine rg ?_;refine I V.az ?_;refine ns ?_;refine ab.ret ?_;refine'⟨.inr rfl,rfl,_,jT _ _ _ _ _ _ _ _ _::aY,.tmp rfl .nil,(by first|exact .cons _ (.refl _)|exact .cons _ (.cons _ (.refl _))),?_⟩;refine⟨cD (Value.int .i64) ?_,rfl,rfl⟩;have fL:i>=g.ns.length->¬∃x∈g.ns,x.k=2/\g.is[x.i.toNat]?≠some (x.p,(x.ak.length:Int)):=by
         rintro sN ⟨x,aa,ae,aF⟩;rw[eo (by omega)] at bx;exact aF (bx x aa ae)
        unfold pV;first
         |(have BM:=U;rw[aE ⟨x,cb U,by simpa using vE,fun q=>kq (by rw[ai] at q;injection q with q;rw[q])⟩])
         |(rw[an (fL (by omega)),aE (td.2 pt)])
         |(rw[an (fL (by omega)),an (fun q=>pt (td.1 q)),aE (z1.2 (by simpa using sv))])
         |(rw[an (fL (by omega)),an (fun q=>pt (td.1 q)),an (fun q=>z1.1 q (by simpa using sv))])
      ·
        refine aj ?_;refine ab.skip ?_;refine rg ?_;refine I V.bt ?_;refine I V.ag ?_;refine a6 ?_;refine cB (i+1) ?_ (hm:=.cons _ (.refl _));refine⟨by omega,te bx U fun aO=>?_⟩;first|exact absurd aO (by simpa using vE)|(rw[ai];simp at kq;rw[<-kq.1,<-kq.2])
     ·refine cg rfl ?_;refine cg rfl ?_;refine cg rfl ?_;refine cg rfl ?_;refine cg rfl ?_;refine cg rfl ?_;refine cg rfl ?_;refine cg rfl ?_;refine cg rfl ?_;refine cg rfl ?_;refine cg rfl ?_;refine cg rfl ?_;refine cg rfl ?_;refine cg rfl ?_;refine cg rfl ?_;refine dv.aaf rfl rfl rfl rfl rfl rfl ?_;refine dk rfl V.aU ?_;refine dv.nil ?_;refine aj ?_;refine ab.w' rfl ?_;refine ln ?_;refine I V.bt ?_;refine I V.ag ?_;refine a6 ?_;refine cB (i+1) ?_ (hm:=.cons _ (.refl _));refine⟨by omega,te bx U fun aO=>?_⟩;first|exact absurd aO (by simpa using vE)|(rw[ai];simp at kq;rw[<-kq.1,<-kq.2])
    ·refine aj ?_;refine ab.exit ?_;refine rg ?_;refine I V.ag ?_;refine' W.step rfl (Exec.call rfl rfl rfl rfl rfl rfl rfl (bf:=_) (bM:=[]) (by rw[gj]) trivial ((by have h:=adi (Q:=Q) (g0:=g0) (J:=J) (gn:=ll wU (mB g 0)::jT db g aT aQ aK ci je jd gY::aY) (l:=mB g 0) (c:=g.is.length) (v:=0) (jX.own (.head _)) (by rw[tL];omega);rw[tL] at h;exact h)) ?_);rintro v m' af hle ⟨rfl,rfl,rfl⟩;rw[gj];refine ns ?_;refine If (fun pt=>?_) fun pt=>?_
     ·refine rg ?_;refine I V.az ?_;refine ns ?_;refine ab.ret ?_;refine'⟨.inr rfl,rfl,_,jT _ _ _ _ _ _ _ _ _::aY,.tmp rfl .nil,(by first|exact .cons _ (.refl _)|exact .cons _ (.cons _ (.refl _))),?_⟩;refine⟨cD (Value.int .i64) ?_,rfl,rfl⟩;have fL:i>=g.ns.length->¬∃x∈g.ns,x.k=2/\g.is[x.i.toNat]?≠some (x.p,(x.ak.length:Int)):=by
        rintro sN ⟨x,aa,ae,aF⟩;rw[eo (by omega)] at bx;exact aF (bx x aa ae)
      unfold pV;first
        |(have BM:=U;rw[aE ⟨x,cb U,by simpa using vE,fun q=>kq (by rw[ai] at q;injection q with q;rw[q])⟩])
        |(rw[an (fL (by omega)),aE (td.2 pt)])
        |(rw[an (fL (by omega)),an (fun q=>pt (td.1 q)),aE (z1.2 (by simpa using sv))])
        |(rw[an (fL (by omega)),an (fun q=>pt (td.1 q)),an (fun q=>z1.1 q (by simpa using sv))])
     ·refine aj ?_;refine ab.skip ?_;refine rg ?_;refine I V.ag ?_;refine' W.step rfl (Exec.call rfl rfl rfl rfl rfl rfl rfl (bf:=_) (bM:=[]) (by rw[gj]) trivial ((by have h:=akz (Q:=Q) (g0:=g0) (J:=J) (gn:=ll wU (mB g 0)::jT db g aT aQ aK ci je jd gY::aY) (l:=mB g 0) (c:=g.is.length) (jX.own (.head _)) (by rw[tL];omega) (by simp[addrEq]);rw[tL] at h;exact h)) ?_);rintro v m' af hle ⟨rfl,rfl,rfl⟩;rw[gj];refine I V.ou ?_;refine ns ?_;refine If (fun sv=>?_) fun sv=>?_
      ·
        refine rg ?_;refine I V.az ?_;refine ns ?_;refine ab.ret ?_;refine'⟨.inr rfl,rfl,_,jT _ _ _ _ _ _ _ _ _::aY,.tmp rfl .nil,(by first|exact .cons _ (.refl _)|exact .cons _ (.cons _ (.refl _))),?_⟩;refine⟨cD (Value.int .i64) ?_,rfl,rfl⟩;have fL:i>=g.ns.length->¬∃x∈g.ns,x.k=2/\g.is[x.i.toNat]?≠some (x.p,(x.ak.length:Int)):=by
         rintro sN ⟨x,aa,ae,aF⟩;rw[eo (by omega)] at bx;exact aF (bx x aa ae)
        unfold pV;first
         |(have BM:=U;rw[aE ⟨x,cb U,by simpa using vE,fun q=>kq (by rw[ai] at q;injection q with q;rw[q])⟩])
         |(rw[an (fL (by omega)),aE (td.2 pt)])
         |(rw[an (fL (by omega)),an (fun q=>pt (td.1 q)),aE (z1.2 (by simpa using sv))])
         |(rw[an (fL (by omega)),an (fun q=>pt (td.1 q)),an (fun q=>z1.1 q (by simpa using sv))])
      ·
        refine aj ?_;refine ab.skip ?_;refine rg ?_;refine I V.az ?_;refine ns ?_;refine ab.ret ?_;refine'⟨.inr rfl,rfl,_,jT _ _ _ _ _ _ _ _ _::aY,.tmp rfl .nil,(by first|exact .cons _ (.refl _)|exact .cons _ (.cons _ (.refl _))),?_⟩;refine⟨cD (Value.int .i64) ?_,rfl,rfl⟩;have fL:i>=g.ns.length->¬∃x∈g.ns,x.k=2/\g.is[x.i.toNat]?≠some (x.p,(x.ak.length:Int)):=by
         rintro sN ⟨x,aa,ae,aF⟩;rw[eo (by omega)] at bx;exact aF (bx x aa ae)
        unfold pV;first
         |(have BM:=U;rw[aE ⟨x,cb U,by simpa using vE,fun q=>kq (by rw[ai] at q;injection q with q;rw[q])⟩])
         |(rw[an (fL (by omega)),aE (td.2 pt)])
         |(rw[an (fL (by omega)),an (fun q=>pt (td.1 q)),aE (z1.2 (by simpa using sv))])
         |(rw[an (fL (by omega)),an (fun q=>pt (td.1 q)),an (fun q=>z1.1 q (by simpa using sv))])
end
end
end Go.Opn
