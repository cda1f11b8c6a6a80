/- A part of the proof of ResumeBack. -/
import Derived.Test.YtiemfjdacfioeaaGreatDoorCax
set_option maxRecDepth 100000
set_option maxHeartbeats 4000000
set_option linter.unusedVariables false
set_option linter.unusedSimpArgs false
namespace Go.Opn
noncomputable section
open Go.Cre Go.RowKit Go.Proofs
theorem fa.tail{α:Type}{J:aI}{e:TypeId}{sz a:Nat}{R:α->List Value->Prop}{w:Value}{xs:List α}{cs:List Value}(a':a<xs.length)
 (hw:hL J e sz w (((xs.drop a).length:Int) -1).toNat ((cs.drop ((1:Int).toNat*sz)).take ((((xs.drop a).length:Int) -1).toNat*sz)))
 (ey:∀i x,(xs.drop a)[i]?=some x->R x ((cs.drop (i*sz)).take sz)):∃b c,w=.slice b (xs.drop (a+1)).length c/\fa J e sz R (.slice b (xs.drop (a+1)).length c) (xs.drop (a+1)):=by
 have aN:(((xs.drop a).length:Int) -1).toNat=(xs.drop (a+1)).length:=by rw[lO,lO];omega
 rw[aN] at hw;obtain⟨b,c,rfl,_⟩:=hw.inv;refine⟨b,c,rfl,⟨_,hw,fun i x U=>?_⟩⟩;have ao:i<(xs.drop (a+1)).length:=(dX.1 U).1;have ae:=ey (i+1) x (by rw[pY] at U ⊢;rw[<-U];congr 1;omega);have hle:i*sz+sz<=(xs.drop (a+1)).length*sz:=by rw[<-pe];exact nt _ ao
 rw[Ft,Ar,yu,mf (by omega),show(1:Int).toNat*sz+i*sz=(i+1)*sz by rw[nr,show(1:Int).toNat=1 from rfl];omega];exact ae
theorem uK{ns:List cS}{f a:Nat}{kB d:Int}{x:cS}(U:ns[a]?=some x)(h:hl (dP ns f a (d+1)) x.ak (a+1)=none):dP ns (f+1) kB d a=none:=by
 unfold dP;rw[U];simp only;rw[h]
theorem Ac{ns:List cS}{f a n:Nat}{kB d:Int}{x:cS}{es:List gq}(U:ns[a]?=some x)(h:hl (dP ns f a (d+1)) x.ak (a+1)=some (n,es)):dP ns (f+1) kB d a=some (n,(kB,d,(n:Int) -1)::es):=by
 unfold dP;rw[U];simp only;rw[h]
section
variable {Q:dI Tryz.prog}{g0:Nat}{J:aI}
abbrev EY(a n:Nat):Value:=.slice (some ⟨a,0,none⟩) n n
abbrev ld(a:Nat)(L:List Int):Nat×cK:=(a,.row (L.map (Value.int .i64)) 3)
abbrev Fa(dd df ad cg:Nat)(g:bz)(aT:Option Addr)(aQ:Nat)(aL:Option Addr)(ci:Nat)(P D L:List Int):aO:=[jG dd g aT aQ aL ci (EY df g.ns.length) (EY ad g.ns.length) (EY cg g.ns.length),ld df P,ld ad D,ld cg L]
def aaO(dd df ad cg:Nat)(g:bz)(aT:Option Addr)(aQ:Nat)(aL:Option Addr)(ci:Nat)(a:Nat)(P D L:List Int)(r:Option (Nat×List gq))(J:aI):Value->aO->aI->Prop:=fun u m' ag=>∃b n c ok qW CF bQ,u=.tuple #[.slice b n c,.bool ok]/\m'=Fa dd df ad cg g aT aQ aL ci qW CF bQ/\J=ag/\qW.length=g.ns.length/\CF.length=g.ns.length/\bQ.length=g.ns.length/\
 (match r with
 |none=>ok=false
 |some (b0,es)=>ok=true/\qW=jF P a (es.map fun e=>e.1)/\CF=jF D a (es.map fun e=>e.2.1)/\bQ=jF L a (es.map fun e=>e.2.2)/\n=(g.ns.drop b0).length/\fa J 45 6 (nu J) (.slice b (g.ns.drop b0).length c) (g.ns.drop b0))
theorem api{g:bz}{aT aL:Option Addr}{aQ ci:Nat}{dd df ad cg:Nat}(aq:fG J g aT aQ aL ci)(dn:g.ns.length<=2000)(av:∀x∈g.ns,x.ak.length<=60):∀(f a:Nat) (kB d:Int) (P D L:List Int) (bv:Option Addr) (gJ:Nat),a<=g.ns.length->g.ns.length<a+f->P.length=g.ns.length->D.length=g.ns.length->L.length=g.ns.length->0<=d->d<=a->
 fa J 45 6 (nu J) (.slice bv (g.ns.drop a).length gJ) (g.ns.drop a)->
 Fn (bb Q g0) 70 [.pointer (some ⟨dd,0,none⟩),.int .i64 kB,.int .i64 d,.slice bv (g.ns.drop a).length gJ] (Fa dd df ad cg g aT aQ aL ci P D L) J (aaO dd df ad cg g aT aQ aL ci a P D L (dP g.ns f kB d a) J):=by
 intro f;induction f with
 |zero=>intro a kB d P D L bv gJ aa ae;omega
 |succ f aK=>
 intro a kB d P D L bv gJ a' aC dD jg bT tW ag' jO;have KF:(g.ns.drop a).length=g.ns.length -a:=lO;have fW:addrEq aL aL=true:=aq.i.addr;have gn:addrEq aT aT=true:=aq.n.addr;refine Fn.cH (cQ Tryz.func70) rfl rfl fun H=>?_;refine rg ?_;refine aM ?_;refine bj ?_;refine aM ?_;refine I V.a1 ?_;refine ns ?_;refine If (fun yO=>?_) fun yO=>?_
 ·refine rg ?_;refine aM ?_;refine ns ?_;refine ab.ret ?_;refine'⟨.inr rfl,rfl,_,_,.tmp rfl (.tmp rfl .nil),bA _,?_⟩;first
   |exact⟨_,_,_,_,P,D,L,rfl,rfl,rfl,dD,jg,bT,by rw[show dP g.ns (f+1) kB d a=none by unfold dP;rw[fx (by omega)]]⟩
   |exact⟨_,_,_,_,ou,oq,eM,rfl,rfl,rfl,vz,vx,vy,by rw[uK lG (ts (k:=k+1) (by rw[q6 fs qp,aE (by omega)]))]⟩
   |exact⟨_,_,_,_,CP,eK,gr,rfl,rfl,rfl,tM,jh,GV,by
     have:dP g.ns f a (d+1) cur=none:=by
      cases ed:dP g.ns f a (d+1) cur with
      |none=>rfl
      |some p=>obtain⟨b0,aN⟩:=p;rw[ed] at hm;rw[hm.1] at km;cases km
     rw[uK lG (ts (k:=k+1) (by rw[q6 fs qp,this];split<;>rfl))]⟩
   |(refine⟨_,_,_,_,ou,oq,_,rfl,rfl,rfl,vz,vx,?_,?_⟩
     rw[gu];exact vy;rw[et (by omega)] at fs;rw[Ac lG fs];refine⟨rfl,lV,gU,?_,rfl,G9⟩;rw[y8,LG (by simp;omega),nR];congr 2;show _=(cur:Int) -1;omega)
 ·have c4:a<g.ns.length:=by omega
  obtain⟨_,fJ⟩:=jO.at;obtain⟨a0,off,cells,bG,rfl,ms,ec⟩:=fJ (by omega);obtain⟨x,cs,U,gV,ir,ey⟩:=ec 0 (by omega) (by omega);obtain⟨bm,bt,bl,bw,b8,dh,rfl,eo,ga,gz⟩:=ey;have za:=ir 3 _ (by decide) rfl;have lG:g.ns[a]?=some x:=by simpa using U
  have aju:=av x (cd lG);obtain⟨je,k',agJ⟩:=jO.ex;have j':=eo.iB [];refine c5 ?_;refine fT [0,1,2,3] ?_;refine aj ?_;refine' ab.ht 0 [(10,.int .i64 (a:Int))] ?acX ?adL;case acX=>
   refine ab.region ?_;refine aM ?_;refine I V.aF ?_;refine aM ?_;refine I V.bx ?_;refine I V.aA ?_;refine a8 ?_;exact ce
  case adL=>
   refine aj ?_;refine ab.draw rfl (by kernel_rfl) (bf:=[.val 0,.val 1,.val 2,.val 3,.val 4,.val 5,.val 6,.val 7,.val 8,.val 9,.val 10,.val 11,.val 12,.bV 13,.val 14,.cF [11,9],.bV 15]) (by kernel_rfl) ?_;refine cq ?_;refine an rfl V.aF ?_;refine cq ?_;refine an rfl V.aF ?_;refine cq ?_;refine an rfl V.aX ?_;refine' a7.fO rfl rfl (hz rfl rfl rfl rfl (fY rfl) rfl rfl rfl ?aa ?af ?aw ?_);case aw=>repeat first|exact .head _ _ _ _|apply cR.tail|apply cR.app
   case af=>exact jo a (by omega)
   case aa=>first|rfl|assumption
   refine an rfl V.aX ?_;refine a7.cF fC ?_;refine' a7.fO rfl rfl (hz rfl rfl rfl rfl (fY rfl) rfl rfl rfl ?aa ?af ?aw ?_);case aw=>repeat first|exact .head _ _ _ _|apply cR.tail|apply cR.app
   case af=>exact jo a (by omega)
   case aa=>first|rfl|assumption
   refine a7.nil ?_;refine rg ?_;refine I V.ah ?_;refine' W.step rfl (.of (apv rfl rfl rfl rfl (Q4 Q g0) ?az ?aU rfl rfl ?bD ?aa ?ae fun Z6 ajp=>?_));case az=>assumption
   case aU=>exact cf
   case bD=>exact cf
   case aa=>exact cf
   case ae=>exact cf
   obtain⟨r',sf,rfl,ahf⟩:=fa.tail c4 ajp agJ;refine aM ?_;refine bj ?_;refine I V.ah ?_;refine I V.aX ?_;refine I V.bc ?_;refine I V.aF ?_;refine aM ?_;refine ns ?_;refine ab.block ?_;refine' ab.c2 (l':=[(11,.slice (r') (g.ns.drop (a+1)).length (sf)),(48,.int .i64 ((0):Int)),(0,_),(2,_),(10,_),(46,_),(47,_)]) ⟨?yb,?apa,rfl,rfl,rfl,rfl,rfl,trivial⟩ (bA _) ?_;case yb=>exact bS
   case apa=>exact bS
   refine aj ?_;refine' ab.dF (fun(bH:Nat×Nat×(List gq)×(Option Addr)×Nat×(List Int)×(List Int)×(List Int))=>match bH with|(k,cur,es,jd,ko,ou,oq,eM)=>⟨[(11,.slice jd (g.ns.drop cur).length ko),(48,.int .i64 (k:Int))],Fa dd df ad cg g aT aQ aL ci ou oq eM,J,k<=x.ak.length/\hl (dP g.ns f a (d+1)) (x.ak.take k) (a+1)=some (cur,es)/\fa J 45 6 (nu J) (.slice jd (g.ns.drop cur).length ko) (g.ns.drop cur)/\ou=jF P a (kB::es.map fun e=>e.1)/\oq=jF D a (d::es.map fun e=>e.2.1)/\eM=jF L (a+1) (es.map fun e=>e.2.2),x.ak.length -k⟩) ⟨0,a+1,[],r',sf,P.set a kB,D.set a d,L⟩ ?af ?bE
   case af=>exact⟨cB _,rfl,ahf,YZ (by omega),YZ (by omega),(amv _ _).symm⟩
   case bE=>
    rintro⟨k,cur,es,jd,ko,ou,oq,eM⟩ hinv;try simp only at hinv
    obtain⟨aU,fs,G9,lV,gU,y8⟩:=hinv;refine rg ?_;refine I V.a1 ?_;refine ns ?_;refine If (fun sc=>?_) fun sc=>?_
    ·obtain⟨a4,atv,aqF,rfl,k9,ahq⟩:=j' (by omega);obtain⟨Ma,HQ,e0⟩:=ahq k (by omega) (by omega);have qp:x.ak[k]?=some Ma:=by simpa using HQ
     obtain⟨xh,ji,oO⟩:=AI (fun p q r s=>qJ _ _ _ p q r s) fs (by omega);have D1:(g.ns.drop cur).length=g.ns.length -cur:=lO;have vz:ou.length=g.ns.length:=by rw[lV,Ca (by simp;omega)];exact dD
     have vx:oq.length=g.ns.length:=by rw[gU,Ca (by simp;omega)];exact jg
     have vy:eM.length=g.ns.length:=by rw[y8,Ca (by simp;omega)];exact bT
     refine c5 ?_;refine aj ?_;refine ab.block ?_;refine rg ?_;refine I V.aX ?_;refine' W.step rfl (Exec.val rfl rfl (gY rfl rfl ?ay (hp (eV rfl) ?az)) ?_);case ay=>exact k9.sub (fun _ q=>by cases q)
     case az=>first|rfl|assumption
     refine I V.aA ?_;refine bj ?_;refine aM ?_;refine I V.aF ?_;refine aM ?_;refine I V.bx ?_;refine I V.a1 ?_;refine ns ?_;refine If (fun abW=>?_) fun abW=>?_
     ·refine rg ?_;refine aM ?_;refine ns ?_;refine ab.ret ?_;refine'⟨.inr rfl,rfl,_,_,.tmp rfl (.tmp rfl .nil),bA _,?_⟩;first
        |exact⟨_,_,_,_,P,D,L,rfl,rfl,rfl,dD,jg,bT,by rw[show dP g.ns (f+1) kB d a=none by unfold dP;rw[fx (by omega)]]⟩
        |exact⟨_,_,_,_,ou,oq,eM,rfl,rfl,rfl,vz,vx,vy,by rw[uK lG (ts (k:=k+1) (by rw[q6 fs qp,aE (by omega)]))]⟩
        |exact⟨_,_,_,_,CP,eK,gr,rfl,rfl,rfl,tM,jh,GV,by
          have:dP g.ns f a (d+1) cur=none:=by
           cases ed:dP g.ns f a (d+1) cur with
           |none=>rfl
           |some p=>obtain⟨b0,aN⟩:=p;rw[ed] at hm;rw[hm.1] at km;cases km
          rw[uK lG (ts (k:=k+1) (by rw[q6 fs qp,this];split<;>rfl))]⟩
        |(refine⟨_,_,_,_,ou,oq,_,rfl,rfl,rfl,vz,vx,?_,?_⟩
          rw[gu];exact vy;rw[et (by omega)] at fs;rw[Ac lG fs];refine⟨rfl,lV,gU,?_,rfl,G9⟩;rw[y8,LG (by simp;omega),nR];congr 2;show _=(cur:Int) -1;omega)
     ·refine aj ?_;refine ab.skip ?_;refine rg ?_;refine aM ?_;refine I V.bx ?_;refine I V.ah ?_;refine' W.step rfl (Exec.call rfl rfl rfl rfl rfl rfl rfl (bh:=Fa dd df ad cg g aT aQ aL ci ou oq eM) (bW:=[]) (.refl _) trivial (aK cur a (d+1) ou oq eM jd ko ji (by omega) vz vx vy (by omega) (by omega) G9) ?_);rintro v m' ag hle ⟨b',nL,ch,ok,CP,eK,gr,rfl,rfl,rfl,tM,jh,GV,hm⟩;refine aM ?_;refine bj ?_;refine I V.ah ?_;refine I V.oe ?_;refine ns ?_;refine If (fun km=>?_) fun km=>?_
      ·refine rg ?_;refine aM ?_;refine ns ?_;refine ab.ret ?_;refine'⟨.inr rfl,rfl,_,_,.tmp rfl (.tmp rfl .nil),bA _,?_⟩;first
        |exact⟨_,_,_,_,P,D,L,rfl,rfl,rfl,dD,jg,bT,by rw[show dP g.ns (f+1) kB d a=none by unfold dP;rw[fx (by omega)]]⟩
        |exact⟨_,_,_,_,ou,oq,eM,rfl,rfl,rfl,vz,vx,vy,by rw[uK lG (ts (k:=k+1) (by rw[q6 fs qp,aE (by omega)]))]⟩
        |exact⟨_,_,_,_,CP,eK,gr,rfl,rfl,rfl,tM,jh,GV,by
          have:dP g.ns f a (d+1) cur=none:=by
           cases ed:dP g.ns f a (d+1) cur with
           |none=>rfl
           |some p=>obtain⟨b0,aN⟩:=p;rw[ed] at hm;rw[hm.1] at km;cases km
          rw[uK lG (ts (k:=k+1) (by rw[q6 fs qp,this];split<;>rfl))]⟩
        |(refine⟨_,_,_,_,ou,oq,_,rfl,rfl,rfl,vz,vx,?_,?_⟩
          rw[gu];exact vy;rw[et (by omega)] at fs;rw[Ac lG fs];refine⟨rfl,lV,gU,?_,rfl,G9⟩;rw[y8,LG (by simp;omega),nR];congr 2;show _=(cur:Int) -1;omega)
      ·obtain⟨b0,aN,ed,xd,agp,agC,rfl,ahe⟩:∃b0 aN,dP g.ns f a (d+1) cur=some (b0,aN)/\CP=jF ou cur (aN.map fun e=>e.1)/\eK=jF oq cur (aN.map fun e=>e.2.1)/\gr=jF eM cur (aN.map fun e=>e.2.2)/\nL=(g.ns.drop b0).length/\fa J 45 6 (nu J) (.slice b' (g.ns.drop b0).length ch) (g.ns.drop b0):=by
        cases ed:dP g.ns f a (d+1) cur with
        |none=>rw[ed] at hm;rw[hm] at km;cases km
        |some p=>obtain⟨b0,aN⟩:=p;rw[ed] at hm;exact⟨b0,aN,rfl,hm.2⟩
       subst xd;subst agp;subst agC;refine nf ?_;refine I V.bx ?_;refine I V.ah ?_;refine a8 ?_;refine cA ⟨k+1,b0,es++aN,b',ch,_,_,_⟩ ?_;refine⟨by omega,by rw[q6 fs qp,ap (by omega),ed],ahe,?_,?_,?_⟩;(rw[lV,QU (by simp;omega) (by simp;omega)];simp);(rw[gU,QU (by simp;omega) (by simp;omega)];simp);(rw[y8,QU (by simp;omega) (by simp;omega)];simp)
    ·obtain⟨xh,ji,oO⟩:=AI (fun p q r s=>qJ _ _ _ p q r s) fs (by omega);have D1:(g.ns.drop cur).length=g.ns.length -cur:=lO;have vz:ou.length=g.ns.length:=by rw[lV,Ca (by simp;omega)];exact dD
     have vx:oq.length=g.ns.length:=by rw[gU,Ca (by simp;omega)];exact jg
     have vy:eM.length=g.ns.length:=by rw[y8,Ca (by simp;omega)];exact bT
     refine aj ?_;refine ab.exit ?_;refine aj ?_;refine ab.draw rfl (by kernel_rfl) (bf:=[.val 0,.val 1,.val 2,.val 3,.val 4,.val 5,.val 6,.val 7,.val 8,.val 9,.val 10,.val 11,.val 12,.val 13,.val 14,.val 15,.bV 16]) (by kernel_rfl) ?_;refine cq ?_;refine an rfl V.aF ?_;refine cq ?_;refine an rfl V.aF ?_;refine cq ?_;refine an rfl V.bx ?_;refine an rfl V.bx ?_;refine an rfl V.aX ?_;refine' a7.fO rfl rfl (hz rfl rfl rfl rfl (fY rfl) rfl rfl rfl ?aa ?af ?aw ?_);case aw=>repeat first|exact .head _ _ _ _|apply cR.tail|apply cR.app
     case af=>exact jo a (by omega)
     case aa=>first|rfl|assumption
     refine a7.nil ?_;refine rg ?_;refine aM ?_;refine ns ?_;refine ab.ret ?_;refine'⟨.inr rfl,rfl,_,_,.tmp rfl (.tmp rfl .nil),bA _,?_⟩;first
       |exact⟨_,_,_,_,P,D,L,rfl,rfl,rfl,dD,jg,bT,by rw[show dP g.ns (f+1) kB d a=none by unfold dP;rw[fx (by omega)]]⟩
       |exact⟨_,_,_,_,ou,oq,eM,rfl,rfl,rfl,vz,vx,vy,by rw[uK lG (ts (k:=k+1) (by rw[q6 fs qp,aE (by omega)]))]⟩
       |exact⟨_,_,_,_,CP,eK,gr,rfl,rfl,rfl,tM,jh,GV,by
          have:dP g.ns f a (d+1) cur=none:=by
           cases ed:dP g.ns f a (d+1) cur with
           |none=>rfl
           |some p=>obtain⟨b0,aN⟩:=p;rw[ed] at hm;rw[hm.1] at km;cases km
          rw[uK lG (ts (k:=k+1) (by rw[q6 fs qp,this];split<;>rfl))]⟩
       |(refine⟨_,_,_,_,ou,oq,_,rfl,rfl,rfl,vz,vx,?_,?_⟩
         rw[gu];exact vy;rw[et (by omega)] at fs;rw[Ac lG fs];refine⟨rfl,lV,gU,?_,rfl,G9⟩;rw[y8,LG (by simp;omega),nR];congr 2;show _=(cur:Int) -1;omega)
end
end
end Go.Opn
namespace Go.Opn
noncomputable section
def ix(v:Int):List Int->Nat->Int
 |[],_=>-1
 |x::r,n=>if v=x then(n:Int) else ix v r (n+1)
theorem PX{v:Int}{l:List Int}{i:Nat}{x:Int}(U:l[i]?=some x):ix v (l.drop i) i=if v=x then(i:Int) else ix v (l.drop (i+1)) (i+1):=by
 have ao:i<l.length:=(dX.1 U).1;rw[mO ao];have:l[i]=x:=by rw[de ao] at U;injection U
 rw[this];rfl
theorem WJ{v:Int}{l:List Int}{i:Nat}(h:l.length<=i):ix v (l.drop i) i=-1:=by rw[wm h];rfl
theorem PY{v:Int}:∀{l:List Int} {n:Nat},0<=ix v l n↔v∈l:=by
 intro l;induction l with
 |nil=>intro n;simp[ix]
 |cons x r aK=>
  intro n;unfold ix;split
  ·rename_i h;subst h;simp
  ·rename_i h;rw[aK,fg];exact⟨.inr,fun q=>q.resolve_left h⟩
theorem ajG{v:Int}:∀{l:List Int} {n:Nat},ix v l n<(n:Int)+l.length:=by
 intro l;induction l with
 |nil=>intro n;simp only[ix,yt];omega
 |cons x r aK=>
  intro n;unfold ix;rw[iQ];split
  ·omega
  ·have:=aK (n:=n+1);omega
def xO:List Int->Int
 |[]=>0
 |x::r=>r.foldl max x
theorem akt{l:List Int}{i:Nat}{x:Int}(aa:1<=i)(U:l[i]?=some x):xO (l.take (i+1))=max (xO (l.take i)) x:=by
 rw[nS,U];cases l with
 |nil=>cases U
 |cons y r=>
  cases i with
  |zero=>omega
  |succ i=>simp[xO]
def Mk(l:List Int):Prop:=∀i x y,l[i]?=some x->l[i+1]?=some y->¬y<x
theorem Gk{es:List gq}(h:∃e r,es=e::r/\e.2.1=0):q7 es=xO (es.map fun e=>e.2.1):=by
 obtain⟨e,r,rfl,bD⟩:=h;unfold q7;simp only[List.foldl_cons,nR,xO,bD];rw[List.foldl_map];rfl
theorem IT{ns:List cS}{f:Nat}{p d:Int}{a n:Nat}{es:List gq}(h:dP ns f p d a=some (n,es)):∃e r,es=e::r/\e.1=p/\e.2.1=d/\e.2.2=(n:Int) -1:=by
 cases f with
 |zero=>cases h
 |succ f=>
  unfold dP at h;split at h
  ·cases h
  ·split at h
   ·cases h
   ·simp only[cp,dC] at h;obtain⟨rfl,rfl⟩:=h;exact⟨_,_,rfl,rfl,rfl,rfl⟩
def mq(g:bz)(i:Nat):List Int:=(List.range g.is.length).map fun(j:Nat)=>fc (eJ (j:Int) i (g.ns.drop i))+1
theorem tB{g:bz}{i:Nat}:(mq g i).length=g.is.length:=by simp[mq]
theorem w9{g:bz}{i j:Nat}(h:j<g.is.length):(mq g i)[j]?=some (fc (eJ (j:Int) i (g.ns.drop i))+1):=by
 unfold mq;rw[pb,Fv h];rfl
theorem aeR{g:bz}{i:Nat}(h:g.ns.length<=i):mq g i=List.replicate g.is.length 0:=by
 apply lp
 intro j;by_cases ba:j<g.is.length
 ·rw[w9 ba,wm h,CM,aE ba];rfl
 ·rw[fx (by rw[tB];omega),CM,ap ba]
theorem YV{g:bz}{j:Int}{i:Nat}{x:cS}(U:g.ns[i]?=some x):eJ j i (g.ns.drop i)=if x.k=2/\x.i=j then(i:Int)::eJ j (i+1) (g.ns.drop (i+1)) else eJ j (i+1) (g.ns.drop (i+1)):=by
 have ao:i<g.ns.length:=(dX.1 U).1;rw[mO ao];have:g.ns[i]=x:=by rw[de ao] at U;injection U
 rw[this];rfl
theorem aeS{g:bz}{i:Nat}{x:cS}(U:g.ns[i]?=some x)(aU:x.k≠2):mq g i=mq g (i+1):=by
 unfold mq;congr 1
 funext j
 rw[YV U,ap (fun q=>aU q.1)]
theorem aeT{g:bz}{i:Nat}{x:cS}(U:g.ns[i]?=some x)(aU:x.k=2)(bD:0<=x.i)(aa:x.i<g.is.length):mq g i=(mq g (i+1)).set x.i.toNat ((i:Int)+1):=by
 apply lp
 intro j;rw[kH,tB];by_cases ba:j<g.is.length
 ·rw[w9 ba,w9 ba,YV U];by_cases q:x.i.toNat=j
  ·rw[aE ⟨aU,by omega⟩,aE q,aE (by omega)];rfl
  ·rw[ap (fun r=>q (by omega)),ap q]
 ·rw[fx (by rw[tB];omega),fx (by rw[tB];omega),ap (by omega)]
open Classical
def pK (g:bz):Int:=
 if ∃x∈g.ns,x.k=2/\g.is[x.i.toNat]?≠some (x.p,(x.ak.length:Int)) then 10
 else if ∃s∈gC g,s=[] then 18
 else if ∃(i:Nat) (s t:List Int),(gC g)[i]?=some s/\(gC g)[i+1]?=some t/\fc t<fc s then 9
 else 0
theorem sW{g:bz}{j:Nat}(h:j<g.is.length):(gC g)[j]?=some (eJ (j:Int) 0 g.ns):=by
 unfold gC;rw[pb,Fv h];rfl
theorem uG{g:bz}:(gC g).length=g.is.length:=by simp[gC]
theorem YW{i:Int}:∀{l:List cS} {j:Nat} {y:Int},y∈eJ i j l->(j:Int)<=y:=by
 intro l;induction l with
 |nil=>intro j y h;cases h
 |cons x r aK=>
  intro j y h;unfold eJ at h;split at h
  ·rcases fg.1 h with q|q
   ·omega
   ·have:=aK q;omega
  ·have:=aK h;omega
theorem Vy{i:Int}{j:Nat}{l:List cS}:fc (eJ i j l)+1=0↔eJ i j l=[]:=by
 constructor
 ·intro h;cases af:eJ i j l with
  |nil=>rfl
  |cons y r=>rw[af] at h;have:=YW (i:=i) (j:=j) (l:=l) (y:=y) (by rw[af];exact .head _);simp only[fc] at h;omega
 ·intro h;rw[h];rfl
theorem sX{g:bz}:(∃s∈gC g,s=[])↔(0:Int)∈mq g 0:=by
 constructor
 ·rintro⟨s,af,rfl⟩;obtain⟨j,ba⟩:=kj.1 af;have av:j<g.is.length:=by have:=(dX.1 ba).1;rwa [uG] at this
  rw[sW av] at ba;injection ba with ba
  have:=w9 (g:=g) (i:=0) av;rw[mP,Vy.2 ba] at this;exact cd this
 ·intro h;obtain⟨j,ba⟩:=kj.1 h;have av:j<g.is.length:=by have:=(dX.1 ba).1;rwa [tB] at this
  rw[w9 av,mP] at ba;injection ba with ba
  exact⟨_,cd (sW av),Vy.1 ba⟩
theorem zW{g:bz}:(∃(i:Nat) (s t:List Int),(gC g)[i]?=some s/\(gC g)[i+1]?=some t/\fc t<fc s)↔¬Mk (mq g 0):=by
 constructor
 ·rintro⟨i,s,t,aa,ae,aG⟩ h;have av:i+1<g.is.length:=by have:=(dX.1 ae).1;rwa [uG] at this
  rw[sW (by omega)] at aa;rw[sW av] at ae;injection aa with aa;injection ae with ae
  refine h i _ _ (w9 (by omega)) (w9 av) ?_;rw[mP,aa,ae];omega
 ·intro h;refine qN fun q=>h fun i x y U ai c4=>q ?_;have av:i+1<g.is.length:=by have:=(dX.1 ai).1;rwa [tB] at this
  rw[w9 (by omega),mP] at U;rw[w9 av,mP] at ai;injection U with U;injection ai with ai
  exact⟨i,_,_,sW (by omega),sW av,by omega⟩
end
end Go.Opn
namespace Go.Opn
noncomputable section
open Go.Cre Go.RowKit Go.Proofs
open Classical in
noncomputable instance (l:List Int):Decidable (Mk l):=inferInstance
section
variable {Q:dI Tryz.prog}{g0:Nat}{J:aI}
theorem WL{gk:aO}{b:Option Addr}{c:Nat}{l:List Int}{v:Int}(av:jJ gk J b l)(aP:l.length<=1000000):
 Fn (bb Q g0) 105 [.slice b l.length c,.int .i64 v] gk J (fun u m' ag=>u=.int .i64 (ix v l 0)/\m'=gk/\J=ag):=by
 refine Fn.cH (cQ Tryz.func105) rfl rfl fun H=>?_;refine rg ?_;refine I V.aA ?_;refine bj ?_;refine aM ?_;refine ns ?_;refine ab.block ?_;refine' ab.c2 (l':=[(8,.int .i64 ((0):Int)),(0,_),(1,_),(7,_)]) ⟨?jq,rfl,rfl,rfl,trivial⟩ (bA _) ?_;case jq=>exact bS
 refine aj ?_;refine' ab.dF (fun(i:Nat)=>⟨[(8,.int .i64 (i:Int))],gk,J,i<=l.length/\ix v l 0=ix v (l.drop i) i,l.length -i⟩) (0) ?af ?bE;case af=>exact⟨cB _,rfl⟩
 case bE=>
  rintro i hinv;try simp only at hinv
  obtain⟨ao,He⟩:=hinv;refine rg ?_;refine I V.a1 ?_;refine ns ?_;refine If (fun dR=>?_) fun dR=>?_
  ·obtain⟨a,off,cells,rfl,k9,ec⟩:=av (by omega);obtain⟨x,U,e0⟩:=ec i (by omega) (by omega);have e1:l[i]?=some x:=by simpa using U
   refine c5 ?_;refine aj ?_;refine ab.block ?_;refine rg ?_;refine aM ?_;refine bj ?_;refine aM ?_;refine I V.aX ?_;refine' W.step rfl (Exec.val rfl rfl (gY rfl rfl ?ay (hp (eV rfl) ?az)) ?_);case ay=>exact k9
   case az=>first|rfl|assumption
   refine I V.a1 ?_;refine ns ?_;refine If (fun kL=>?_) fun kL=>?_
   ·refine rg ?_;refine aM ?_;refine ns ?_;refine ab.ret ?_;refine'⟨.inr rfl,rfl,_,_,.tmp rfl .nil,bA _,?_⟩;first
      |exact⟨by rw[He,PX e1,aE (by simpa using kL)];rfl,rfl,rfl⟩
      |exact⟨by rw[He,WJ (by omega)];rfl,rfl,rfl⟩
   ·refine aj ?_;refine ab.skip ?_;refine rg ?_;refine I V.bx ?_;refine I V.ah ?_;refine a8 ?_;refine cA (i+1) ?_;exact⟨by omega,by rw[He,PX e1,ap (by simpa using kL)]⟩
  ·refine aj ?_;refine ab.exit ?_;refine rg ?_;refine I V.aA ?_;refine ns ?_;refine ab.ret ?_;refine'⟨.inr rfl,rfl,_,_,.tmp rfl .nil,bA _,?_⟩;first
    |exact⟨by rw[He,PX e1,aE (by simpa using kL)];rfl,rfl,rfl⟩
    |exact⟨by rw[He,WJ (by omega)];rfl,rfl,rfl⟩
theorem acJ{gk:aO}{b:Option Addr}{c:Nat}{l:List Int}{v:Int}(av:jJ gk J b l)(aP:l.length<=1000000):
 Fn (bb Q g0) 91 [.slice b l.length c,.int .i64 v] gk J (fun u m' ag=>u=.bool (decide (v∈l))/\m'=gk/\J=ag):=by
 refine Fn.cH (cQ Tryz.func91) rfl rfl fun H=>?_;refine rg ?_;refine I V.aA ?_;refine bj ?_;refine aM ?_;refine' W.step rfl (Exec.call rfl rfl rfl rfl rfl rfl rfl (bh:=gk) (bW:=[]) (by simp) trivial (WL av aP) ?_);rintro v m' ag hle ⟨rfl,rfl,rfl⟩;rw[gg];refine I V.a1 ?_;refine I V.aA ?_;refine ns ?_;refine ab.ret ?_;refine'⟨.inr rfl,rfl,_,_,.tmp rfl .nil,bA _,?_⟩;refine⟨cC Value.bool ?_,rfl,rfl⟩;rw[o8,lS,lS];exact PY
theorem aku{gk:aO}{b:Option Addr}{c:Nat}{l:List Int}(av:jJ gk J b l)(aP:l.length<=1000000)(aa:1<=l.length):
 Fn (bb Q g0) 71 [.slice b l.length c] gk J (fun u m' ag=>u=.int .i64 (xO l)/\m'=gk/\J=ag):=by
 obtain⟨a,off,cells,rfl,k9,ec⟩:=av (by omega);obtain⟨kG,ky,Hq⟩:=ec 0 (by omega) (by omega);refine Fn.cH (cQ Tryz.func71) rfl rfl fun H=>?_;refine rg ?_;refine I V.aA ?_;refine bj ?_;refine aM ?_;refine I V.a1 ?_;refine ns ?_;refine If (fun ve=>?_) fun ve=>?_
 ·exfalso;omega
 ·have VT:xO (l.take 1)=kG:=by
   cases l with
   |nil=>cases ky
   |cons y r=>simp at ky;subst ky;rfl
  refine nf ?_;refine I V.ah ?_;refine I V.aX ?_;refine' W.step rfl (Exec.val rfl rfl (gY rfl rfl ?ay (hp (eV rfl) ?az)) ?_);case ay=>exact k9
  case az=>first|rfl|assumption
  refine I V.aA ?_;refine bj ?_;refine I V.aA ?_;refine ns ?_;refine ab.block ?_;refine' ab.c2 (l':=[(3,.int .i64 (xO (l.take (1)))),(4,.int .i64 ((1):Int)),(0,_)]) ⟨?kE,?kF,rfl,trivial⟩ (bA _) ?_;case kE=>exact bS
  case kF=>exact bS
  refine aj ?_;refine' ab.dF (fun(i:Nat)=>⟨[(3,.int .i64 (xO (l.take i))),(4,.int .i64 (i:Int))],gk,J,1<=i/\i<=l.length,l.length -i⟩) (1) ?af ?bE;case af=>exact⟨cZ _,by omega⟩
  case bE=>
   rintro i hinv;try simp only at hinv
   obtain⟨ahJ,ao⟩:=hinv;refine rg ?_;refine aM ?_;refine I V.a1 ?_;refine ns ?_;refine If (fun q4=>?_) fun q4=>?_
   ·obtain⟨x,U,e0⟩:=ec i (by omega) (by omega);have e1:l[i]?=some x:=by simpa using U
    have Ph:=akt ahJ e1;refine c5 ?_;refine aj ?_;refine ab.block ?_;refine rg ?_;refine aM ?_;refine I V.aX ?_;refine' W.step rfl (Exec.val rfl rfl (gY rfl rfl ?ay (hp (eV rfl) ?az)) ?_);case ay=>exact k9
    case az=>first|rfl|assumption
    refine' W.step rfl (Exec.val rfl rfl (L7 rfl rfl rfl rfl rfl) ?_);refine I V.aA ?_;refine bj ?_;refine I V.ah ?_;refine I V.bx ?_;refine I V.aA ?_;refine a8 ?_;refine cA (i+1) ?_;exact⟨by omega,by omega⟩
   ·refine aj ?_;refine ab.exit ?_;refine rg ?_;refine aM ?_;refine ns ?_;refine ab.ret ?_;refine'⟨.inr rfl,rfl,_,_,.tmp rfl .nil,bA _,⟨by rw[et (by omega)];rfl,rfl,rfl⟩⟩
theorem ajW{gk:aO}{a:Int}:Fn (bb Q g0) 117 [.int .i64 a] gk J (fun u m' ag=>u=.bool false/\m'=gk/\J=ag):=by
 refine Fn.cH (cQ Tryz.func117) rfl rfl fun H=>?_;refine rg ?_;refine I V.aA ?_;refine bj ?_;refine aM ?_;refine I V.a1 ?_;refine I V.aA ?_;refine ns ?_;refine ab.ret ?_;refine'⟨.inr rfl,rfl,_,_,.tmp rfl .nil,bA _,⟨by simp[pE],rfl,rfl⟩⟩
theorem akh{a b:Int}:Fn (bb Q g0) 106 [.int .i64 a,.int .i64 b] [] J (fun u m' ag=>u=.bool (decide (a<b))/\m'=[]/\J=ag):=by
 refine Fn.cH (cQ Tryz.func106) rfl rfl fun H=>?_;refine rg ?_;refine I V.aA ?_;refine bj ?_;refine I V.ah ?_;refine cl (G:=ajW (gk:=[])) (h:=?_);rintro v m' ag hle ⟨rfl,rfl,rfl⟩;refine I V.ah ?_;refine dq 7 (fun Kc=>?_) fun Kc=>?_
 ·exfalso;cases Kc
 ·refine al ?_;refine W.oL rfl rfl rfl rfl rfl ?_;refine al ?_;refine I V.aV ?_;refine I V.ah ?_;refine aW V.ah ?_;refine aW V.ah ?_;refine aW V.a1 ?_;refine I V.aV ?_;refine I V.aA ?_;refine ns ?_;refine ab.ret ?_;refine c' ?_;refine⟨cC Value.bool ?_,rfl,rfl⟩;first|rfl|simp
theorem ajY{gk:aO}{b:Option Addr}{c:Nat}{l:List Int}(av:jJ gk J b l)(aP:l.length<=1000000)(atK:addrEq b b=true):
 Fn (bb Q g0) 92 [.slice b l.length c] gk J (fun u m' ag=>u=.bool (decide (Mk l))/\m'=gk/\J=ag):=by
 refine Fn.cH (cQ Tryz.func92) rfl rfl fun H=>?_;refine rg ?_;refine I V.aA ?_;refine bj ?_;refine aM ?_;refine I V.bx ?_;refine I V.aA ?_;refine ns ?_;refine ab.block ?_;refine' ab.c2 (l':=[(3,.int .i64 ((l.length:Int) -1)),(0,_)]) ⟨?kE,rfl,trivial⟩ (bA _) ?_;case kE=>exact bS
 refine aj ?_;refine' ab.dF (fun(i:Int)=>⟨[(3,.int .i64 i)],gk,J,i<l.length/\-1<=i/\(∀(j:Nat) x y,i<=j->l[j]?=some x->l[j+1]?=some y->¬y<x),i.toNat⟩) ((l.length:Int) -1) ?af ?bE;case af=>exact⟨by omega,by omega,fun j x y ba U ai=>by have:=(dX.1 ai).1;omega⟩
 case bE=>
  rintro i hinv;try simp only at hinv
  obtain⟨ao,Hd,has⟩:=hinv;refine rg ?_;refine I V.ah ?_;refine I V.a1 ?_;refine ns ?_;refine If (fun mj=>?_) fun mj=>?_
  ·obtain⟨a,off,cells,rfl,k9,ec⟩:=av (by omega);obtain⟨hj,eo,aij⟩:=ec i (by omega) (by omega);obtain⟨kG,ky,Hq⟩:=ec (i -1) (by omega) (by omega);refine c5 ?_;refine aj ?_;refine ab.block ?_;refine aj ?_;refine ab.draw rfl (by kernel_rfl) (bf:=[.val 0,.val 1,.val 2,.val 3,.val 4,.val 5,.val 6,.val 7,.val 8,.bV 9]) (by kernel_rfl) ?_;refine cq ?_;refine an rfl V.aX ?_;refine' a7.val rfl rfl rfl rfl (gY rfl rfl ?ay (hp (eV rfl) ?az)) ?_;case ay=>exact k9
   case az=>first|rfl|assumption
   refine cq ?_;refine an rfl V.bx ?_;refine an rfl V.aX ?_;refine' a7.val rfl rfl rfl rfl (gY rfl rfl ?ay (hp (eV rfl) ?az)) ?_;case ay=>exact k9
   case az=>first|rfl|assumption
   refine' a7.call rfl rfl rfl rfl rfl rfl rfl rfl rfl rfl (bh:=[]) (bW:=gk) (.refl _) trivial (akh) ?_;rintro v m' ag hle ⟨rfl,rfl,rfl⟩;rw[me];refine a7.nil ?_;refine aj ?_;refine If (fun wM=>?_) fun wM=>?_
   ·refine rg ?_;refine I V.aA ?_;refine ns ?_;refine ab.ret ?_;refine'⟨.inr rfl,rfl,_,_,.tmp rfl .nil,bA _,?_⟩;first
      |(refine⟨cC Value.bool ?_,rfl,rfl⟩
        symm;rw[mm];exact fun q=>q (i -1).toNat _ _ ky (by rw[show(i -1).toNat+1=i.toNat by omega];exact eo) (by simpa using wM))
      |(refine⟨cC Value.bool ?_,rfl,rfl⟩
        symm;rw[lS];exact fun j x y U ai=>has j x y (by omega) U ai)
   ·refine aj ?_;refine ab.skip ?_;refine rg ?_;refine I V.ah ?_;refine I V.bx ?_;refine I V.aA ?_;refine a8 ?_;refine cA (i -1) ?_;refine⟨by omega,by omega,fun j x y ba U ai=>?_⟩;by_cases q:i<=j;(exact has j x y q U ai);(obtain rfl:j=(i -1).toNat:=by omega);(rw[ky] at U;rw[show(i -1).toNat+1=i.toNat by omega,eo] at ai;injection U with U;injection ai with ai;subst U;subst ai;simpa using wM)
  ·refine aj ?_;refine ab.exit ?_;refine rg ?_;refine I V.aA ?_;refine ns ?_;refine ab.ret ?_;refine'⟨.inr rfl,rfl,_,_,.tmp rfl .nil,bA _,?_⟩;first
    |(refine⟨cC Value.bool ?_,rfl,rfl⟩
      symm;rw[mm];exact fun q=>q (i -1).toNat _ _ ky (by rw[show(i -1).toNat+1=i.toNat by omega];exact eo) (by simpa using wM))
    |(refine⟨cC Value.bool ?_,rfl,rfl⟩
      symm;rw[lS];exact fun j x y U ai=>has j x y (by omega) U ai)
end
end
end Go.Opn
