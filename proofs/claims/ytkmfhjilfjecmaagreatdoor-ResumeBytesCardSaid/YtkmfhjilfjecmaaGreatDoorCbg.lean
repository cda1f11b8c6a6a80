/- A part of the proof of ResumeBytes. -/
import Derived.Test.YtkmfhjilfjecmaaGreatDoorCbf
import Derived.Test.YtkmfhjilfjecmaaGreatDoorCax
set_option maxRecDepth 100000
set_option maxHeartbeats 4000000
set_option linter.unusedVariables false
set_option linter.unusedSimpArgs false
namespace Go.Opn
noncomputable section
open Go.Cre Go.RowKit Go.Proofs
def ik(s:List (Int×Int)):List Value:=s.flatMap fun x=>[.int .i64 x.1,.int .i64 x.2]
theorem YI(s:List (Int×Int)):(ik s).length=s.length*2:=by
 unfold ik;induction s with
 |nil=>rfl
 |cons x s aI=>rw[FI,dP,aI,jh];simp;omega
theorem Rg:∀{s:List (Int×Int)} {i:Nat},(ik s).drop (i*2)=ik (s.drop i):=by
 intro s;induction s with
 |nil=>intro i;simp[ik]
 |cons x s aI=>
  intro i;cases i with
  |zero=>rfl
  |succ i=>
   rw[show(i+1)*2=(i*2)+1+1 by omega];show((.int .i64 x.1:Value)::(.int .i64 x.2)::ik s).drop (i*2+1+1)=ik (s.drop i);rw[MX,MX,aI]
theorem am1:∀{s:List (Int×Int)} {i:Nat},(ik s).take (i*2)=ik (s.take i):=by
 intro s;induction s with
 |nil=>intro i;simp[ik]
 |cons x s aI=>
  intro i;cases i with
  |zero=>simp[ik]
  |succ i=>
   rw[show(i+1)*2=(i*2)+1+1 by omega];show((.int .i64 x.1:Value)::(.int .i64 x.2)::ik s).take (i*2+1+1)=_;rw[JO,JO,aI];rfl
theorem E3(a b:List (Int×Int)):ik (a++b)=ik a++ik b:=by unfold ik;rw[SD]
theorem YH{s:List (Int×Int)}{i off:Nat}{x:Int×Int}(h:s[i]?=some x)(ar:off=i*2:=by omega):takeN 2 (nJ off (ik s))=some [.int .i64 x.1,.int .i64 x.2]:=by
 subst ar;have ao:=(dY.1 h).1;rw[tJ,Rg,ny ao];have:s[i]=x:=by rw[dj ao] at h;injection h
 rw[this];rfl
theorem YJ{s:List (Int×Int)}{i off:Nat}{x:Int×Int}(h:i<s.length)(ar:off=i*2:=by omega):gg off (ik s) [.int .i64 x.1,.int .i64 x.2]=some (ik (s.set i x)):=by
 subst ar;rw[Cy _ _ _ (by rw[YI];simp;omega),am1,show i*2+[(.int .i64 x.1:Value),.int .i64 x.2].length=(i+1)*2 by simp;omega,Rg,JL,aE h,E3];show _=some (ik (s.take i)++([.int .i64 x.1,.int .i64 x.2]++ik (s.drop (i+1))));rw[gw]
theorem Acc.aqG{e:TypeId}{sz k:Nat}{v:Value}{cells:List Value}{aY:aN}(h:Acc e sz v k cells aY)(bE:z0 aY)(aP:mH aY):(∃b,v=.slice b 0 0/\k=0/\cells=[]/\aY=[])\/∃a rest,v=.slice (some ⟨a,0,none⟩) k cZ/\aY=[(a,.opn cells e rest 0)]/\cells.length=k*sz:=by
 cases h with
 |nil=>exact .inl ⟨_,rfl,rfl,rfl,rfl⟩
 |kt a=>exact .inl ⟨_,rfl,rfl,rfl,rfl⟩
 |opn aa ae=>
  have:=bE _ _ _ _ _ (.head _);subst this;exact .inr ⟨_,_,rfl,rfl,aa⟩
 |cap=>exact absurd (.head _) (aP _ _ _)
section
variable {Q:dD Tryz.prog}{g0:Nat}{J:aH}
theorem ap6{db dc ad cj:Nat}{g:bq}{aT aK:Option Addr}{aQ ci:Nat}{P:List Int}{cT a3:Nat}{s:List (Int×Int)}{v:Value}{aY:aN}{a:Nat}{k:Int}
 (aq:fH J g aT aQ aK ci)(hw:u9 J db dc ad cj g aT aQ aK ci P)(de:g.ns.length<=2000)(a1:a<g.ns.length)(hs:s.length<=2000)(cw:Acc 145 2 v s.length (ik s) aY)(bE:z0 aY)(aP:mH aY):
 Fn (bd Q g0) 109 [.int .i64 (a:Int),.int .i64 k,.pointer (some ⟨cT,0,none⟩),.pointer (some ⟨a3,0,none⟩)] ((cT,.row [v] 141)::(a3,.row [.pointer (some ⟨db,0,none⟩)] 106)::aY) J (fun u m' af=>J=af/\u=.bool true/\∃v' hF,m'=(cT,.row [v'] 141)::(a3,.row [.pointer (some ⟨db,0,none⟩)] 106)::hF/\Acc 145 2 v' (s.length+1) (ik (s++[(mj g a,k)])) hF/\z0 hF/\mH hF):=by
 obtain⟨_,fE⟩:=aq.n.at;have fX:addrEq aK aK=true:=aq.i.addr;have gq:addrEq aT aT=true:=aq.n.addr;have zv:=hw.w;obtain⟨bO,off,cells,bz,rfl,mC,j0⟩:=fE (by omega);obtain⟨y,cs,ai,gU,iz,ei⟩:=j0 a (by omega) (by omega);obtain⟨b1,c1,b2,c2,b3,c3,rfl,eG,gM,gA⟩:=ei;have qo:=iz 2 _ (by decide) rfl;rw[cx] at ai;have ug:mj g a=y.i:=by unfold mj;rw[ai]
 obtain⟨bv,gJ,rfl⟩:=cw.form;have Cn:=cw.addr;refine Fn.cH (cM Tryz.func109) rfl rfl fun H=>?_;refine rg ?_;refine I V.az ?_;refine ns ?_;refine ab.draw rfl (by kernel_rfl) (bc:=[.val 0,.val 1,.val 2,.val 3,.val 4,.val 5,.val 6,.val 7,.val 8,.val 9,.val 10,.val 11,.gk 12,.cA [11,10,9,8,7,6,5,4,3,2,1,0],.bR 13,.bR 14]) (by kernel_rfl) ?_;refine al rfl V.aG ?_;refine al rfl V.aG ?_;refine cq ?_;refine al rfl V.aG ?_;refine al rfl V.ag ?_;refine al rfl V.aW ?_;refine al rfl V.ba ?_;refine al rfl V.aG ?_;refine al rfl V.ag ?_;refine al rfl V.jl ?_;refine a8.buildSlice rfl rfl rfl rfl rfl rfl (E6 Q g0) rfl rfl rfl fun k6=>?_;refine a8.cA eX ?_;refine' a8.fP rfl rfl (Aj rfl rfl rfl rfl rfl rfl (E6 Q g0) (RS Q g0) (fun i q=>by cases q) ?cw ?hm ?U ?cr ?ca ?av fun Jk LA Bj Ic=>?_);case cw=>assumption
 case hm=>exact hU (l₁:=[_,_,_])
 case U=>exact hR
 case cr=>first|rfl|(simp;done)|(simp;omega)
 case ca=>first|rfl|exact hf _
 case av=>exact cc
 obtain⟨aq7,w6,rfl⟩:=Bj.form;refine kn rfl ?_;refine a8.nil ?_;refine ab.gN (hU (l₁:=[_,_,_])) ?_;refine rg ?_;refine I V.az ?_;refine ns ?_;refine ab.ret ?_;refine'⟨.inr rfl,rfl,_,_,.tmp rfl .nil,.cons _ (bu _),⟨rfl,rfl,_,LA,rfl,by rw[ug,E3];exact Bj,Ic.1 bE,Ic.2 aP⟩⟩
def L8(s:List (Int×Int))(i:Nat)(cur:List (Int×Int)):Prop:=cur.length=s.length/\∀j,j<s.length->cur[j]?=if j<i\/s.length<=j+i then s[s.length -1 -j]? else s[j]?
theorem anJ{s cur:List (Int×Int)}{i:Nat}{x y:Int×Int}(h:L8 s i cur)(ao:i+i+1<s.length)(U:cur[i]?=some x)(ai:cur[s.length -1 -i]?=some y):L8 s (i+1) ((cur.set i y).set (s.length -1 -i) x):=by
 obtain⟨aa,ae⟩:=h;refine⟨by rw[fz,fz];exact aa,fun j a'=>?_⟩;rw[ae i (by omega),an (by omega)] at U;rw[ae _ (by omega),an (by omega)] at ai;rw[kJ,kJ,fz,aa];by_cases bb:s.length -1 -i=j
 ·subst bb
  rw[aE rfl,aE (by omega),aE (by omega),show s.length -1 -(s.length -1 -i)=i by omega,U]
 ·rw[an bb]
  by_cases a7:i=j
  ·subst a7
   rw[aE rfl,aE (by omega),aE (by omega),ai]
  ·rw[an a7,ae j a']
   by_cases b8:j<i\/s.length<=j+i
   ·rw[aE b8,aE (by omega)]
   ·rw[an b8,an (by omega)]
theorem anI{s cur:List (Int×Int)}{i:Nat}(h:L8 s i cur)(ao:s.length<=i+i+1):cur=s.reverse:=by
 obtain⟨aa,ae⟩:=h;apply lA
 intro j;by_cases a':j<s.length
 ·rw[ae j a',List.getElem?_reverse a']
  split
  ·rfl
  ·congr 1;omega
 ·rw[fo (by omega),fo (by rw[uY];omega)]
theorem anK{s:List (Int×Int)}{v:Value}{aY:aN}(hs:s.length<=2000)(cw:Acc 145 2 v s.length (ik s) aY)(bE:z0 aY)(aP:mH aY):
 Fn (bd Q g0) 110 [v] aY J (fun u m' af=>J=af/\Acc 145 2 v s.length (ik s.reverse) m'):=by
 have asU:=cw;rcases cw.aqG bE aP with⟨b,rfl,bw,_,rfl⟩|⟨a,rest,rfl,rfl,hlen⟩
 ·obtain rfl:s=[]:=q5.1 bw
  refine Fn.cH (cM Tryz.func110) rfl rfl fun H=>?_;refine rg ?_;refine aM ?_;refine I V.bt ?_;refine aM ?_;refine ns ?_;refine ab.block ?_;refine' ab.c0 (l':=[(2,.int .i64 0),(3,.int .i64 (-1)),(0,_)]) ⟨?hi,?jf,rfl,trivial⟩ (bu _) ?_;case hi=>exact bP
  case jf=>exact bP
  refine aj ?_;refine' ab.dF (fun(i:Nat)=>⟨[(2,.int .i64 0),(3,.int .i64 (-1))],[],J,i=0,i⟩) (0) ?hs ?bA;case hs=>rfl
  case bA=>
   rintro i hinv;try simp only at hinv
   refine rg ?_;refine aM ?_;refine I V.aZ ?_;refine ns ?_;refine If (fun dG=>?_) fun dG=>?_
   ·exfalso;omega
   ·refine aj ?_;refine ab.exit ?_;refine'⟨.inl rfl,rfl,_,_,.nil,bu _,⟨rfl,cw⟩⟩
 ·refine Fn.cH (cM Tryz.func110) rfl rfl fun H=>?_
  refine rg ?_;refine aM ?_;refine I V.bt ?_;refine aM ?_;refine ns ?_;refine ab.block ?_;refine' ab.c0 (l':=[(2,.int .i64 ((0):Int)),(3,.int .i64 ((s.length:Int) -1 -(0))),(0,_)]) ⟨?hi,?jf,rfl,trivial⟩ (bu _) ?_;case hi=>exact bP
  case jf=>exact bP
  refine aj ?_;refine' ab.dF (fun(bC:Nat×(List (Int×Int))×(List Nat))=>match bC with|(i,cur,nr)=>⟨[(2,.int .i64 (i:Int)),(3,.int .i64 ((s.length:Int) -1 -i))],[(a,.opn (ik cur) 145 nr 0)],J,i<=s.length/\L8 s i cur,s.length -i⟩) ⟨0,s,rest⟩ ?hs ?bA
  case hs=>exact⟨cy _,rfl,fun j a'=>by rw[an (by omega)]⟩
  case bA=>
   rintro⟨i,cur,nr⟩ hinv;try simp only at hinv
   obtain⟨ao,rO⟩:=hinv;refine rg ?_;refine aM ?_;refine I V.aZ ?_;refine ns ?_;refine If (fun dG=>?_) fun dG=>?_
   ·have lf:=rO.1;have U:=dj (l:=cur) (i:=i) (by omega);have ai:=dj (l:=cur) (i:=s.length -1 -i) (by omega);generalize cur[i]'(by omega)=x at U;generalize cur[s.length -1 -i]'(by omega)=y at ai;refine c7 ?_;refine aj ?_;refine ab.block ?_;refine aj ?_;refine ab.draw rfl (by kernel_rfl) (bc:=[.val 0,.val 1,.val 2,.val 3,.val 4,.val 5,.val 6,.val 7,.val 8,.val 9,.val 10,.val 11,.val 12,.bR 13,.val 14,.cA [3,2],.bR 15]) (by kernel_rfl) ?_;refine cq ?_;refine al rfl V.aW ?_;refine' a8.val rfl rfl rfl rfl (gP rfl rfl ?aw (mm (eW rfl) ?ay)) ?_;case aw=>exact qr
    case ay=>exact YH ai
    refine cq ?_;refine al rfl V.aW ?_;refine' a8.val rfl rfl rfl rfl (gP rfl rfl ?aw (mm (eW rfl) ?ay)) ?_;case aw=>exact qr
    case ay=>exact YH U
    refine al rfl V.aW ?_;refine' a8.fP rfl rfl (Ak rfl rfl rfl rfl (fQ rfl) rfl rfl rfl ?aa ?hs ?bE ?au ?_);case au=>exact .refl _
    case hs=>exact YJ (i:=i) (by omega)
    case aa=>first|rfl|assumption
    case bE=>exact cy _
    refine al rfl V.aW ?_;refine a8.cA eX ?_;refine' a8.fP rfl rfl (Ak rfl rfl rfl rfl (fQ rfl) rfl rfl rfl ?aa ?hs ?bE ?au ?_);case au=>exact .refl _
    case hs=>exact YJ (i:=s.length -1 -i) (by rw[fz];omega)
    case aa=>first|rfl|assumption
    case bE=>exact cy _
    refine a8.nil ?_;refine rg ?_;refine I V.ag ?_;refine I V.bt ?_;refine I V.ag ?_;refine I V.bt ?_;refine aM ?_;refine a6 ?_;refine cB ⟨i+1,(cur.set i y).set (s.length -1 -i) x,[]⟩ ?_;exact⟨by omega,anJ rO (by omega) U ai⟩
   ·refine aj ?_;refine ab.exit ?_;refine'⟨.inl rfl,rfl,_,_,.nil,bu _,?_⟩;refine⟨rfl,?_⟩;rw[<-anI rO (by omega)];exact .opn (by rw[YI,rO.1]) (cy _)
end
theorem NZ{J:aH}{e:TypeId}{v:Value}{s:List (Int×Int)}(h:hL J e 2 v s.length (ik s)):fc J e 2 uX v s:=by
 refine⟨ik s,h,fun i x U=>?_⟩;have ao:=(dY.1 U).1;rw[Rg,ny ao];have:s[i]=x:=by rw[dj ao] at U;injection U
 rw[this];rfl
theorem apJ{g:bq}:∀{l:List (Nat×Int)} {s:List (Int×Int)},Ad (fun(s:List (Int×Int)) a k=>(s++[(mj g a,k)],true)) s l=s++l.map fun x=>(mj g x.1,x.2):=by
 intro l;induction l with
 |nil=>intro s;simp[Ad]
 |cons x l aI=>
  intro s;show(if true=true then _ else _)=_;rw[aE rfl];show Ad _ (s++[(mj g x.1,x.2)]) l=_;rw[aI,nz,gw];rfl
section
variable {Q:dD Tryz.prog}{g0:Nat}{J:aH}
theorem RZ{db dc ad cj:Nat}{g:bq}{aT aK:Option Addr}{aQ ci:Nat}{P:List Int}{dS:Nat}{p:Int}
 (aq:fH J g aT aQ aK ci)(hw:u9 J db dc ad cj g aT aQ aK ci P)(aB:Tree g P)(de:g.ns.length<=2000)(nO:∀x∈g.ns,x.ak.length<=60)(ib:dS<g.ns.length):
 Fn (bd Q g0) 97 [.pointer (some ⟨db,0,none⟩),.int .i64 (dS:Int),.int .i64 p] [] J (fun u m' af=>∃b c,u=.slice b (gE g P p dS).length c/\m'=[]/\J.le af/\fc af 145 2 uX (.slice b (gE g P p dS).length c) (gE g P p dS)):=by
 have xU:(j5 g P p dS).length<=2000:=by
  have:=zG (g:=g) (P:=P) (p:=p) dS dS (cW _);unfold j5;rw[lB];omega
 refine Fn.cH (cM Tryz.func97) rfl rfl fun H=>?_;refine rg ?_;refine dK fun a3=>?_;refine I V.az ?_;refine bi ?_;refine' W.step rfl (.of (eT rfl rfl rfl (aqv Q g0) rfl rfl rfl fun cT=>?_));refine bi ?_;refine I V.aG ?_;refine aM ?_;refine cl (G:=S3 (σ:=List (Int×Int)) (step:=fun s a k=>(s++[(mj g a,k)],true)) (tp:=fun c s ag=>∃v aY,ag=(cT,.row [v] 141)::(a3,.row [.pointer (some ⟨db,0,none⟩)] 106)::aY/\Acc 145 2 v s.length (ik s) aY/\z0 aY/\mH aY/\s.length+c<=2000) (r4:=[]) aq hw aB de nO (fun c a s ag cV ⟨v,aY,aa,ae,aF,bo,eB⟩=>⟨v,aY,aa,ae,aF,bo,by omega⟩) (fun c a s ag k cV ua ⟨v,aY,aa,ae,aF,bo,eB⟩=>by subst aa;exact(ap6 aq hw de (by omega) (by omega) ae aF bo).perm fun u m' af ⟨bb,a7,v',hF,b8,fl,jb,qH⟩=>⟨m',.refl _,bb,a7,v',hF,b8,by simpa using fl,jb,qH,by simp;omega⟩) ib ⟨_,[],rfl,.nil,fun _ _ _ _ _ q=>(by cases q),fun _ _ _ q=>(by cases q),by simp;omega⟩) (h:=?_);rintro v m' af hle ⟨rfl,c,v2,It,rfl,Bi,lk,aiO,_⟩;refine a6 ?_;rw[gj];rw[apJ,k2,show((pa g P p dS).map fun x=>(mj g x.1,x.2))=j5 g P p dS from rfl] at Bi;obtain⟨b2,bp,rfl⟩:=Bi.form;refine rg ?_;refine I V.aG ?_;refine' W.step rfl (Exec.call rfl rfl rfl rfl rfl rfl rfl (bf:=It) (bM:=[_,_]) (hU (l₂:=[_,_])) trivial (anK xU Bi lk aiO) ?_);rintro v m3 af hle ⟨rfl,VI⟩;refine a6 ?_;rw[show(j5 g P p dS).reverse=gE g P p dS from rfl,show(j5 g P p dS).length=(gE g P p dS).length by rw[gE,uY]] at VI;refine VI.hQ (.refl _) fun e2 cF lj=>?_;refine rg ?_;refine I V.aG ?_;refine I V.az ?_;refine ns ?_;refine ab.ret ?_;refine c5 ?_
 exact⟨_,_,by rw[show(gE g P p dS).length=(j5 g P p dS).length by rw[gE,uY]];rfl,rfl,cF,NZ lj⟩
theorem aeD{b1 b2:Option Addr}{c1 c2:Nat}{cN dW:List (Int×Int)}(aa:fc J 145 2 uX (.slice b1 cN.length c1) cN)(ae:fc J 145 2 uX (.slice b2 dW.length c2) dW)(av:cN.length<=1000000):
 Fn (bd Q g0) 111 [.slice b1 cN.length c1,.slice b2 dW.length c2] [] J (fun u m' af=>u=.bool (decide (cN=dW))/\m'=[]/\J=af):=by
 obtain⟨_,Bo⟩:=aa.at;obtain⟨_,vJ⟩:=ae.at;refine Fn.cH (cM Tryz.func111) rfl rfl fun H=>?_;refine rg ?_;refine I V.az ?_;refine bi ?_;refine aM ?_;refine I V.aZ ?_;refine ns ?_;refine If (fun eF=>?_) fun eF=>?_
 ·refine rg ?_;refine I V.az ?_;refine ns ?_;refine ab.ret ?_;refine c5 ?_;refine⟨cD Value.bool ?_,rfl,rfl⟩;first
   |(have c:=bx;symm;rw[l6]
     apply lA
     intro j;by_cases q:j<i
     ·exact bx j q
     ·rw[fo (by omega),fo (by omega)])
   |(symm;rw[mz];intro q;rw[q] at eF;exact eF rfl)
 ·refine aj ?_;refine ab.skip ?_;refine rg ?_;refine aM ?_;refine ns ?_;refine ab.block ?_;refine' ab.c0 (l':=[(13,.int .i64 ((0):Int)),(0,_),(1,_),(12,_)]) ⟨?r9,rfl,rfl,rfl,trivial⟩ (bu _) ?_;case r9=>exact bP
  refine aj ?_;refine' ab.rT (α:=(Nat)) (fun(i:Nat)=>[(13,.int .i64 (i:Int))]) (fun(i:Nat)=>i<=cN.length/\∀j,j<i->cN[j]?=dW[j]?) (fun(i:Nat)=>cN.length -i) (0) ?hs ?bA;case hs=>exact⟨cy _,fun j a'=>by omega⟩
  case bA=>
   rintro i hinv;try simp only at hinv
   obtain⟨ao,bx⟩:=hinv;refine rg ?_;refine I V.aZ ?_;refine ns ?_;refine If (fun lF=>?_) fun lF=>?_
   ·obtain⟨bm,uC,NC,aL,rfl,G9,pC⟩:=Bo (by omega);obtain⟨a2,wj,ND,bk,rfl,G',o1⟩:=vJ (by omega);obtain⟨x,cs,U,zi,_,rfl⟩:=pC i (by omega) (by omega);obtain⟨y,cs,ai,VY,_,rfl⟩:=o1 i (by omega) (by omega);rw[cx] at U ai;refine c7 ?_;refine aj ?_;refine ab.block ?_;refine rg ?_;refine aM ?_;refine ns ?_;refine ab.draw rfl (by kernel_rfl) (bc:=[.val 0,.val 1,.val 2,.val 3,.val 4,.val 5,.val 6,.val 7,.val 8]) (by kernel_rfl) ?_;refine cq ?_;refine al rfl V.aW ?_;refine al rfl V.c9 ?_;refine cq ?_;refine al rfl V.aW ?_;refine al rfl V.c9 ?_;refine' a8.val rfl rfl rfl rfl (Z8 rfl (.inr ⟨rfl,rfl⟩) rfl rfl (by kernel_rfl)) ?_;refine a8.nil ?_;refine aj ?_;refine If (fun mU=>?_) fun mU=>?_
    ·refine rg ?_;refine I V.az ?_;refine ns ?_;refine ab.ret ?_;refine c5 ?_;refine⟨cD Value.bool ?_,rfl,rfl⟩;first
       |(have c:=mU;symm;rw[mz];intro q;subst q;rw[U] at ai;injection ai with ai;subst ai;exact mU ⟨rfl,rfl⟩)
       |(have c:=bx;symm;rw[l6]
         apply lA
         intro j;by_cases q:j<i
         ·exact bx j q
         ·rw[fo (by omega),fo (by omega)])
       |(symm;rw[mz];intro q;rw[q] at eF;exact eF rfl)
    ·refine aj ?_;refine ab.skip ?_;refine rg ?_;refine I V.bt ?_;refine I V.ag ?_;refine a6 ?_;refine'⟨(i+1),_,?hinv,?ky,rfl,⟨?m13,rfl,rfl,rfl,trivial⟩,bu _,rfl⟩;case m13=>exact bP
     case ky=>exact cc
     case hinv=>refine⟨by omega,fun j a'=>?_⟩;by_cases q:j<i;(exact bx j q);(obtain rfl:j=i:=by omega);(rw[U,ai];have c:=gQ.1 mU;exact cD some (Prod.ext c.1 c.2))
   ·refine aj ?_;refine ab.exit ?_;refine rg ?_;refine I V.az ?_;refine ns ?_;refine ab.ret ?_;refine c5 ?_;refine⟨cD Value.bool ?_,rfl,rfl⟩;first
     |(have c:=bx;symm;rw[l6]
       apply lA
       intro j;by_cases q:j<i
       ·exact bx j q
       ·rw[fo (by omega),fo (by omega)])
     |(symm;rw[mz];intro q;rw[q] at eF;exact eF rfl)
theorem UJ{b1 b2:Option Addr}{c1 c2:Nat}{cN dW:List (Int×Int)}(aa:fc J 145 2 uX (.slice b1 cN.length c1) cN)(ae:fc J 145 2 uX (.slice b2 dW.length c2) dW)(av:cN.length<=1000000):
 Fn (bd Q g0) 100 [.slice b1 cN.length c1,.slice b2 dW.length c2] [] J (fun u m' af=>u=.bool (decide (cN=dW))/\m'=[]/\J=af):=by
 refine Fn.cH (cM Tryz.func100) rfl rfl fun H=>?_;refine rg ?_;refine I V.az ?_;refine bi ?_;refine aM ?_;refine cl (G:=aeD aa ae av) (h:=?_);rintro v m' af hle ⟨rfl,rfl,rfl⟩;refine I V.az ?_;refine ns ?_;refine ab.ret ?_;refine c5 ?_;exact⟨rfl,rfl,rfl⟩
end
section
variable {Q:dD Tryz.prog}{g0:Nat}{J:aH}
theorem ak6{db dc ad cj:Nat}{g:bq}{aT aK:Option Addr}{aQ ci:Nat}{P:List Int}(aq:fH J g aT aQ aK ci)(hw:u9 J db dc ad cj g aT aQ aK ci P)(de:g.ns.length<=2000)(i2:g.is.length<=200)(aP:∀x∈g.ns,eu g x=0):
 Fn (bd Q g0) 84 [.pointer (some ⟨db,0,none⟩)] [] J (fun u m' af=>∃b c,u=.slice b (gC g).length c/\m'=[]/\J.le af/\fc af 22 1 (jW af) (.slice b (gC g).length c) (gC g)):=by
 obtain⟨_,fE⟩:=aq.n.at;have fX:addrEq aK aK=true:=aq.i.addr;have gq:addrEq aT aT=true:=aq.n.addr;have zv:=hw.w;refine Fn.cH (cM Tryz.func84) rfl rfl fun H=>?_;refine rg ?_;refine I V.az ?_;refine bi ?_;refine aM ?_;refine I V.aG ?_;refine I V.bL ?_;refine' W.step rfl (.of (p4 rfl rfl rfl rfl rfl (nt Q g0) ?bw ?aa ?ae fun a12=>?_));case bw=>exact cc
 case aa=>exact cc
 case ae=>exact cc
 refine I V.az ?_;refine a6 ?_;rw[CR,cx];refine rg ?_;refine aM ?_;refine I V.aG ?_;refine aM ?_;refine ns ?_;refine ab.block ?_;refine' ab.c0 (l':=[(19,.int .i64 ((0):Int)),(3,_),(17,_),(18,_)]) ⟨?Ji,rfl,rfl,rfl,trivial⟩ (bu _) ?_;case Ji=>exact bP
 refine aj ?_;refine' ab.dF (fun(bC:Nat×(List Value)×(List aN)×aN)=>match bC with|(i,vs,h3,sE)=>⟨[(19,.int .i64 (i:Int))],(a12,.row vs 22)::(sE++[]),J,i<=g.ns.length/\qR 3 (qL g i) vs h3/\sE=h3.flatten,g.ns.length -i⟩) ⟨0,List.replicate g.is.length (.slice none 0 0),List.replicate g.is.length [],[]⟩ ?hs ?bA
 case hs=>exact⟨cy _,by rw[Zu];exact qR.init _,U4.symm⟩
 case bA=>
  rintro⟨i,vs,h3,sE⟩ hinv;try simp only at hinv
  obtain⟨ao,gK,h1⟩:=hinv;refine rg ?_;refine I V.aZ ?_;refine ns ?_;refine If (fun w6=>?_) fun w6=>?_
  ·obtain⟨a,off,cells,bz,rfl,mC,ec⟩:=fE (by omega);obtain⟨x,cs,U,gU,_,ei⟩:=ec i (by omega) (by omega);obtain⟨b1,c1,b2,c2,b3,c3,rfl,eG,gM,gA⟩:=ei;rw[cx] at U;have e5:=U;have e4:=aP x (cb e5);refine c7 ?_;refine aj ?_;refine ab.block ?_;refine rg ?_;refine I V.ag ?_;refine I V.aW ?_;refine I V.c9 ?_;refine' W.step rfl (.of (eT rfl rfl rfl (oB Q g0) rfl rfl rfl fun a5=>?_));refine I V.az ?_;refine dC ?_;refine bi ?_;refine I V.ba ?_;refine I V.aG ?_;refine I V.aZ ?_;refine ns ?_;refine If (fun nG=>?_) fun nG=>?_
   ·have ui:=IF e4 (by simpa using nG);obtain⟨v,aY,Qh,PF,cw⟩:=gK.get (I6 (g:=g) (i:=i) (j:=x.i.toNat) (by omega));rw[show((x.i.toNat:Nat):Int)=x.i by omega] at cw;obtain⟨bv,gJ,rfl⟩:=cw.form;have Cn:=cw.addr;have PN:nth vs (0+x.i.toNat*1)=some (.slice bv (eJ x.i 0 (g.ns.take i)).length gJ):=X4 Qh;have hlen:(eJ x.i 0 (g.ns.take i)).length<=2000:=by have:=Mf (j:=x.i) (l:=g.ns.take i) (n:=0);rw[iu] at this;omega
    have rQ:vs.length=g.is.length:=by rw[gK.lv,zZ]
    have PG:h3.length=g.is.length:=by rw[gK.zD,zZ]
    refine aj ?_;refine ab.draw rfl (by kernel_rfl) (bc:=[.val 0,.val 1,.val 2,.val 3,.val 4,.val 5,.val 6,.val 7,.val 8,.gk 9,.cA [8,7,6,5,4,3,2,1,0],.bR 10,.val 11,.cA [2,1,0],.bR 12]) (by kernel_rfl) ?_;refine cq ?_;refine al rfl V.aG ?_;refine cq ?_;refine al rfl V.aG ?_;refine al rfl V.aW ?_;refine al rfl V.aG ?_;refine al rfl V.ag ?_;refine a8.buildSlice rfl rfl rfl rfl rfl rfl (e0 Q g0) rfl rfl rfl fun AE=>?_;refine a8.cA eX ?_;refine' a8.fP rfl rfl (kk rfl rfl rfl rfl rfl rfl (e0 Q g0) (pZ Q g0) (fun i q=>by cases q) ?cw ?hm ?U ?cr ?ca ?av fun aar x5 xx=>?_);case cw=>assumption
    case hm=>exact Da (by rw[h1];exact N7 PF)
    case U=>exact hR
    case cr=>first|rfl|(simp;done)|(simp;omega)
    case ca=>first|rfl|exact hf _
    case av=>exact cc
    obtain⟨abN,hX,rfl⟩:=xx.form;refine al rfl V.aW ?_;refine a8.cA eX ?_;refine' a8.fP rfl rfl (hy rfl rfl rfl rfl (fQ rfl) rfl rfl rfl ?aa ?hs ?au ?_);case au=>repeat first|exact .head _ _ _ _|apply cQ.tail|apply cQ.app
    case hs=>exact ZA (j:=x.i.toNat) (by omega)
    case aa=>first|rfl|assumption
    refine a8.nil ?_;first
      |(have BM:=xx;refine ab.gN (Da (Kw (j:=x.i.toNat) (l:=h3) (by omega))) ?_)
      |skip
    refine rg ?_;refine I V.bt ?_;refine I V.ag ?_;refine a6 ?_;refine cB ⟨i+1,vs.set x.i.toNat _,h3.set x.i.toNat x5,(h3.set x.i.toNat x5).flatten⟩ ?_ (hm:=.cons _ (.cons _ (.refl _)));refine⟨by omega,?_,rfl⟩;rw[Zt e5 (by simpa using nG) ui.1 ui.2.1];exact gK.set (by simpa using xx)
   ·refine aj ?_;refine ab.skip ?_;first
      |(have BM:=xx;refine ab.gN (Da (Kw (j:=x.i.toNat) (l:=h3) (by omega))) ?_)
      |skip
    refine rg ?_;refine I V.bt ?_;refine I V.ag ?_;refine a6 ?_;refine cB ⟨i+1,vs,h3,sE⟩ ?_ (hm:=.cons _ (.refl _));refine⟨by omega,by rw[Zs e5 (by simpa using nG)];exact gK,h1⟩
  ·refine aj ?_;refine ab.exit ?_;have hi':i=g.ns.length:=by omega
   rw[hi',Zr] at gK;refine ab.YM gK (m0:=(a12,.row vs 22)::[]) (by rw[h1];exact List.perm_middle.symm) fun e2 cF bx=>?_;refine ab.mJ rfl fun dU=>?_;have kw:=UG (aH.oL e2 a12 (vs,22)) gK.lv (by rw[uI];unfold cZ;omega) fun j s v aa ae=>(bx j s v aa ae).mono dU;refine rg ?_;refine aM ?_;refine ns ?_;refine ab.ret ?_;refine c5 ?_;exact⟨some ⟨a12,0,none⟩,(gC g).length,by rw[uI];rfl,rfl,cF.trans dU,kw⟩
theorem Ra{a9:Nat}{b:Bool}{k x y z:Int}:
 Fn (bd Q g0) 83 [.agg #[.int .i64 k,.int .i64 x,.int .i64 y,.int .i64 z],.pointer (some ⟨a9,0,none⟩)] [(a9,.row [.bool b] 4)] J (fun u m' af=>u=.bool (decide (k≠2))/\m'=[(a9,.row [.bool (decide (k≠2))] 4)]/\J=af):=by
 refine Fn.cH (cM Tryz.func83) rfl rfl fun H=>?_;refine rg ?_;refine dK fun a2=>?_;refine I V.az ?_;refine bi ?_;refine I V.ba ?_;refine I V.aG ?_;refine I V.aZ ?_;refine dC ?_;refine bi ?_;refine I V.aG ?_;refine I V.az ?_;refine ns ?_;refine ab.ret ?_;refine'⟨.inr rfl,rfl,_,_,.tmp rfl .nil,.cons _ (.refl _),⟨rfl,rfl,rfl⟩⟩
theorem an2{db dc ad cj:Nat}{g:bq}{aT aK:Option Addr}{aQ ci:Nat}{P:List Int}{kL a4 a3:Nat}{d info k:Int}{fv:Value}{a:Nat}
 (aq:fH J g aT aQ aK ci)(hw:u9 J db dc ad cj g aT aQ aK ci P)(de:g.ns.length<=2000)(a1:a<g.ns.length)(ay:eM fv=true):
 Fn (bd Q g0) 99 [.int .i64 (a:Int),.int .i64 k,.pointer (some ⟨a3,0,none⟩),.pointer (some ⟨a4,0,none⟩),.pointer (some ⟨kL,0,none⟩)] [(kL,.row [.int .i64 d] 3),(a4,.row [.int .i64 info] 3),(a3,.row [.pointer (some ⟨db,0,none⟩),fv] 153)] J
  (fun u m' af=>J=af/\u=.bool (decide ((if mj g a=info then(a:Int) else d)<0))/\m'=[(kL,.row [.int .i64 (if mj g a=info then(a:Int) else d)] 3),(a4,.row [.int .i64 info] 3),(a3,.row [.pointer (some ⟨db,0,none⟩),fv] 153)]):=by
 obtain⟨_,fE⟩:=aq.n.at;have fX:addrEq aK aK=true:=aq.i.addr;have gq:addrEq aT aT=true:=aq.n.addr;have zv:=hw.w;obtain⟨bO,off,cells,bz,rfl,mC,j0⟩:=fE (by omega);obtain⟨y,cs,ai,gU,iz,ei⟩:=j0 a (by omega) (by omega);obtain⟨b1,c1,b2,c2,b3,c3,rfl,eG,gM,gA⟩:=ei;have qo:=iz 2 _ (by decide) rfl;rw[cx] at ai;have ug:mj g a=y.i:=by unfold mj;rw[ai]
 refine Fn.cH (cM Tryz.func99) rfl rfl fun H=>?_;refine rg ?_;refine I V.az ?_;refine ns ?_;refine ab.draw rfl (by kernel_rfl) (bc:=[.val 0,.val 1,.val 2,.val 3,.val 4,.val 5,.val 6,.val 7,.val 8,.val 9,.val 10,.val 11]) (by kernel_rfl) ?_;refine al rfl V.ba ?_;refine al rfl V.aG ?_;refine cq ?_;refine al rfl V.aG ?_;refine al rfl V.ag ?_;refine al rfl V.aW ?_;refine al rfl V.ba ?_;refine al rfl V.aG ?_;refine al rfl V.aG ?_;refine al rfl V.aZ ?_;refine a8.nil ?_;refine aj ?_;refine If (fun hA=>?_) fun hA=>?_
 ·refine rg ?_;refine I V.ag ?_;refine dC ?_;refine bi ?_;refine I V.aG ?_;refine I V.aZ ?_;refine I V.az ?_;refine ns ?_;refine ab.ret ?_;refine'⟨.inr rfl,rfl,_,_,.tmp rfl .nil,bu _,?_⟩;rw[ug];first
   |(have c:=hA;rw[aE hA];exact⟨rfl,rfl,rfl⟩)
   |(rw[an hA];exact⟨rfl,rfl,rfl⟩)
 ·refine aj ?_;refine ab.skip ?_;refine rg ?_;refine I V.aG ?_;refine I V.aZ ?_;refine I V.az ?_;refine ns ?_;refine ab.ret ?_;refine'⟨.inr rfl,rfl,_,_,.tmp rfl .nil,bu _,?_⟩;rw[ug];first
   |(have c:=hA;rw[aE hA];exact⟨rfl,rfl,rfl⟩)
   |(rw[an hA];exact⟨rfl,rfl,rfl⟩)
end
end
end Go.Opn
