/- A part of the proof of ResumeBytes. -/
import Derived.Test.YtkmfhjilfjecmaaGreatDoorCba
import Derived.Test.YtkmfhjilfjecmaaGreatDoorCbx
import Derived.Test.YtkmfhjilfjecmaaGreatDoorCay
set_option maxRecDepth 100000
set_option maxHeartbeats 8000000
set_option linter.unusedVariables false
set_option linter.unusedSimpArgs false
namespace Go.Opn
noncomputable section
open Go.Cre Go.RowKit Go.Proofs
theorem am4{α:Type}{d:List α}{x w:α}{i n:Nat}(aV:d.length=i)(ao:i<n):(d++List.replicate (n -i) x).set i w=(d++[w])++List.replicate (n -(i+1)) x:=by
 rw[show n -i=(n -(i+1))+1 by omega,List.replicate_succ,aa9 _ _ (by omega),aV,sf];simp
theorem am2{α:Type}{d:List α}{x:α}{i n:Nat}(aV:d.length=i):(d++List.replicate (n -i) x).length=i+(n -i):=by rw[dP,sc,aV]
section
variable {Q:dD Tryz.prog}{g0:Nat}{J:aH}
open Classical in
theorem Tw{g:bq}{aT aK:Option Addr}{aQ ci:Nat}(hw:jg g)(aq:fH J g aT aQ aK ci):
 Fn (bd Q g0) 43 [hb g aT aQ aK ci] [] J (fun u m' af=>J.le af/\∃bm bs,m'=dh bm g aT aQ aK ci::bs/\eQ iK af 22 u (jE g) bs):=by
 have fX:addrEq aK aK=true:=aq.i.addr;have gq:addrEq aT aT=true:=aq.n.addr;obtain⟨_,kx⟩:=aq.i.at;have sN:=hw.i2;refine Fn.cH (cM Tryz.func43) rfl rfl fun H=>?_;refine rg ?_;refine dK fun bm=>?_;refine I V.az ?_;refine bi ?_;refine I V.ba ?_;refine I V.bJ ?_;refine I V.bL ?_;refine' W.step rfl (.of (p4 rfl rfl rfl rfl rfl (nt Q g0) ?bw ?aa ?ae fun a9=>?_));case bw=>exact cc
 case aa=>exact cc
 case ae=>exact cc
 refine I V.az ?_;refine a6 ?_;rw[CR,cx];refine rg ?_;refine I V.ba ?_;refine I V.bJ ?_;refine aM ?_;refine ns ?_;refine ab.block ?_;refine' ab.c0 (l':=[(13,.int .i64 ((0):Int)),(3,_),(11,_),(12,_)]) ⟨?r9,rfl,rfl,rfl,trivial⟩ (bu _) ?_;case r9=>exact bP
 refine aj ?_;refine' ab.dF (fun(bC:Nat×(List Value)×aN)=>match bC with|(i,d,bs)=>⟨[(13,.int .i64 (i:Int))],(a9,.row (d++List.replicate (g.is.length -i) (.slice none 0 0)) 22)::(bs++[dh bm g aT aQ aK ci]),J,i<=g.is.length/\oC iK ((jE g).take i) d bs,g.is.length -i⟩) ⟨0,[],[]⟩ ?hs ?bA
 case hs=>exact⟨cy _,oC.nil⟩
 case bA=>
  rintro⟨i,d,bs⟩ hinv;try simp only at hinv
  obtain⟨ao,dd⟩:=hinv;refine rg ?_;refine I V.aZ ?_;refine ns ?_;refine If (fun lF=>?_) fun lF=>?_
  ·obtain⟨g',jx,vl,vu,rfl,mD,me⟩:=kx (by omega);obtain⟨y,xa,ai,ub,mf,rfl⟩:=me i (by omega) (by omega);rw[cx] at ai;have aj':=hw.yL y (cb ai);have Bu:d.length=i:=by rw[dd.1,iu,wE];omega
   refine c7 ?_;refine aj ?_;refine ab.block ?_;refine rg ?_;refine I V.ag ?_;refine I V.aW ?_;refine I V.gV ?_;refine' W.step rfl (.of (eT rfl rfl rfl (aaG Q g0) rfl rfl rfl fun a5=>?_));refine I V.az ?_;refine dC ?_;refine bi ?_;refine aM ?_;refine I V.bJ ?_;refine' W.step rfl (.of (p4 rfl rfl rfl rfl rfl (e0 Q g0) ?bw ?aa ?ae fun a22=>?_));case bw=>exact cc
   case aa=>exact cc
   case ae=>exact cc
   refine I V.aW ?_;refine' W.step rfl (.of (hy rfl rfl rfl rfl (fQ rfl) rfl rfl rfl ?aa ?hs ?au ?_));case au=>repeat first|exact .head _ _ _ _|apply cQ.tail|apply cQ.app
   case hs=>exact RE i (by rw[am2 Bu];omega)
   case aa=>first|rfl|assumption
   refine a6 ?_;rw[yv,am4 Bu (by omega)];refine ab.eC (m':=(a9,.row ((d++[.slice (some ⟨a22,0,none⟩) y.2.toNat y.2.toNat])++List.replicate (g.is.length -(i+1)) (.slice none 0 0)) 22)::((bs++[(a22,.row ((List.replicate y.2.toNat 0).map (Value.int .i64)) 3)])++[dh bm g aT aQ (some ⟨g',jx,none⟩) ci])) (h2:=[(a5,.row [.int .i64 y.1,.int .i64 y.2] 77)]) jz ?_;refine rg ?_;refine I V.bt ?_;refine I V.ag ?_;refine a6 ?_;refine cB ⟨i+1,d++[.slice (some ⟨a22,0,none⟩) y.2.toNat y.2.toNat],bs++[(a22,.row ((List.replicate y.2.toNat 0).map (Value.int .i64)) 3)]⟩ ?_;exact⟨by omega,dd.take (aaI ai) ⟨a22,by rw[sc],by rw[sc];exact wN (show y.2.toNat<=100 by omega) (by decide),rfl⟩⟩
  ·refine aj ?_;refine ab.exit ?_;obtain rfl:i=g.is.length:=by omega
   have lO:=wE (g:=g);refine ab.gN (m':=(a9,.row d 22)::(bs++[dh bm g aT aQ aK ci])) (by show List.Perm _ ((a9,.row (d++List.replicate (g.is.length -g.is.length) (.slice none 0 0)) 22)::(bs++[dh bm g aT aQ aK ci]));rw[sf,List.replicate_zero,gj]) ?_;rw[eo (by omega)] at dd;refine ab.mJ rfl fun cF=>?_;refine ab.gN (m':=dh bm g aT aQ aK ci::bs) YC ?_;refine rg ?_;refine aM ?_;refine ns ?_;refine ab.ret ?_;refine'⟨.inr rfl,rfl,_,_,.tmp rfl .nil,bu _,?_⟩;refine⟨cF,bm,bs,rfl,dd.d2 ?_⟩;have Bu:d.length=g.is.length:=by rw[dd.1,wE]
   rw[wE];exact .row (aH.oL J a9 (d,22)) (by rw[mr,eo (by omega)]) (by omega) (fun _=>⟨cW _,wN sN (by decide)⟩) (fun _=>rfl)
open Classical in
theorem aoW{g:bq}{aT aK:Option Addr}{aQ ci:Nat}(hw:jg g)(aq:fH J g aT aQ aK ci)(au:kj g=0):
 Fn (bd Q g0) 23 [hb g aT aQ aK ci] [] J (fun u m' af=>J.le af/\∃b1 fm c1 b2 z2 c2 s1 s2,fm=g.is.length/\z2=g.is.length/\u=.tuple #[.agg #[.int .i64 0,.int .i64 0,.slice b1 fm c1,.slice b2 z2 c2],.int .i64 0]/\m'=s1++s2/\eQ iK af 22 (.slice b1 fm c1) (jE g) s1/\eQ iK af 22 (.slice b2 z2 c2) (jE g) s2):=by
 have fX:addrEq aK aK=true:=aq.i.addr;have gq:addrEq aT aT=true:=aq.n.addr;refine Fn.cH (cM Tryz.func23) rfl rfl fun H=>?_;refine rg ?_;refine dK fun bm=>?_;refine' W.step rfl (.of (eT rfl rfl rfl (kY Q g0) rfl rfl rfl fun a2=>?_));refine I V.az ?_;refine bi ?_;refine I V.c9 ?_;refine cl (G:=YK aq) (h:=?_);rintro v m' dO ch ⟨rfl,rfl,_⟩;refine I V.az ?_;refine bi ?_;refine I V.ag ?_;refine I V.aZ ?_;refine ns ?_;refine If (fun my=>?_) fun my=>?_
 ·exfalso;exact my au
 ·refine aj ?_;refine ab.skip ?_;refine aj ?_;refine ab.draw rfl (by kernel_rfl) (bc:=[.val 0,.val 2,.bR 1,.cA [2],.bR 3,.val 4,.bR 5,.val 6]) (by kernel_rfl) ?_;refine al rfl V.c9 ?_;refine al rfl V.c9 ?_;refine a8.IJ ?_;refine' ga.yZ rfl rfl rfl rfl rfl rfl rfl rfl rfl (fun x U=>by cases U) Am (Tw hw (aq.mono ch)) ?_;rintro v m' e2 cF ⟨_,gF,s1,rfl,gT⟩;obtain⟨b1,fm,c1,rfl,BO⟩:=gT.len;refine ga.cA eX ?_;refine' ga.yZ rfl rfl rfl rfl rfl rfl rfl rfl rfl (fun x U=>by rcases e3.1 U with rfl|U;rfl;cases U) Am (Tw hw ((aq.mono ch).mono cF)) ?_;rintro v m' jV dU ⟨_,iP,s2,rfl,ju⟩;obtain⟨b2,z2,c2,rfl,lk⟩:=ju.len;rw[wE] at BO lk;refine ga.II (fun x U=>JH (f:=fun x=>(x.f,x.bT)) U) ?_;refine al rfl V.jl ?_;refine kn rfl ?_;refine al rfl V.az ?_;refine a8.nil ?_;refine ab.eC (m':=(s1++s2)++[(a2,.row [.int .i64 0,.int .i64 0,.slice b1 fm c1,.slice b2 z2 c2] 30),dh bm g aT aQ aK ci]) (h2:=[dh iP g aT aQ aK ci,dh gF g aT aQ aK ci]) (jz (r:=(dh iP g aT aQ aK ci::s2)++((dh gF g aT aQ aK ci::s1)++[(a2,.row [.int .i64 0,.int .i64 0,.slice b1 fm c1,.slice b2 z2 c2] 30),dh bm g aT aQ aK ci]))) ?_;refine aj ?_;refine ab.ret ?_;refine'⟨.inr rfl,rfl,_,_,.cell rfl (by repeat first|exact .head _|refine .tail _ ?_|refine hT _ ?_) (mm (eW rfl) rfl) (.tmp rfl .nil),q6 _ _,⟨ch.trans (cF.trans dU),b1,fm,c1,b2,z2,c2,s1,s2,BO,lk,rfl,rfl,gT.mono dU,ju⟩⟩
end
def Jj:List UInt8:=[112,97,114,108,111,117,114,32,114,117,110,32,49,10,103,97,109,101,32]
def Jm:List UInt8:=[10,114,111,117,110,100,32]
def Jn:List UInt8:=[32,115,101,101,100,32]
def Jo:List UInt8:=[101,110,100,32]
theorem QX{n:Int}:ih [n]=32::Lib.itoa n:=by unfold ih;simp
theorem V2{g:bq}{t:gI}{R:List UInt8}:od g t++R=Jj++(Lib.itoa (rk g)++(Jm++(Lib.itoa t.r++(Jn++(Lib.itoa t.s++(10::R)))))):=by
 unfold od;simp[QX,CM,Fm,CL,CN,Jj,Jm,Jn]
theorem Yt{α:Type}{pre bs R:List α}{i:Nat}{c x:α}(h:bs[i]?=some x):([c,x]++(pre++(bs.eraseIdx i++R))).Perm (c::(pre++(bs++R))):=(Rb h).symm.cons c
theorem Yu{α:Type}{pre bs R:List α}{i:Nat}{c x y:α}(h:bs[i]?=some x):(c::(pre++(bs.set i y++R))).Perm ([c,y]++(pre++(bs.eraseIdx i++R))):=(Rc h).cons c
theorem eQ.Xl{J:aH}{e:TypeId}{b:Option Addr}{n c i:Nat}{bL:List (List Int)}{bs:aN}(h:eQ iK J e (.slice b n c) bL bs)(ao:i<bL.length):∃a off cells bz ad l,b=some ⟨a,off,none⟩/\J a=some (cells,bz)/\bL[i]?=some l/\nth cells (off+i*1)=some (.slice (some ⟨ad,0,none⟩) l.length l.length)/\bs[i]?=some (ad,cC.row (l.map (Value.int .i64)) 3)/\
 ∀l':List Int,l'.length=l.length->eQ iK J e (.slice b n c) (bL.set i l') (bs.set i (ad,.row (l'.map (Value.int .i64)) 3)):=by
 obtain⟨b',cd,ay,ae⟩:=h.at;injection ay with zu BK HY
 subst zu;subst BK;subst HY;obtain⟨a,off,cells,bz,rfl,bl,bp⟩:=ae (by omega);obtain⟨l,w,x,bb,a7,b8,fl,jb⟩:=bp i ao;obtain⟨ad,rfl,rfl,qH⟩:=fl.row;exact⟨a,off,cells,bz,ad,l,rfl,bl,bb,a7,b8,fun l' c6=>jb _ _ (qH l' c6)⟩
theorem ahU{g:bq}{t:gI}{s:List UInt8}(h:((((((([]++Jj)++Lib.itoa (rk g))++Jm)++Lib.itoa t.r)++Jn)++Lib.itoa t.s)++[10]) <+: s):od g t <+: s:=by
 have e:=V2 (g:=g) (t:=t) (R:=[]);rw[gj] at e;rw[e];simpa[gw] using h
theorem ahT{g:bq}{t:gI}{b:Nat}(h:((((((([]++Jj)++Lib.itoa (rk g))++Jm)++Lib.itoa t.r)++Jn)++Lib.itoa t.s)++[10]).length=b):(od g t).length=b:=by
 have e:=V2 (g:=g) (t:=t) (R:=[]);rw[gj] at e;rw[e,<-h];simp[gw]
def yi(R P:List (List Int)):List UInt8:=(R.zip P).flatMap uH
theorem Za{H:List UInt8}{R P:List (List Int)}{a b:List Int}(h:R.length=P.length):((((H++yi R P)++Ag)++(ih a++[10]))++Af)++(ih b++[10])=H++yi (R++[a]) (P++[b]):=by
 unfold yi;rw[List.zip_append h];simp[uH,gw]
theorem Zp{L:List (List Int)}{i:Nat}{a:List Int}(h:∀x∈L,x.length<=1000)(a1:a.length<=1000):∀x∈L.set i a,x.length<=1000:=fun x U=>(Ay U).elim (h x) (fun q=>q▸a1)
theorem abU{g:bq}{r sd:Int}{R P:List (List Int)}:jm g ⟨r,sd,R,P⟩=od g ⟨r,sd,[],[]⟩++yi R P:=by
 unfold jm tb yi;rw[eo (by rw[List.length_zip];exact Nat.min_le_left _ _)];rfl
theorem am5{X s:List UInt8}{b:Nat}(h:X <+: s)(ap:X.length=b):s.take b=X:=by obtain⟨t,rfl⟩:=h;subst ap;exact SQ
section
variable {Q:dD Tryz.prog}{g0:Nat}{J:aH}
open Classical in
theorem aoG{g:bq}{ac N:Nat}{s:List UInt8}{b1 b2:Option Addr}{fm c1 z2 c2:Nat}{s1 s2:aN}(mZ:g.is.length=N)(asP:N<=1000)(gK:∀x∈jE g,x.length<=1000)(hs:s.length<=100000)(BO:fm=N)(lk:z2=N)(gT:eQ iK J 22 (.slice b1 fm c1) (jE g) s1)(ju:eQ iK J 22 (.slice b2 z2 c2) (jE g) s2):
 nW (bd Q g0) 25 [fA ac,.agg #[.int .i64 0,.int .i64 0,.slice b1 fm c1,.slice b2 z2 c2],.int .i64 (rk g)] (fh ac s 0::(s1++s2)) J (fun u m' af=>J=af/\m'=[]/\(∃r sd,u=.agg #[.int .i64 r,.int .i64 sd,.slice b1 fm c1,.slice b2 z2 c2])/\∃ek,s=jS g ek/\ek.sum.length=N/\ek.pl.length=N) (AA J):=by
 have auG:addrEq b1 b1=true:=by obtain⟨CJ,pA,_⟩:=gT;exact pA.addr
 have auH:addrEq b2 b2=true:=by obtain⟨CJ,pA,_⟩:=ju;exact pA.addr
 have BP:=wE (g:=g);refine nW.cH (cM Tryz.func25) rfl rfl fun H=>?_;refine rg ?_;refine dK fun a4=>?_;refine' W.step rfl (.of (eT rfl rfl rfl (kY Q g0) rfl rfl rfl fun da=>?_));refine a6 ?_;refine ab.gN (m':=fh ac s 0::(s1++(s2++[(da,.row [.int .i64 0,.int .i64 0,.slice none 0 0,.slice none 0 0] 30),(a4,.row [.int .i64 0,.int .i64 0,.slice b1 fm c1,.slice b2 z2 c2] 30)]))) (jz (r:=(da,.row [.int .i64 0,.int .i64 0,.slice none 0 0,.slice none 0 0] 30)::(a4,.row [.int .i64 0,.int .i64 0,.slice b1 fm c1,.slice b2 z2 c2] 30)::fh ac s 0::(s1++s2))) ?_;refine rg ?_;refine I V.ag ?_;refine W.k9 rfl rfl rfl rfl rfl rfl rfl rfl (bf:=[fh ac s 0]) (bM:=_) (.refl _) (vz (X:=[]) (w:=Jj) rfl List.nil_prefix hs (by decide)) ?_ lW;rintro v' m' af hle ⟨dH,gF,jU,rfl,rfl⟩;refine bi ?_;refine I V.ag ?_;refine I V.ag ?_;refine I V.ag ?_;refine W.k9 rfl rfl rfl rfl rfl rfl rfl rfl (bf:=[fh ac s dH]) (bM:=_) (.refl _) (IG jU gF hs (by decide)) ?_ lW;rintro v' m' af hle ⟨d,hP,rfl,d1,d2,_,iP,jD,rfl,rfl⟩;obtain rfl:d=rk g:=by omega
 refine bi ?_;refine I V.ag ?_;refine W.k9 rfl rfl rfl rfl rfl rfl rfl rfl (bf:=[fh ac s hP]) (bM:=_) (.refl _) (vz (w:=Jm) jD iP hs (by decide)) ?_ lW;rintro v' m' af hle ⟨ij,uR,uS,rfl,rfl⟩;refine bi ?_;refine I V.ag ?_;refine W.k9 rfl rfl rfl rfl rfl rfl rfl rfl (bf:=[fh ac s ij]) (bM:=_) (.refl _) (IG uS uR hs (by decide)) ?_ lW;rintro v' m' af hle ⟨r,ki,rfl,_,_,_,Fs,R7,rfl,rfl⟩;refine I V.ba ?_;refine dC ?_;refine bi ?_;refine I V.ag ?_;refine W.k9 rfl rfl rfl rfl rfl rfl rfl rfl (bf:=[fh ac s ki]) (bM:=_) (.refl _) (vz (w:=Jn) R7 Fs hs (by decide)) ?_ lW;rintro v' m' af hle ⟨lr,R2,MF,rfl,rfl⟩;refine bi ?_;refine I V.ag ?_;refine W.k9 rfl rfl rfl rfl rfl rfl rfl rfl (bf:=[fh ac s lr]) (bM:=_) (.refl _) (IG MF R2 hs (by decide)) ?_ lW;rintro v' m' af hle ⟨sd,nS,rfl,_,_,_,aqb,aqp,rfl,rfl⟩;refine I V.ba ?_;refine dC ?_;refine bi ?_;refine I V.ag ?_;refine W.k9 rfl rfl rfl rfl rfl rfl rfl rfl (bf:=[fh ac s nS]) (bM:=_) (.refl _) (vz (w:=[10]) aqp aqb hs (by decide)) ?_ lW;rintro v' m' af hle ⟨Yn,R3,R8,rfl,rfl⟩;have R3:=ahU (t:=⟨r,sd,[],[]⟩) R3;have R8:=ahT (t:=⟨r,sd,[],[]⟩) R8;refine a6 ?_;refine ab.gN (m':=fh ac s Yn::(s1++(s2++[(da,.row [.int .i64 0,.int .i64 0,.slice none 0 0,.slice none 0 0] 30),(a4,.row [.int .i64 r,.int .i64 sd,.slice b1 fm c1,.slice b2 z2 c2] 30)]))) (.refl _) ?_;refine rg ?_;refine I V.ba ?_;refine I V.bJ ?_;refine aM ?_;refine ns ?_;refine ab.block ?_;refine' ab.c0 (l':=[(30,.int .i64 ((0):Int)),(0,_),(4,_),(6,_),(29,_)]) ⟨?apS,rfl,rfl,rfl,rfl,trivial⟩ (bu _) ?_;case apS=>exact bP
 refine aj ?_;refine' ab.dF (fun(bC:Nat×Nat×(List (List Int))×(List (List Int))×(List (List Int))×(List (List Int))×aN×aN)=>match bC with|(i,b,R,P,FF,FE,kX,oy)=>⟨[(30,.int .i64 (i:Int))],fh ac s b::(kX++(oy++[(da,.row [.int .i64 0,.int .i64 0,.slice none 0 0,.slice none 0 0] 30),(a4,.row [.int .i64 r,.int .i64 sd,.slice b1 fm c1,.slice b2 z2 c2] 30)])),J,i<=N/\R.length=i/\P.length=i/\od g ⟨r,sd,[],[]⟩++yi R P <+: s/\(od g ⟨r,sd,[],[]⟩++yi R P).length=b/\FF.length=N/\FE.length=N/\(∀x∈FF,x.length<=1000)/\(∀x∈FE,x.length<=1000)/\eQ iK J 22 (.slice b1 fm c1) FF kX/\eQ iK J 22 (.slice b2 z2 c2) FE oy,N -i⟩) ⟨0,Yn,[],[],jE g,jE g,s1,s2⟩ ?hs ?bA
 case hs=>exact⟨cy _,rfl,rfl,by simpa[yi] using R3,by simpa[yi] using R8,by omega,by omega,gK,gK,gT,ju⟩
 case bA=>
  rintro⟨i,b,R,P,FF,FE,kX,oy⟩ hinv;try simp only at hinv
  obtain⟨ao,ei,dt,Jt,MG,ahc,OE,VU,VT,fj,iy⟩:=hinv;refine rg ?_;refine I V.aZ ?_;refine ns ?_;refine If (fun Ke=>?_) fun Ke=>?_
  ·obtain⟨wW,nn,Dr,DG,oK,l0,rfl,zg,lO,El,vU,xJ⟩:=fj.Xl (i:=i) (by omega);obtain⟨yK,zJ,Gs,GG,sk,cN,rfl,Ha,pG,Ek,vT,xI⟩:=iy.Xl (i:=i) (by omega);have f0:=VU l0 (cb lO);have f1:=VT cN (cb pG);refine c7 ?_;refine aj ?_;refine ab.block ?_;refine rg ?_;refine aM ?_;refine bi ?_;refine I V.ag ?_;refine W.k9 rfl rfl rfl rfl rfl rfl rfl rfl (bf:=[fh ac s b]) (bM:=_) (.refl _) (vz (w:=Ag) MG Jt hs (by decide)) ?_ lW;rintro v' m' af hle ⟨jB,eK,aL,rfl,rfl⟩;refine bi ?_;refine aM ?_;refine I V.bJ ?_;refine I V.ag ?_;refine I V.aW ?_;refine I V.bJ ?_;refine W.k9 rfl rfl rfl rfl rfl rfl rfl rfl (bf:=[fh ac s jB,(oK,.row (l0.map (Value.int .i64)) 3)]) (bM:=_) (Yt (pre:=[]) vU) (X9 aL eK hs rfl f0) ?_ lW;rintro v' m' af hle ⟨ye,lX,vX,hi,bk,rfl,rfl⟩;have BU:=xJ ye vX;refine a6 ?_;refine ab.gN (m':=fh ac s lX::((kX.set i (oK,.row (ye.map (Value.int .i64)) 3))++(oy++[(da,.row [.int .i64 0,.int .i64 0,.slice none 0 0,.slice none 0 0] 30),(a4,.row [.int .i64 r,.int .i64 sd,.slice (some ⟨wW,nn,none⟩) fm c1,.slice (some ⟨yK,zJ,none⟩) z2 c2] 30)]))) (Yu (pre:=[]) vU) ?_;refine rg ?_;refine I V.ag ?_;refine W.k9 rfl rfl rfl rfl rfl rfl rfl rfl (bf:=[fh ac s lX]) (bM:=_) (.refl _) (vz (w:=Af) bk hi hs (by decide)) ?_ lW;rintro v' m' af hle ⟨jc,jf,cG,rfl,rfl⟩;refine bi ?_;refine aM ?_;refine I V.bJ ?_;refine I V.ag ?_;refine I V.aW ?_;refine I V.bJ ?_;refine W.k9 rfl rfl rfl rfl rfl rfl rfl rfl (bf:=[fh ac s jc,(sk,.row (cN.map (Value.int .i64)) 3)]) (bM:=_) (Yt (pre:=(kX.set i (oK,.row (ye.map (Value.int .i64)) 3))) vT) (X9 cG jf hs rfl f1) ?_ lW
   rintro v' m' af hle ⟨yf,qQ,vY,j4,eL,rfl,rfl⟩;have EH:=xI yf vY;refine a6 ?_;refine ab.gN (m':=fh ac s qQ::((kX.set i (oK,.row (ye.map (Value.int .i64)) 3))++((oy.set i (sk,.row (yf.map (Value.int .i64)) 3))++[(da,.row [.int .i64 0,.int .i64 0,.slice none 0 0,.slice none 0 0] 30),(a4,.row [.int .i64 r,.int .i64 sd,.slice (some ⟨wW,nn,none⟩) fm c1,.slice (some ⟨yK,zJ,none⟩) z2 c2] 30)]))) (Yu (pre:=(kX.set i (oK,.row (ye.map (Value.int .i64)) 3))) vT) ?_;refine rg ?_;refine I V.bt ?_;refine I V.ag ?_;refine a6 ?_;refine cB ⟨i+1,qQ,R++[ye],P++[yf],FF.set i ye,FE.set i yf,kX.set i (oK,.row (ye.map (Value.int .i64)) 3),oy.set i (sk,.row (yf.map (Value.int .i64)) 3)⟩ ?_;exact⟨by omega,by rw[dP,ei];rfl,by rw[dP,dt];rfl,by rw[<-Za (by omega)];exact j4,by rw[<-Za (by omega)];exact eL,by rw[fz];exact ahc,by rw[fz];exact OE,Zp VU (by omega),Zp VT (by omega),BU,EH⟩
  ·refine aj ?_;refine ab.exit ?_;obtain rfl:i=N:=by omega
   have Hq:=abU (g:=g) (r:=r) (sd:=sd) (R:=R) (P:=P);rw[<-Hq] at Jt MG;have tX:=Jt.length_le;have ahE:∀k:Nat,k=b->(s.drop (0:Int).toNat).take k=jm g ⟨r,sd,R,P⟩:=fun k aO=>by
    subst aO;show(s.drop 0).take _=_;rw[mr];exact am5 Jt MG
   refine ab.gN (m':=fh ac s b::(kX++(oy++[(da,.row [.int .i64 0,.int .i64 0,.slice none 0 0,.slice none 0 0] 30),(a4,.row [.int .i64 r,.int .i64 sd,.slice b1 fm c1,.slice b2 z2 c2] 30)]))) (.refl _) ?_;refine aj ?_;refine ab.draw rfl (by kernel_rfl) (bc:=[.val 0,.val 1,.val 2,.val 3,.val 4,.val 5,.val 6,.val 7,.val 8,.bR 9,.val 10]) (by kernel_rfl) ?_;refine cq ?_;refine al rfl V.bJ ?_;refine cq ?_;refine al rfl V.bJ ?_;refine' a8.val rfl rfl rfl rfl (aab rfl rfl (Mn rfl) rfl rfl ?bw ?aa ?ae) ?_;case bw=>exact cc
   case aa=>exact cc
   case ae=>exact cc
   refine dl rfl (G:=Ue (by rw[iu,ms];omega)) (h:=?_);rintro v' m' af hle ⟨rfl,rfl,rfl⟩;rw[ahE _ (by simp)];refine al rfl V.az ?_;refine a8.nil ?_;refine rg ?_;refine I V.ag ?_;refine W.k9 rfl rfl rfl rfl rfl rfl rfl rfl (bf:=[fh ac s b]) (bM:=_) (.refl _) (vz (w:=Jo) MG Jt hs (by decide)) ?_ lW;rintro v' m' af hle ⟨bb,eK,aL,rfl,rfl⟩;refine bi ?_;refine I V.ag ?_;refine I V.ag ?_;refine I V.ag ?_;refine W.k9 rfl rfl rfl rfl rfl rfl rfl rfl (bf:=[fh ac s bb]) (bM:=_) (.refl _) (IG aL eK hs (by decide)) ?_ lW;rintro v' m' af hle ⟨n,a7,rfl,bX,de,_,hi,bk,rfl,rfl⟩;obtain rfl:n=ri (jm g ⟨r,sd,R,P⟩):=by omega
   refine bi ?_;refine I V.ag ?_;refine W.k9 rfl rfl rfl rfl rfl rfl rfl rfl (bf:=[fh ac s a7]) (bM:=_) (.refl _) (vz (w:=[10]) bk hi hs (by decide)) ?_ lW;rintro v' m' af hle ⟨b8,jf,cG,rfl,rfl⟩;have P0:=jf.length_le;refine ns ?_;refine ab.draw rfl (by kernel_rfl) (bc:=[.val 0,.val 1,.val 2,.val 3,.val 4,.val 5,.val 6,.val 7,.val 8,.val 9]) (by kernel_rfl) ?_;refine cq ?_;refine al rfl V.bJ ?_;refine cq ?_;refine al rfl V.bJ ?_;refine al rfl V.x2 ?_;refine al rfl V.aZ ?_;refine a8.nil ?_;refine aj ?_;refine If (fun sv=>?_) fun sv=>?_
   ·refine rg ?_;refine aM ?_;refine I V.bJ ?_;exact W.k9 rfl rfl rfl rfl rfl rfl rfl rfl (bf:=[]) (bM:=_) (.refl _) (GS (by decide)) (fun _ _ _ _ h=>h.elim) lW
   ·have ah2:=jf.eq_of_length (by omega);have jO:s=jS g ⟨r,sd,R,P⟩:=by rw[<-ah2];unfold jS;simp[QX,Fl,Jo,gw]
    refine ln ?_;refine I V.gV ?_;refine dC ?_;refine ns ?_;refine ab.ret ?_;exact LE (hs:=h5 _) ⟨rfl,rfl,⟨r,sd,rfl⟩,_,jO,ei,dt⟩
end
section
variable {K:eE}{B:dV}{o:Oper}{n:Nat}{ds:e7}{l:List (Nat×Value)}{m:aN}{J:aH}
theorem ape{x:Operand}{xt asserted:TypeId}{v:Value}(ar:o.op=.typeAssert x xt asserted true)(U:b6 l x=some .nilIface)(ay:y' K.P .nilIface asserted true=some v):dm K B o n ds l m J v:=by
 intro call aR S H ax aJ;unfold cJ fe;simp only[ar];show zQ K.P _ asserted true (bj S.T H x)=_;rw[dy ax H U];show fZ (y' K.P .nilIface asserted true) _=_;rw[ay];rfl
theorem apd{x:Operand}{xt t:TypeId}{v:Value}(ar:o.op=.typeAssert x xt t true)(U:b6 l x=some (.iface t v))(aP:B9 K.P t=true):dm K B o n ds l m J (.tuple #[v,.bool true]):=by
 intro call aR S H ax aJ;unfold cJ fe;simp only[ar];show zQ K.P _ t true (bj S.T H x)=_;rw[dy ax H U];show fZ (y' K.P (.iface t v) t true) _=_;have:y' K.P (.iface t v) t true=some (.tuple #[v,.bool true]):=by
  unfold B9 at aP;unfold y';cases hu:K.P.underlying t with
  |none=>rw[hu] at aP;cases aP
  |some u=>
   rw[hu] at aP;cases u<;>first
       |(cases aP;done)
       |(simp only[hz,b7])
 rw[this];rfl
end
theorem uW.mono{K:eE}{f:FuncId}{args:List Value}{bF:FrameMode}{bf:aN}{J:aH}{P q7:FrameMode->aN->aH->Prop}(h:uW K f args bF bf J P)(au:∀u m af,P u m af->q7 u m af):uW K f args bF bf J q7:=fun H aJ=>by
 obtain⟨v,gh,H',af,m',aa,ae,aF⟩:=h H aJ;exact⟨v,gh,H',af,m',aa,ae,au _ _ _ aF⟩
section
variable {Q:dD Tryz.prog}{g0:Nat}{J:aH}
theorem akW{a4 a5:Nat}{xs ys:List Value}:uW (bd Q g0) 24 [.pointer (some ⟨a4,0,none⟩),.pointer (some ⟨a5,0,none⟩)] .returning [(a4,.row xs 30),(a5,.row ys 39)] J (fun u m' af=>u=.returning/\m'=[(a4,.row xs 30),(a5,.row ys 39)]/\J=af):=by
 refine uW.cH (cM Tryz.func24) rfl rfl fun H=>?_;refine rg ?_;refine' W.recover rfl rfl rfl rfl rfl rfl rfl ?_;refine' W.step rfl (Exec.val rfl rfl (ape (v:=.tuple #[(.agg #[(.int .i64 (0)),(.int .i64 (0))]),.bool false]) rfl rfl (by kernel_rfl)) ?_);refine aM ?_;refine' W.step rfl (.of (eT rfl rfl rfl (aaF Q g0) rfl rfl rfl fun a2=>?_));refine dC ?_;refine I V.az ?_;refine bi ?_;refine I V.ag ?_;refine ns ?_;refine If (fun dG=>?_) fun dG=>?_
 ·exfalso;exact absurd dG (by simp)
 ·refine aj ?_;refine ab.skip ?_;exact⟨by first|exact .inl rfl|exact .inr rfl,rfl,[],_,.nil,.cons _ (.refl _),rfl,rfl,rfl⟩
theorem akX{a4 a5:Nat}{e a:Int}:uW (bd Q g0) 24 [.pointer (some ⟨a4,0,none⟩),.pointer (some ⟨a5,0,none⟩)] (.panicking [{v:=.iface 65 (.agg #[.int .i64 e,.int .i64 a]),recovered:=false}]) [(a4,.row [.int .i64 0,.int .i64 0,.slice none 0 0,.slice none 0 0] 30),(a5,.row [.int .i64 0,.int .i64 0] 39)] J (fun u m' af=>settle u=.returning/\m'=[(a4,.row [.int .i64 0,.int .i64 0,.slice none 0 0,.slice none 0 0] 30),(a5,.row [.int .i64 e,.int .i64 a] 39)]/\J=af):=by
 refine uW.cH (cM Tryz.func24) rfl rfl fun H=>?_;refine rg ?_;refine' W.recover rfl rfl rfl rfl rfl rfl rfl ?_;refine' W.step rfl (Exec.val rfl rfl (apd rfl rfl (ZM rfl)) ?_);refine aM ?_;refine' W.step rfl (.of (eT rfl rfl rfl (aaF Q g0) rfl rfl rfl fun a2=>?_));refine dC ?_;refine I V.az ?_;refine bi ?_;refine I V.ag ?_;refine ns ?_;refine If (fun dG=>?_) fun dG=>?_
 ·refine aj ?_;refine ab.draw rfl (by kernel_rfl) (bc:=[.val 0,.val 1,.bR 2,.cA [1],.bR 3]) (by kernel_rfl) ?_;refine al rfl V.jl ?_;refine al rfl V.c9 ?_;refine kn rfl ?_;refine a8.cA eX ?_;refine kn rfl ?_;refine a8.nil ?_;exact⟨by first|exact .inl rfl|exact .inr rfl,rfl,[],_,.nil,.cons _ (.refl _),rfl,rfl,rfl⟩
 ·exfalso;exact absurd dG (by simp)
open Classical in
theorem Xz{g:bq}{s:List UInt8}{aT aK:Option Addr}{aQ ci:Nat}(hw:jg g)(aq:fH J g aT aQ aK ci)(au:kj g=0)(aD:h8 g=0)(ao:g.is.length<=1000)(gK:∀x∈jE g,x.length<=1000)(hs:s.length<=100000):
 Fn (bd Q g0) 8 [hb g aT aQ aK ci,.string ⟨⟨s⟩⟩] [] J (fun u m' af=>J.le af/\m'=[]/\((∃ek,s=jS g ek/\ek.sum.length=g.is.length/\ek.pl.length=g.is.length)\/∃e a:Int,e≠0/\u=.tuple #[.agg #[.int .i64 0,.int .i64 0,.slice none 0 0,.slice none 0 0],.agg #[.int .i64 e,.int .i64 a]])):=by
 have fX:addrEq aK aK=true:=aq.i.addr;have gq:addrEq aT aT=true:=aq.n.addr;refine nW.anH (nW.cH (cM Tryz.func8) rfl rfl fun H=>?_);refine rg ?_;refine dK fun a2=>?_;refine' W.step rfl (.of (eT rfl rfl rfl (kY Q g0) rfl rfl rfl fun a4=>?_));refine' W.step rfl (.of (eT rfl rfl rfl (R9 Q g0) rfl rfl rfl fun a5=>?_));refine bi ?_;refine I V.c9 ?_;refine cl (G:=aoW hw aq au) (h:=?_);rintro v m' dO ch ⟨_,b1,fm,c1,b2,z2,c2,s1,s2,BO,lk,rfl,rfl,gT,ju⟩;have qn:=aq.mono ch;refine aM ?_;refine' W.step rfl (.of (eT rfl rfl rfl (kY Q g0) rfl rfl rfl fun da=>?_));refine dC ?_;refine I V.az ?_;refine bi ?_;refine I V.ag ?_;refine I V.aZ ?_;refine ns ?_;refine If (fun kN=>?_) fun kN=>?_
 ·exfalso;exact kN rfl
 ·refine aj ?_;refine ab.skip ?_;refine rg ?_;refine aM ?_;refine I V.aZ ?_;refine ns ?_;refine If (fun Gm=>?_) fun Gm=>?_
  ·exfalso;omega
  ·refine aj ?_;refine ab.skip ?_;refine rg ?_;refine I V.c9 ?_;refine cl (G:=Uv (fun af hle=>Oa (qn.mono hle)) qn) (h:=?_);rintro v' m' e2 cF ⟨rfl,rfl,_⟩;simp only[Dy,aD,EB];refine aM ?_;refine bi ?_;refine I V.ag ?_;refine I V.aZ ?_;refine ns ?_;refine If (fun Ke=>?_) fun Ke=>?_
   ·exfalso;exact Ke rfl
   ·refine aj ?_;refine ab.skip ?_;refine rg ?_;refine I V.fn ?_;refine' W.defer rfl rfl rfl rfl rfl rfl rfl ?_;refine bi ?_;refine aM ?_;refine dK fun p8=>?_;refine I V.az ?_;refine bi ?_;refine I V.ag ?_;refine I V.c9 ?_;refine I V.ag ?_;refine W.k9 rfl rfl rfl rfl rfl rfl rfl rfl (bf:=fh p8 s 0::(s1++s2)) (bM:=[(da,.row [.int .i64 0,.int .i64 0,.slice b1 fm c1,.slice b2 z2 c2] 30),(a5,.row [.int .i64 0,.int .i64 0] 39),(a4,.row [.int .i64 0,.int .i64 0,.slice none 0 0,.slice none 0 0] 30),dh a2 g aT aQ aK ci]) (jz (l:=(fh p8 s 0::(s1++s2))++[(da,.row [.int .i64 0,.int .i64 0,.slice b1 fm c1,.slice b2 z2 c2] 30),(a5,.row [.int .i64 0,.int .i64 0] 39),(a4,.row [.int .i64 0,.int .i64 0,.slice none 0 0,.slice none 0 0] 30),dh a2 g aT aQ aK ci]) (r:=fh p8 s 0::((da,.row [.int .i64 0,.int .i64 0,.slice b1 fm c1,.slice b2 z2 c2] 30)::((s1++s2)++[(a5,.row [.int .i64 0,.int .i64 0] 39),(a4,.row [.int .i64 0,.int .i64 0,.slice none 0 0,.slice none 0 0] 30),dh a2 g aT aQ aK ci])))) (aoG rfl ao gK hs BO lk (gT.mono cF) (ju.mono cF)) ?_ ?_
    rotate_left 1
    ·rintro bK m' jV dU ⟨rfl,rfl,e,a,he,rfl⟩;refine⟨_,rfl,.inr ⟨24,#[.pointer (some ⟨a4,0,none⟩),.pointer (some ⟨a5,0,none⟩)],#[],[(a4,.row [.int .i64 0,.int .i64 0,.slice none 0 0,.slice none 0 0] 30),(a5,.row [.int .i64 0,.int .i64 0] 39)],[(da,.row [.int .i64 0,.int .i64 0,.slice b1 fm c1,.slice b2 z2 c2] 30),dh a2 g aT aQ aK ci],rfl,jz (l:=[(a4,.row [.int .i64 0,.int .i64 0,.slice none 0 0,.slice none 0 0] 30),(a5,.row [.int .i64 0,.int .i64 0] 39)]++[(da,.row [.int .i64 0,.int .i64 0,.slice b1 fm c1,.slice b2 z2 c2] 30),dh a2 g aT aQ aK ci]) (r:=[(da,.row [.int .i64 0,.int .i64 0,.slice b1 fm c1,.slice b2 z2 c2] 30),(a5,.row [.int .i64 0,.int .i64 0] 39),(a4,.row [.int .i64 0,.int .i64 0,.slice none 0 0,.slice none 0 0] 30),dh a2 g aT aQ aK ci]),akX.mono ?_⟩⟩;rintro u m' af ⟨hu,rfl,rfl⟩ _;exact .inl ⟨hu,_,[],.cell rfl (.head _) (mm (eW rfl) rfl) (.cell rfl (.tail _ (.head _)) (mm (eW rfl) rfl) .nil),h5 _,ch.trans cF,rfl,.inr ⟨e,a,he,rfl⟩⟩
    rintro v' m' jV dU ⟨rfl,rfl,⟨r,sd,rfl⟩,dn⟩;refine W.gN (m':=(a5,.row [.int .i64 0,.int .i64 0] 39)::(a4,.row [.int .i64 0,.int .i64 0,.slice none 0 0,.slice none 0 0] 30)::(da,.row [.int .i64 0,.int .i64 0,.slice b1 fm c1,.slice b2 z2 c2] 30)::[dh a2 g aT aQ aK ci]) (jz (r:=[(da,.row [.int .i64 0,.int .i64 0,.slice b1 fm c1,.slice b2 z2 c2] 30),(a5,.row [.int .i64 0,.int .i64 0] 39),(a4,.row [.int .i64 0,.int .i64 0,.slice none 0 0,.slice none 0 0] 30),dh a2 g aT aQ aK ci])) ?_;refine I V.jl ?_;refine dC ?_;refine dC ?_;refine a6 ?_;have ng:=ch.trans cF;refine aj ?_;refine ab.ret ?_;refine⟨.returning,rfl,.inr ⟨24,#[.pointer (some ⟨a4,0,none⟩),.pointer (some ⟨a5,0,none⟩)],#[],[(a4,.row [.int .i64 r,.int .i64 sd,.slice b1 fm c1,.slice b2 z2 c2] 30),(a5,.row [.int .i64 0,.int .i64 0] 39)],[(da,.row [.int .i64 0,.int .i64 0,.slice b1 fm c1,.slice b2 z2 c2] 30),dh a2 g aT aQ aK ci],rfl,jz (l:=[(a4,.row [.int .i64 r,.int .i64 sd,.slice b1 fm c1,.slice b2 z2 c2] 30),(a5,.row [.int .i64 0,.int .i64 0] 39)]++[(da,.row [.int .i64 0,.int .i64 0,.slice b1 fm c1,.slice b2 z2 c2] 30),dh a2 g aT aQ aK ci]) (r:=[(a5,.row [.int .i64 0,.int .i64 0] 39),(a4,.row [.int .i64 r,.int .i64 sd,.slice b1 fm c1,.slice b2 z2 c2] 30),(da,.row [.int .i64 0,.int .i64 0,.slice b1 fm c1,.slice b2 z2 c2] 30),dh a2 g aT aQ aK ci]),akW.mono ?_⟩⟩;rintro u m' af ⟨rfl,rfl,rfl⟩ _;exact .inl ⟨rfl,_,[],.cell rfl (.head _) (mm (eW rfl) rfl) (.cell rfl (.tail _ (.head _)) (mm (eW rfl) rfl) .nil),h5 _,ng,rfl,.inl dn⟩
end
def qO:List UInt8->Nat
 |[]=>0
 |x::s=>x.toNat+qO s
theorem ZG:∀(p q:List UInt8),qO (p++q)=qO p+qO q:=by
 intro p q;induction p with
 |nil=>show qO q=0+_;omega
 |cons x p aI=>show x.toNat+qO (p++q)=x.toNat+qO p+_;omega
theorem ac7:∀(s:List UInt8) (a b:Int),0<=a->a<65521->0<=b->b<65521->(k' a b s).1=(a+qO s) % 65521/\0<=(k' a b s).2/\(k' a b s).2<65521:=by
 intro s;induction s with
 |nil=>intro a b aa ae aF bo;exact⟨by show a=(a+(0:Nat)) % 65521;omega,aF,bo⟩
 |cons x s aI=>
  intro a b aa ae aF bo;have U:=x.toNat_lt;have aL:(IntKind.i64.wrap (a+x.toNat)).tmod 65521=(a+x.toNat) % 65521:=by
   rw[wrap_i64 (by omega) (by omega),MV (by omega)]
  have bk:(IntKind.i64.wrap (b+(a+x.toNat) % 65521)).tmod 65521=(b+(a+x.toNat) % 65521) % 65521:=by
   rw[wrap_i64 (by omega) (by omega),MV (by omega)]
  obtain⟨bl,bp,bQ⟩:=aI ((a+x.toNat) % 65521) ((b+(a+x.toNat) % 65521) % 65521) (by omega) (by omega) (by omega) (by omega);have e:k' a b (x::s)=k' ((a+x.toNat) % 65521) ((b+(a+x.toNat) % 65521) % 65521) s:=by
   show k' ((IntKind.i64.wrap (a+x.toNat)).tmod 65521) ((IntKind.i64.wrap (b+(IntKind.i64.wrap (a+x.toNat)).tmod 65521)).tmod 65521) s=_;rw[aL,bk]
  rw[e];refine⟨?_,bp,bQ⟩;rw[bl];show _=(a+((x.toNat+qO s:Nat):Int)) % 65521;omega
theorem NB(s:List UInt8):∃b:Int,ri s=65536*b+(1+qO s) % 65521/\0<=b/\b<65521:=by
 obtain⟨bl,bp,bQ⟩:=ac7 s 1 0 (by decide) (by decide) (by decide) (by decide);refine⟨(k' 1 0 s).2,?_,bp,bQ⟩;unfold ri;rw[bl,wrap_i64 (n:=65536*(k' 1 0 s).2) (by omega) (by omega),wrap_i64 (by omega) (by omega)]
theorem ac9(s:List UInt8):0<=ri s:=by obtain⟨b,h,aa,ae⟩:=NB s;omega
theorem ac8(p:List UInt8)(x y:UInt8)(q:List UInt8)(h:x≠y):ri (p++x::q)≠ri (p++y::q):=fun e=>by
 obtain⟨b,aa,_,_⟩:=NB (p++x::q);obtain⟨b',G3,_,_⟩:=NB (p++y::q);rw[aa,G3,ZG,ZG] at e;have e:65536*b+(1+((qO p+(x.toNat+qO q):Nat):Int)) % 65521=65536*b'+(1+((qO p+(y.toNat+qO q):Nat):Int)) % 65521:=e;have:=x.toNat_lt;have:=y.toNat_lt;exact h (UInt8.toNat_inj.1 (by omega))
theorem X8(l:List Int):∀c∈ih l,c≠10:=fun c aC=>by
 obtain⟨n,_,aC⟩:=List.mem_flatMap.1 aC;rcases e3.1 aC with rfl|aC
 ·decide
 ·exact Xg c aC
theorem anQ:∀(L:List (List Int×List Int)),(L.flatMap uH).count 10=2*L.length:=by
 intro L;induction L with
 |nil=>rfl
 |cons x L aI=>
  rw[FI,Au,aI];unfold uH;simp only[Au,NH (X8 _),jh];rw[show Ag.count 10=0 by decide,show Af.count 10=0 by decide,show([10]:List UInt8).count 10=1 by decide];omega
theorem anR:∀(L:List (List Int×List Int)) (H:List UInt8),(∃C,H=C++[10])->∃C,H++L.flatMap uH=C++[10]:=by
 intro L;induction L with
 |nil=>rintro H ⟨C,rfl⟩;exact⟨C,by simp⟩
 |cons x L aI=>
  intro H _;obtain⟨C,lJ⟩:=aI (H++uH x) ⟨H++(Ag++(ih x.1++([10]++(Af++ih x.2)))),by unfold uH;simp[gw]⟩;exact⟨C,by rw[FI,<-gw];exact lJ⟩
theorem TB(g:bq)(t:gI):∃C,jm g t=C++[10]:=anR _ _ ⟨_,rfl⟩
theorem ahS(g:bq)(t:gI):(od g t).count 10=3:=by
 unfold od;simp only[Au,NH (X8 _)];rw[show CM.count 10=0 by decide,show Fm.count 10=0 by decide,show CL.count 10=0 by decide,show CN.count 10=0 by decide,show([10]:List UInt8).count 10=1 by decide]
theorem TA{g:bq}{t:gI}{N:Nat}(aa:t.sum.length=N)(ae:t.pl.length=N):(jm g t).count 10=3+2*N:=by
 unfold jm tb;rw[Au,ahS,anQ,iu,List.length_zip,aa,ae];omega
theorem ZQ(g:bq)(t:gI):jS g t=jm g t++((Jo++Lib.itoa (ri (jm g t)))++[10]):=by
 unfold jS;simp[QX,Fl,Jo,gw]
theorem TL{g:bq}{t ek:gI}{N i:Nat}{x y:UInt8}(aa:t.sum.length=N)(ae:t.pl.length=N)(aF:ek.sum.length=N)(bo:ek.pl.length=N)(U:(jS g t)[i]?=some x)(eZ:x≠y)(h:(jS g t).set i y=jS g ek):False:=by
 obtain⟨C,lJ⟩:=TB g t;obtain⟨lZ,agY⟩:=TB g ek;have ao:=(dY.1 U).1;have aL:jS g t=(jS g t).take i++x::(jS g t).drop (i+1):=by
  have:=SP i (jS g t);rw[ny ao] at this;rw[dj ao] at U;injection U with U;rw[U] at this
  exact this.symm
 have bk:jS g ek=(jS g t).take i++y::(jS g t).drop (i+1):=by
  rw[<-h,JL,aE ao]
 exact ab8 (w:=Jo) ac9 ac8 lJ agY (by decide) (by rw[TA aa ae,TA aF bo]) eZ ((ZQ g t).symm.trans aL) ((ZQ g ek).symm.trans bk)
theorem TK{bs:List UInt8}{i:Nat}{b:UInt8}(h:i<bs.length){off:Nat}(ar:off=i):gg off (l5 bs) [.int .u8 (b.toNat:Int)]=some (l5 (bs.set i b)):=by
 subst ar;rw[RE off (by unfold l5;rw[lB];exact h)];unfold l5;rw[List.map_set]
end
end Go.Opn
