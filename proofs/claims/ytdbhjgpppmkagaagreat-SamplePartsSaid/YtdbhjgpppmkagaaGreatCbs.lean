/- A part of the proof of SampleParts. -/
import Derived.Test.YtdbhjgpppmkagaaGreatCbr
set_option maxRecDepth 100000
set_option maxHeartbeats 8000000
set_option linter.unusedVariables false
set_option linter.unusedSimpArgs false
namespace Go.Opn
noncomputable section
open Go.Cre Go.RowKit Go.Proofs
def pK(g:bp)(J:aA)(i:Nat)(d:List Value):Prop:=d.length=g.ns.length+g.is.length/\d.drop g.ns.length=List.replicate g.is.length (.slice none 0 0)/\∀(j:Nat) (x:cH),j<i->g.ns[j]?=some x->x.k=1->∃b c,d[j]?=some (.slice b x.ws.length c)/\ew J (.slice b x.ws.length c) (hF x.ws)
theorem aht{α:Type}{a b c d e:α}:([]++[a,b,c,d,e]).Perm [a,d,c,b,e]:=by open Classical in exact iu
theorem pK.nil{g:bp}{J:aA}{n:Nat}(h:n=g.ns.length+g.is.length):pK g J 0 (List.replicate n (.slice none 0 0)):=
 ⟨by rw[kJ,h],by rw[List.drop_replicate,h,XP],fun j x aU=>absurd aU (Kd j)⟩
theorem pK.skip{g:bp}{J:aA}{i:Nat}{d:List Value}{x:cH}(h:pK g J i d)(I:g.ns[i]?=some x)(aH:¬x.k=1):pK g J (i+1) d:=by
 obtain⟨aa,ab,aK⟩:=h;refine⟨aa,ab,fun j y aU ah Io=>?_⟩;rcases jo j i with q|q
 ·exact aK j y q ah Io
 ·obtain rfl:j=i:=by omega
  rw[I] at ah;injection ah with ah;subst ah
  exact absurd Io aH
theorem pK.set{g:bp}{J ag:aA}{i a:Nat}{d:List Value}{x:cH}(h:pK g J i d)(hle:J.le ag)(I:g.ns[i]?=some x)(aH:x.k=1)(ak:i<g.ns.length)(aE:ew ag (.slice (some ⟨a,0,none⟩) x.ws.length x.ws.length) (hF x.ws)):pK g ag (i+1) (d.set i (.slice (some ⟨a,0,none⟩) x.ws.length x.ws.length)):=by
 obtain⟨aa,ab,aK⟩:=h;refine⟨by rw[hW];exact aa,by rw[List.drop_set,aF ak];exact ab,fun j y aU ah Io=>?_⟩;rcases jo j i with q|q
 ·obtain⟨b,c,a',bd⟩:=aK j y q ah Io
  exact⟨b,c,by rw[j1,aq (by omega)];exact a',bd.mono hle⟩
 ·obtain rfl:j=i:=by omega
  rw[I] at ah;injection ah with ah;subst ah
  exact⟨_,_,by rw[j1,aF rfl,aF (by omega)],aE⟩
theorem pK.mono{g:bp}{J ag:aA}{i:Nat}{d:List Value}(h:pK g J i d)(hle:J.le ag):pK g ag i d:=⟨h.1,h.2.1,fun j x a b c=>by
 obtain⟨b,c,a',bd⟩:=h.2.2 j x a b c;exact⟨b,c,a',bd.mono hle⟩⟩
theorem ah0{a:Nat}{w:List Int}{J:aA}(ay:w.length<=1000)(h:J a=some ((hF w).map (Value.int .i64),3)):ew J (.slice (some ⟨a,0,none⟩) w.length w.length) (hF w):=by
 obtain⟨y,aa,ab⟩:=k1.ok (l:=hF w) (w:=.slice (some ⟨a,0,none⟩) w.length w.length) (x:=(a,.row ((hF w).map (Value.int .i64)) 3)) ⟨a,by rw[tv],by rw[tv];exact r1 ay (by decide),rfl⟩;injection aa with aa
 subst aa;exact ab J h
theorem hV.ws{g:bp}(hw:hV g){i:Nat}{x:cH}(I:g.ns[i]?=some x)(aH:x.k=1):2<=x.ws.length/\x.ws.length<=3/\∀k,-1000000000000<=(x.ws.take k).sum/\(x.ws.take k).sum<=1000000000000:=by
 rcases hw.kind x (cV I) with⟨h,_⟩|⟨_,aa,ab,aK,bh⟩|⟨h,_⟩
 ·omega
 ·refine⟨by omega,by omega,fun k=>?_⟩
  have a':=z9 (l:=x.ws.take k) fun v ap=>by have:=bh v (uM ap);omega
  have bd:=Wo (l:=x.ws.take k) (b:=3) fun v ap=>by have:=bh v (uM ap);omega
  have bz:(x.ws.take k).length<=x.ws.length:=by rw[fc];omega
  omega
 ·omega
theorem ahW{α:Type}{A d:List α}{x w:α}{i n k:Nat}(iL:A.length=k)(aS:d.length=i)(ak:i<n):(A++(d++List.replicate (n -i) x)).set (k+i) w=A++((d++[w])++List.replicate (n -(i+1)) x):=by
 rw[Gv _ _ (by omega),iL,XP,FL aS ak]
def XQ(g:bp)(aT:Option Addr)(aP:Nat)(bi:Option Addr)(ci:Nat)(J:aA):Value->aI->aA->Prop:=fun v m' ag=>J.le ag/\∃ac cj a1 cb bv eY cells e R pU,v=.pointer (some ⟨ac,0,none⟩)/\
 m'=[(ac,.row (c6 g aT aP bi ci (.slice bv (gr g g.ns.length).length eY) 0 cj (g.ns.length+g.is.length) (g.ns.length+g.is.length) a1 (g.ns.length+g.is.length) (g.ns.length+g.is.length) (.slice (some ⟨cb,0,none⟩) g.is.length g.is.length)) 80),bM a1 (List.replicate (g.ns.length+g.is.length) 0),eU cb (List.replicate g.is.length false)]++R/\
 ew ag (.slice bv (gr g g.ns.length).length eY) (gr g g.ns.length)/\ag cj=some (cells,e)/\
 (∀(i:Nat) (x:cH),g.ns[i]?=some x->x.k=1->∃b c,nth cells i=some (.slice b x.ws.length c)/\ew ag (.slice b x.ws.length c) (hF x.ws))/\
 fk k1 ag 22 (.slice (some ⟨cj,g.ns.length,none⟩) g.is.length pU) (jl g) R
section
variable {Q:db Tryz.prog}{g0:Nat}{J:aA}
variable {g:bp}{aT bi:Option Addr}{aP ci:Nat}
open Classical in
theorem af3(hw:hV g)(ar:hB J g aT aP bi ci):
 Fn (a2 Q g0) 38 [p0 g aT aP bi ci] [] J (XQ g aT aP bi ci J):=by
 have kZ:addrEq bi bi=true:=ar.i.addr;have lj:addrEq aT aT=true:=ar.n.addr;obtain⟨_,nk⟩:=ar.i.at;obtain⟨_,ky⟩:=ar.n.at;have b5:=hw.b5;have dr:=hw.dr;have i2:=hw.i2;obtain⟨n,aM⟩:∃n,n=g.ns.length+g.is.length:=⟨_,rfl⟩;refine Fn.dw (dB Tryz.func38) rfl rfl fun H=>?_;refine rg ?_;refine fG fun bl=>?_;refine U V.a7 ?_;refine bP ?_;refine U V.bU ?_;refine U V.bL ?_;refine aV ?_;refine U V.bL ?_;refine U V.cr ?_;refine U V.va ?_;refine U V.a7 ?_;refine bu ?_;rw[show(g.ns.length:Int)+(g.is.length:Int)=(n:Int) by omega];refine aJ ?_;refine ae.draw rfl (by kernel_rfl) (a8:=[.val 0,.val 1,.f' 2,.val 3,.f' 4,.val 5,.val 6,.val 7,.f' 8,.val 9,.f' 10,.val 11,.c9 [9,7,6,5,3,1,0]]) (by kernel_rfl) ?_;refine aB rfl V.qk ?_;refine aB rfl V.az ?_;refine a3.makeSlice rfl rfl rfl rfl rfl rfl rfl (sX Q g0) ?bt ?aa ?ab fun nc=>?_;case bt=>exact cQ
 case aa=>exact cQ
 case ab=>exact cQ
 refine aB rfl V.az ?_;refine a3.makeSlice rfl rfl rfl rfl rfl rfl rfl (hL Q g0) ?bt ?aa ?ab fun mH=>?_;case bt=>exact cQ
 case aa=>exact cQ
 case ab=>exact cQ
 refine aB rfl V.bU ?_;refine aB rfl V.bL ?_;refine aB rfl V.cr ?_;refine a3.makeSlice rfl rfl rfl rfl rfl rfl rfl (VW Q g0) ?bt ?aa ?ab fun mI=>?_;case bt=>exact cQ
 case aa=>exact cQ
 case ab=>exact cQ
 refine aB rfl V.lp ?_;refine a3.box rfl rfl rfl rfl rfl rfl rfl rfl fun wH=>?_;have aij:addrEq none none=true:=rfl;have aom:addrEq (some ⟨nc,0,none⟩) (some ⟨nc,0,none⟩)=true:=by simp[addrEq]
 have aoo:addrEq (some ⟨mH,0,none⟩) (some ⟨mH,0,none⟩)=true:=by simp[addrEq]
 have aop:addrEq (some ⟨mI,0,none⟩) (some ⟨mI,0,none⟩)=true:=by simp[addrEq]
 refine aB rfl V.a7 ?_;refine a3.c9 g7 ?_;refine a3.nil ?_;rw[ea,ea,JO,yi,yj];refine ae.gZ (m':=[]++[(wH,.row (c6 g aT aP bi ci (.slice none 0 0) 0 nc n n mH n n (.slice (some ⟨mI,0,none⟩) g.is.length g.is.length)) 80),(nc,.row (List.replicate n (.slice none 0 0)) 22),bM mH (List.replicate n 0),eU mI (List.replicate g.is.length false),je bl g aT aP bi ci]) aht ?_;refine rg ?_;refine U V.bU ?_;refine U V.bL ?_;refine aV ?_;refine ns ?_;refine ae.block ?_;refine' ae.fy (l':=[(30,.int .i64 ((0):Int)),(1,_),(4,_),(28,_),(29,_)]) ⟨?akP,rfl,rfl,rfl,rfl,trivial⟩ (bV _) ?_;case akP=>exact ec
 refine aJ ?_;refine' ae.cf (fun(cU:Nat×(List Value)×Value×aI×aA)=>match cU with|(i,d,v,aY,eW)=>⟨[(30,.int .i64 (i:Int))],aY++[(wH,.row (c6 g aT aP bi ci v 0 nc n n mH n n (.slice (some ⟨mI,0,none⟩) g.is.length g.is.length)) 80),(nc,.row d 22),bM mH (List.replicate n 0),eU mI (List.replicate g.is.length false),je bl g aT aP bi ci],eW,i<=g.ns.length/\J.le eW/\pK g eW i d/\Acc 3 1 v (gr g i).length ((gr g i).map (Value.int .i64)) aY,g.ns.length -i⟩) ⟨0,List.replicate n (.slice none 0 0),.slice none 0 0,[],J⟩ ?al ?cp
 case al=>exact⟨dV _,aA.le.refl _,pK.nil aM,.nil⟩
 case cp=>
  rintro⟨i,d,v,aY,eW⟩ hinv;try simp only at hinv
  obtain⟨ak,ev,gA,iL⟩:=hinv;obtain⟨jc,jd,rfl,Oa⟩:=iL.jO;refine rg ?_;refine U V.bm ?_;refine ns ?_;refine If (fun G1=>?_) fun G1=>?_
  ·obtain⟨a1,off,m1,ne,rfl,tL,tV⟩:=ky (by omega);obtain⟨x,ams,I,kx,mU,jR⟩:=tV i (by omega) (by omega);obtain⟨bE,bx,bS,bT,cJ,dA,rfl,lc,nX,rq⟩:=jR;have ady:=mU 0 _ (by decide) rfl;have anj:=mU 4 _ (by decide) rfl;rw[ea] at I;have tL:=ev _ _ tL;have nX:=nX.mono ev;have aR:addrEq bS bS=true:=nX.addr;have jw:=Q7 (g:=g) (i:=i);have xh:=Zg I;have tT:=gA.1;refine gn ?_;refine aJ ?_;refine ae.block ?_;refine rg ?_;refine U V.az ?_;refine U V.bf ?_;refine U V.qk ?_;refine' W.step rfl (.of (ic rfl rfl rfl (yh Q g0) rfl rfl rfl fun cX=>?_));refine U V.a7 ?_;refine fF ?_;refine bP ?_;refine U V.bU ?_;refine U V.bL ?_;refine U V.bm ?_;refine ns ?_;refine If (fun wT=>?_) fun wT=>?_
   ·rw[aF wT] at xh;have BI:=hw.ws I wT;refine rg ?_;refine aV ?_;refine U V.bL ?_;refine U V.az ?_;refine uV (hL Q g0) fun alY=>?_;refine' W.step rfl (.of (qF rfl rfl rfl rfl rfl rfl (hL Q g0) (s3 Q g0) (fun i q=>by cases q) ?fo ?hm ?I ?df ?dR ?ay fun apd NA Sz=>?_));case fo=>exact iL
    case hm=>exact U4
    case I=>exact nw
    case df=>first|rfl|(simp;done)|(simp;omega)
    case dR=>first|rfl|exact mX _
    case ay=>exact cQ
    obtain⟨wQ,wZ,rfl,Vy⟩:=Sz.jO;refine aV ?_;refine fF ?_;refine ns ?_;refine ae.draw rfl (by kernel_rfl) (a8:=[.val 0,.val 1,.val 2,.val 3,.val 4,.val 5,.val 6,.val 7,.f' 8,.val 9,.c9 [7,6,5,4,3,2,1,0],.cv 10]) (by kernel_rfl) ?_;refine cm ?_;refine aB rfl V.bL ?_;refine cm ?_;refine aB rfl V.bL ?_;refine aB rfl V.cr ?_;refine a3.makeSlice rfl rfl rfl rfl rfl rfl rfl (hL Q g0) ?bt ?aa ?ab fun nd=>?_;case bt=>exact cQ
    case aa=>exact cQ
    case ab=>exact cQ
    refine aB rfl V.bf ?_;refine a3.c9 g7 ?_;refine' a3.ij rfl rfl (jY rfl rfl rfl rfl (h' rfl) rfl rfl rfl ?aa ?al ?au ?_);case au=>repeat first|exact .head _ _ _ _|apply dc.tail|apply dc.app
    case al=>exact x6 i (by omega)
    case aa=>first|rfl|assumption
    refine a3.nil ?_;rw[show(x.ws.length:Int).toNat=x.ws.length from ea _,yi];have EL:nth (d.set i (.slice (some ⟨nd,0,none⟩) x.ws.length x.ws.length)) (0+((i:Nat):Int).toNat*1)=some (.slice (some ⟨nd,0,none⟩) x.ws.length x.ws.length):=n3 i (by rw[j1,aF rfl,aF (by omega)]) (by omega);refine aJ ?_;refine ae.draw rfl (by kernel_rfl) (a8:=[.val 0,.val 1,.val 2,.val 3,.val 4,.val 5,.val 6,.val 7,.val 8,.cv 9]) (by kernel_rfl) ?_;refine cm ?_;refine aB rfl V.bL ?_;refine aB rfl V.az ?_;refine aB rfl V.bf ?_;refine aB rfl V.bL ?_;refine aB rfl V.bU ?_;refine aB rfl V.bL ?_;refine' a3.call rfl rfl rfl rfl rfl rfl rfl rfl rfl rfl (a4:=[_]) (b2:=_) (.refl _) trivial (Qf (w:=x.ws) (aY:=[]) aR (nX.l6 []) (by omega) (by simp) (fun k aH=>BI.2.2 k)) ?_;rintro v m' ag hle ⟨rfl,rfl⟩;refine a3.nil ?_;refine ae.lH rfl fun S4=>?_;refine rg ?_;refine U V.va ?_;refine U V.az ?_;refine bu ?_;refine e2 ⟨i+1,d.set i (.slice (some ⟨nd,0,none⟩) x.ws.length x.ws.length),.slice wQ ((gr g i).length+1) wZ,NA,(eW.add nd ((hF x.ws).map (Value.int .i64),3))⟩ ?_ (hm:=(show List.Sublist (NA++_) (NA++_) from List.Sublist.append (.refl _) (.cons _ (.cons _ (.refl _)))));exact⟨by omega,ev.trans S4,gA.set S4 I wT (by omega) (ah0 (by omega) (aA.mf _ _ _)),Sz.qX (by rw[xh,er];rfl) (by rw[xh,CV];rfl)⟩
   ·rw[aq wT] at xh;refine n0 ?_;refine U V.va ?_;refine U V.az ?_;refine bu ?_;refine e2 ⟨i+1,d,.slice jc (gr g i).length jd,aY,eW⟩ ?_ (hm:=.cons _ (.refl _));exact⟨by omega,ev,gA.skip I wT,iL.qX (by rw[xh]) (by rw[xh])⟩
  ·obtain rfl:i=g.ns.length:=by omega
   refine aJ ?_;refine ae.exit ?_;refine rg ?_;refine U V.bU ?_;refine U V.bL ?_;refine aV ?_;refine ns ?_;refine ae.block ?_;refine aJ ?_;refine iL.l4 (.refl _) fun hs fu hR=>?_;obtain⟨A,ab0,rfl⟩:∃A,A.length=g.ns.length/\d=A++List.replicate g.is.length (.slice none 0 0):=⟨d.take g.ns.length,by rw[fc,gA.1];omega,by rw[<-gA.2.1,PW]⟩;have p3:=gA.mono fu;have Mz:=ev.trans fu;refine' ae.fy (l':=[(72,.int .i64 ((0):Int)),(1,_),(4,_),(70,_),(71,_)]) ⟨?akZ,rfl,rfl,rfl,rfl,trivial⟩ (bV _) ?_;case akZ=>exact ec
   refine aJ ?_;refine' ae.cf (fun(cU:Nat×(List Value)×aI)=>match cU with|(i,d,bs)=>⟨[(72,.int .i64 (i:Int))],bs++[(wH,.row (c6 g aT aP bi ci (.slice jc (gr g g.ns.length).length jd) 0 nc n n mH n n (.slice (some ⟨mI,0,none⟩) g.is.length g.is.length)) 80),(nc,.row (A++(d++List.replicate (g.is.length -i) (.slice none 0 0))) 22),bM mH (List.replicate n 0),eU mI (List.replicate g.is.length false),je bl g aT aP bi ci],hs,i<=g.is.length/\lJ k1 ((jl g).take i) d bs,g.is.length -i⟩) ⟨0,[],[]⟩ ?al ?cp
   case al=>exact⟨dV _,lJ.nil⟩
   case cp=>
    rintro⟨i,d,bs⟩ hinv;try simp only at hinv
    obtain⟨ak,dF⟩:=hinv;refine rg ?_;refine U V.bm ?_;refine ns ?_;refine If (fun j9=>?_) fun j9=>?_
    ·obtain⟨j6,n4,yI,yS,rfl,nM,oy⟩:=nk (by omega);obtain⟨y,yK,ah,xf,rc,rfl⟩:=oy i (by omega) (by omega);rw[ea] at ah;have nM:=Mz _ _ nM;have E5:=hw.tj y (cV ah);have tT:d.length=i:=by rw[dF.1,fc,qH];omega
     refine gn ?_;refine aJ ?_;refine ae.block ?_;refine rg ?_;refine U V.az ?_;refine U V.bf ?_;refine U V.qk ?_;refine' W.step rfl (.of (ic rfl rfl rfl (Gf Q g0) rfl rfl rfl fun g6=>?_));refine U V.a7 ?_;refine fF ?_;refine ns ?_;refine ae.draw rfl (by kernel_rfl) (a8:=[.val 0,.val 1,.val 2,.val 3,.val 4,.val 5,.val 6,.val 7,.val 8,.val 9,.val 10,.f' 11,.val 12,.c9 [10,9,8,7,6,5,4,3,2,1,0],.cv 13]) (by kernel_rfl) ?_;refine cm ?_;refine aB rfl V.bL ?_;refine aB rfl V.bU ?_;refine aB rfl V.bL ?_;refine cm ?_;refine aB rfl V.va ?_;refine aB rfl V.bU ?_;refine aB rfl V.bL ?_;refine a3.makeSlice rfl rfl rfl rfl rfl rfl rfl (hL Q g0) ?bt ?aa ?ab fun C8=>?_;case bt=>exact cQ
     case aa=>exact cQ
     case ab=>exact cQ
     refine aB rfl V.bf ?_;refine a3.c9 g7 ?_;refine' a3.ij rfl rfl (jY rfl rfl rfl rfl (h' rfl) rfl rfl rfl ?aa ?al ?au ?_);case au=>repeat first|exact .head _ _ _ _|apply dc.tail|apply dc.app
     case al=>exact x6 (g.ns.length+i) (by rw[er,FK tT];omega)
     case aa=>first|rfl|assumption
     refine a3.nil ?_;rw[yi,ahW ab0 tT (by omega)];refine ae.e7 (m':=(bs++[(C8,.row ((List.replicate y.2.toNat 0).map (Value.int .i64)) 3)])++[(wH,.row (c6 g aT aP (some ⟨j6,n4,none⟩) ci (.slice jc (gr g g.ns.length).length jd) 0 nc n n mH n n (.slice (some ⟨mI,0,none⟩) g.is.length g.is.length)) 80),(nc,.row (A++((d++[.slice (some ⟨C8,0,none⟩) y.2.toNat y.2.toNat])++List.replicate (g.is.length -(i+1)) (.slice none 0 0))) 22),bM mH (List.replicate n 0),eU mI (List.replicate g.is.length false),je bl g aT aP (some ⟨j6,n4,none⟩) ci]) (lZ:=[(g6,.row [.int .i64 y.1,.int .i64 y.2] 87)]) iu ?_;refine rg ?_;refine U V.va ?_;refine U V.az ?_;refine bu ?_;refine e2 ⟨i+1,d++[.slice (some ⟨C8,0,none⟩) y.2.toNat y.2.toNat],bs++[(C8,.row ((List.replicate y.2.toNat 0).map (Value.int .i64)) 3)]⟩ ?_;exact⟨by omega,dF.take (JP ah) ⟨C8,by rw[kJ],by rw[kJ];exact r1 (show y.2.toNat<=100 by omega) (by decide),rfl⟩⟩
    ·refine aJ ?_;refine ae.exit ?_;obtain rfl:i=g.is.length:=by omega
     have sx:=qH (g:=g);have tT:d.length=g.is.length:=by rw[dF.1,fc,sx];omega
     refine ae.gZ (m':=(nc,.row (A++d) 22)::([(wH,.row (c6 g aT aP bi ci (.slice jc (gr g g.ns.length).length jd) 0 nc n n mH n n (.slice (some ⟨mI,0,none⟩) g.is.length g.is.length)) 80),bM mH (List.replicate n 0),eU mI (List.replicate g.is.length false)]++(bs++[je bl g aT aP bi ci]))) (by show List.Perm _ (bs++[(wH,.row (c6 g aT aP bi ci (.slice jc (gr g g.ns.length).length jd) 0 nc n n mH n n (.slice (some ⟨mI,0,none⟩) g.is.length g.is.length)) 80),(nc,.row (A++(d++List.replicate (g.is.length -g.is.length) (.slice none 0 0))) 22),bM mH (List.replicate n 0),eU mI (List.replicate g.is.length false),je bl g aT aP bi ci]);rw[ta,PU,fb];exact iu) ?_;rw[fZ (by omega)] at dF;refine ae.lH rfl fun gO=>?_;refine ae.gZ (m':=([(wH,.row (c6 g aT aP bi ci (.slice jc (gr g g.ns.length).length jd) 0 nc n n mH n n (.slice (some ⟨mI,0,none⟩) g.is.length g.is.length)) 80),bM mH (List.replicate n 0),eU mI (List.replicate g.is.length false)]++bs)++[je bl g aT aP bi ci]) (by rw[j0]) ?_;refine rg ?_;refine aV ?_;refine ns ?_;refine ae.ret ?_;refine'⟨.inr rfl,rfl,_,_,.tmp rfl .nil,oh _ _,?_⟩;subst aM;refine⟨Mz.trans gO,wH,nc,mH,mI,jc,jd,_,_,bs,g.is.length,rfl,rfl,⟨3,hR.mono gO⟩,aA.mf _ _ _,fun i x I aH=>?_,dF.d2 ?_⟩
     ·have ak:=(dv.1 I).1
      obtain⟨b,c,a',bd⟩:=p3.2.2 i x ak I aH;rw[og (by omega)] at a';exact⟨b,c,by rw[kk,og (by omega)];exact a',bd.mono gO⟩
     ·rw[sx]
      exact .row (aA.mf _ _ _) (by rw[XH (by omega),Ar (by omega),mB,fZ (by omega)]) (by omega) (fun _=>⟨dH _,r1 i2 (by decide)⟩) (fun _=>rfl)
end
end
end Go.Opn
