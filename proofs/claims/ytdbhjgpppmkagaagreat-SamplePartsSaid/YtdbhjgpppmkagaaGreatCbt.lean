/- A part of the proof of SampleParts. -/
import Derived.Test.YtdbhjgpppmkagaaGreatCbs
import Derived.Test.YtdbhjgpppmkagaaGreatCbr
set_option maxRecDepth 100000
set_option maxHeartbeats 8000000
set_option linter.unusedVariables false
set_option linter.unusedSimpArgs false
namespace Go.Opn
noncomputable section
open Go.Cre Go.RowKit Go.Proofs
def Cg(g:bp):List (List Int):=(List.range g.pl.toNat).map fun k:Nat=>fi g k
theorem Vl{g:bp}{P k:Nat}(h:g.pl=(P:Int))(aH:k<P):(Cg g)[k]?=some (fi g k):=by
 unfold Cg;rw[gG,wz (by omega)];rfl
theorem Vm{g:bp}{P:Nat}(h:g.pl=(P:Int)):(Cg g).length=P:=by
 unfold Cg;rw[ig,yr];omega
theorem Rb{J:aA}{l:List Int}:∀(v:Value) m' ag,(∃ad r,v=.slice (some ⟨ad,0,none⟩) l.length cR/\m'=[iv ad l r]/\J=ag)->∃a b,(a,b)∈m':=by
 rintro v m' ag ⟨ad,r,_,rfl,_⟩;exact⟨_,_,.head _⟩
theorem ahv{α:Type}{s c a n e x y:α}{R:List α}:([]++([s,c]++([a,n,e]++(R++[x,y])))).Perm (s::([c,n,e]++R++[a,x,y])):=by open Classical in exact iu
theorem ahw{α:Type}{c s:α}{A X:List α}:([c]++(A++(s::X))).Perm (A++([s,c]++X)):=by open Classical in exact iu
theorem ahx{α:Type}{x c s:α}{A X:List α}:(x::([c]++(A++(s::X)))).Perm (A++(x::c::s::X)):=by open Classical in exact iu
theorem ahy{α:Type}{x c s:α}{A X:List α}:(x::(A++([s,c]++X))).Perm (A++(x::c::s::X)):=by open Classical in exact iu
theorem ahz{α:Type}{s u w h c:α}{X:List α}:([s,u,w,h]++([]++([]++([]++(c::X))))).Perm (h::w::u::s::c::X):=by open Classical in exact iu
theorem ahA{α:Type}{aa d' iC x s u w h:α}{A B C X:List α}:(x::([s,u,w,h]++((A++[iC])++((B++[d'])++((C++[aa])++X))))).Perm (aa::d'::iC::x::s::u::w::h::(A++(B++(C++X)))):=by open Classical in exact iu
def AA(g:bp)(l:List (List Int)):Prop:=l.length=g.is.length/\∀(i:Nat) r y,l[i]?=some r->g.is[i]?=some y->(r.length:Int)=y.2
theorem AA.zero{g:bp}(hw:hV g):AA g (jl g):=⟨qH,fun i r y ax ah=>by
 have:=hw.tj y (cV ah);rw[JP ah] at ax;injection ax with ax
 rw[<-ax,kJ];omega⟩
def GD(g:bp)(aT:Option Addr)(aP:Nat)(bi:Option Addr)(ci:Nat)(J:aA)(ck:Nat)(t:kM)(m:aI):Prop:=
 ∃(ac cj a1 cb bK:Nat) (bv:Option Addr) (eY:Nat) (cells:List Value) (e:TypeId) (pU:Nat) (wO:Option Addr) (lr:Nat) (cT:Option Addr) (c3:Nat) (lo:Option Addr) (k6:Nat) (dd:Option Addr) (c8:Nat) (p:Int) (cS cG cy:List Int) (eX:List Bool) (C4 CK:List (List Int)) (R dE cu lO:aI),
  m=[(ck,.row (ed ac (.slice wO g.pl.toNat lr) t.r t.s cT g.is.length c3 (.slice lo g.is.length k6) dd g.is.length c8 bK g.ns.length g.ns.length cS) 73),(ac,.row (c6 g aT aP bi ci (.slice bv (gr g g.ns.length).length eY) p cj (g.ns.length+g.is.length) (g.ns.length+g.is.length) a1 (g.ns.length+g.is.length) (g.ns.length+g.is.length) (.slice (some ⟨cb,0,none⟩) g.is.length g.is.length)) 80),bM bK cG,bM a1 cy,eU cb eX]++(R++(dE++(cu++lO)))/\
  cS.length=10/\cG.length=g.ns.length/\cy.length=g.ns.length+g.is.length/\eX.length=g.is.length/\
  fX J 22 1 (k3 J) (.slice wO g.pl.toNat lr) (Cg g)/\ew J (.slice bv (gr g g.ns.length).length eY) (gr g g.ns.length)/\J cj=some (cells,e)/\
  (∀(i:Nat) (x:cH),g.ns[i]?=some x->x.k=1->∃b c,nth cells i=some (.slice b x.ws.length c)/\ew J (.slice b x.ws.length c) (hF x.ws))/\
  fk k1 J 22 (.slice (some ⟨cj,g.ns.length,none⟩) g.is.length pU) C4 R/\AA g C4/\fk k1 J 22 (.slice dd g.is.length c8) CK dE/\AA g CK/\
  fk nA J 22 (.slice cT g.is.length c3) t.sum cu/\fk nA J 22 (.slice lo g.is.length k6) t.pl lO
section
variable {Q:db Tryz.prog}{g0:Nat}{J:aA}
variable {g:bp}{aT bi bs hE:Option Addr}{aP ci cs gM:Nat}{t:kM}
open Classical in
theorem af4(hw:hV g)(ar:hB J g aT aP bi ci)(aN:tf J t bs cs hE gM){cL ak afy pn:Int}(aa:kI g t.sum cL ak)(ab:kI g t.pl afy pn):
 Fn (a2 Q g0) 20 [p0 g aT aP bi ci,Aa t bs cs hE gM] [] J (fun v m' ag=>J.le ag/\∃ck,v=.pointer (some ⟨ck,0,none⟩)/\GD g aT aP bi ci ag ck t m'):=by
 have kZ:addrEq bi bi=true:=ar.i.addr;have lj:addrEq aT aT=true:=ar.n.addr;have fq:addrEq bs bs=true:=aN.s.addr;have aii:addrEq hE hE=true:=aN.p.addr;have aij:addrEq none none=true:=rfl;obtain⟨_,nk⟩:=ar.i.at;obtain⟨P,dC⟩:∃P:Nat,g.pl=(P:Int):=⟨g.pl.toNat,by have:=hw.dS;omega⟩;have hp:=hw.hp;have b5:=hw.b5;have dr:=hw.dr;have i2:=hw.i2;have dZ:=aa.1;have eJ:=ab.1;refine Fn.dw (dB Tryz.func20) rfl rfl fun H=>?_;refine rg ?_;refine fG fun bF=>?_;refine fG fun bO=>?_;refine U V.a7 ?_;refine ns ?_;refine ae.draw rfl (by kernel_rfl) (a8:=[.val 0,.val 2,.val 3,.val 4,.f' 5,.c9 [4,3,2,0],.cv 1,.val 6,.f' 7,.val 8,.c9 [6,4,3,2]]) (by kernel_rfl) ?_;refine aB rfl V.qk ?_;refine aB rfl V.bU ?_;refine aB rfl V.bL ?_;refine aB rfl V.cr ?_;refine a3.makeSlice rfl rfl rfl rfl rfl rfl rfl (hL Q g0) ?bt ?aa ?ab fun ln=>?_;case bt=>exact cQ
 case aa=>exact cQ
 case ab=>exact cQ
 refine a3.c9 g7 ?_;refine dl rfl (G:=af3 hw ar) (h:=?_);rintro v m' cN eL ⟨_,ac,cj,a1,cb,bv,eY,cells,K5,R,pU,rfl,rfl,gi,sm,sq,gB⟩;refine aB rfl V.lp ?_;refine a3.box rfl rfl rfl rfl rfl rfl rfl rfl fun wG=>?_;refine aB rfl V.a7 ?_;have aeB:hA 8 (Value.agg #[.pointer (some ⟨ac,0,none⟩),.slice none 0 0,.int .i64 0,.int .i64 0,.slice none 0 0,.slice none 0 0,.slice none 0 0,.slice (some ⟨ln,0,none⟩) (g.ns.length:Int).toNat (g.ns.length:Int).toNat,.int .i64 0,.int .i64 0,.int .i64 0,.int .i64 0,.int .i64 0,.int .i64 0,.int .i64 0,.int .i64 0,.int .i64 0,.int .i64 0]) (Value.agg #[.pointer (some ⟨ac,0,none⟩),.slice none 0 0,.int .i64 0,.int .i64 0,.slice none 0 0,.slice none 0 0,.slice none 0 0,.slice (some ⟨ln,0,none⟩) (g.ns.length:Int).toNat (g.ns.length:Int).toNat,.int .i64 0,.int .i64 0,.int .i64 0,.int .i64 0,.int .i64 0,.int .i64 0,.int .i64 0,.int .i64 0,.int .i64 0,.int .i64 0])=true:=by simp[hA,qS,addrEq];exact⟨rfl,rfl⟩
 refine a3.c9 g7 ?_;refine a3.nil ?_;rw[show(g.ns.length:Int).toNat=g.ns.length from ea _,yi];refine ae.gZ (m':=[]++([(wG,.row (ed ac (.slice none 0 0) 0 0 none 0 0 (.slice none 0 0) none 0 0 ln g.ns.length g.ns.length (List.replicate 10 0)) 73),(ac,.row (c6 g aT aP bi ci (.slice bv (gr g g.ns.length).length eY) 0 cj (g.ns.length+g.is.length) (g.ns.length+g.is.length) a1 (g.ns.length+g.is.length) (g.ns.length+g.is.length) (.slice (some ⟨cb,0,none⟩) g.is.length g.is.length)) 80)]++([bM ln (List.replicate g.ns.length 0),bM a1 (List.replicate (g.ns.length+g.is.length) 0),eU cb (List.replicate g.is.length false)]++(R++[(bO,.row (wg t bs cs hE gM) 32),je bF g aT aP bi ci])))) ahv ?_;refine rg ?_;refine U V.bU ?_;refine U V.bL ?_;refine U V.az ?_;refine ns ?_;refine ae.block ?_;refine' ae.fy (l':=[(19,.int .i64 ((0):Int)),(2,_),(3,_),(5,_),(18,_)]) ⟨?F8,rfl,rfl,rfl,rfl,trivial⟩ (bV _) ?_;case F8=>exact ec
 refine aJ ?_;refine' ae.cf (fun(cU:Nat×Value×(List Value)×aI×Int×aA)=>match cU with|(k,v,d,aY,z0,eW)=>⟨[(19,.int .i64 (k:Int))],aY++([(wG,.row (ed ac v 0 0 none 0 0 (.slice none 0 0) none 0 0 ln g.ns.length g.ns.length (List.replicate 10 0)) 73),(ac,.row (c6 g aT aP bi ci (.slice bv (gr g g.ns.length).length eY) z0 cj (g.ns.length+g.is.length) (g.ns.length+g.is.length) a1 (g.ns.length+g.is.length) (g.ns.length+g.is.length) (.slice (some ⟨cb,0,none⟩) g.is.length g.is.length)) 80)]++([bM ln (List.replicate g.ns.length 0),bM a1 (List.replicate (g.ns.length+g.is.length) 0),eU cb (List.replicate g.is.length false)]++(R++[(bO,.row (wg t bs cs hE gM) 32),je bF g aT aP bi ci]))),eW,k<=P/\cN.le eW/\Acc 22 1 v k d aY/\qO (fun _ _=>True) eW k d ((Cg g).take k),P -k⟩) ⟨0,.slice none 0 0,[],[],0,cN⟩ ?al ?cp
 case al=>exact⟨dV _,aA.le.refl _,.nil,qO.nil⟩
 case cp=>
  rintro⟨k,v,d,aY,z0,eW⟩ hinv;try simp only at hinv
  obtain⟨aH,ev,iL,HD⟩:=hinv;obtain⟨jc,jd,rfl,Oa⟩:=iL.jO;refine rg ?_;refine U V.bm ?_;refine ns ?_;refine If (fun r9=>?_) fun r9=>?_
  ·refine aJ ?_;refine ae.skip ?_;refine aJ ?_;refine ae.block ?_;refine rg ?_;refine aV ?_;refine bP ?_;refine aV ?_;refine U V.bL ?_;refine aV ?_;refine fF ?_;refine ns ?_;refine ae.draw rfl (by kernel_rfl) (a8:=[.val 0,.val 1,.val 2,.val 3,.val 4,.val 5,.val 6,.val 7,.val 8,.cv 9,.f' 10,.c9 [4,3,2,1,0],.cv 11,.val 12,.val 13,.c9 [0],.cv 14]) (by kernel_rfl) ?_;refine cm ?_;refine aB rfl V.bL ?_;refine cm ?_;refine aB rfl V.bL ?_;refine' a3.call rfl rfl rfl rfl rfl rfl rfl rfl rfl rfl (a4:=[(ac,.row (c6 g aT aP bi ci (.slice bv (gr g g.ns.length).length eY) (k:Int) cj (g.ns.length+g.is.length) (g.ns.length+g.is.length) a1 (g.ns.length+g.is.length) (g.ns.length+g.is.length) (.slice (some ⟨cb,0,none⟩) g.is.length g.is.length)) 80)]) (b2:=aY++(_::_)) ahw trivial (ahL hw (ar.mono (eL.trans ev)) (gi.mono ev)) ?_;rintro v m' hs fu ⟨_,rfl,bE,bx,rfl,aE⟩;refine a3.buildSlice rfl rfl rfl rfl rfl rfl (sX Q g0) rfl rfl rfl fun alX=>?_;refine a3.c9 g7 ?_;refine' a3.ij rfl rfl (qF rfl rfl rfl rfl rfl rfl (sX Q g0) (WE Q g0) (fun i q=>by cases q) ?fo ?hm ?I ?df ?dR ?ay fun W7 afV Sy=>?_);case fo=>exact iL
   case hm=>exact ahx
   case I=>exact nw
   case df=>first|rfl|(simp;done)|(simp;omega)
   case dR=>first|rfl|exact mX _
   case ay=>exact cQ
   obtain⟨wQ,wZ,rfl,Vy⟩:=Sy.jO;refine cm ?_;refine a3.c9 g7 ?_;refine m6 rfl ?_;refine a3.nil ?_;refine ae.gZ ahy ?_;refine rg ?_;refine U V.va ?_;refine U V.az ?_;refine bu ?_;refine e2 ⟨k+1,.slice wQ (k+1) wZ,d++[.slice bE (fi g k).length bx],afV,(k:Int),hs⟩ ?_ (hm:=.cons _ (.refl _));exact⟨by omega,ev.trans fu,Sy,by rw[pM,Vl dC (by omega)];exact(HD.mono fu).app aE trivial⟩
  ·obtain rfl:k=P:=by omega
   refine aJ ?_;refine ae.exit ?_;refine iL.l4 (.refl _) fun mA gO hR=>?_;refine aJ ?_;refine ae.draw rfl (by kernel_rfl) (a8:=[.val 0,.val 1,.val 2,.val 3,.val 4,.val 5,.val 6,.val 7,.f' 8,.val 9,.val 10,.val 11,.f' 12,.val 13,.val 14,.val 15,.c9 [11,10,9,7,6,5,4,3,2,1,0],.cv 16]) (by kernel_rfl) ?_;refine cm ?_;refine aB rfl V.bL ?_;refine aB rfl V.bU ?_;refine aB rfl V.bL ?_;refine aB rfl V.bU ?_;refine aB rfl V.bL ?_;refine aB rfl V.cr ?_;refine a3.makeSlice rfl rfl rfl rfl rfl rfl rfl (sX Q g0) ?bt ?aa ?ab fun qP=>?_;case bt=>exact cQ
   case aa=>exact cQ
   case ab=>exact cQ
   refine aB rfl V.bU ?_;refine aB rfl V.bL ?_;refine aB rfl V.cr ?_;refine a3.makeSlice rfl rfl rfl rfl rfl rfl rfl (sX Q g0) ?bt ?aa ?ab fun nd=>?_;case bt=>exact cQ
   case aa=>exact cQ
   case ab=>exact cQ
   refine cm ?_;refine a3.c9 g7 ?_;refine m6 rfl ?_;refine a3.nil ?_;rw[show(t.sum.length:Int).toNat=g.is.length from by omega,show(t.pl.length:Int).toNat=g.is.length from by omega,yj];have xD:=eL.trans (ev.trans gO);have Ts:=aN.mono xD;refine rg ?_;refine aV ?_;refine U V.bL ?_;refine U V.cr ?_;refine' W.step rfl (.of (CC rfl rfl rfl rfl rfl (sX Q g0) ?bt ?aa ?ab fun o5=>?_));case bt=>exact cQ
   case aa=>exact cQ
   case ab=>exact cQ
   refine aV ?_;refine fF ?_;refine bu ?_;rw[show(g.is.length:Int).toNat=g.is.length from ea _,yj];refine ae.gZ (m':=[(wG,.row (ed ac (.slice jc k jd) t.r t.s (some ⟨qP,0,none⟩) g.is.length g.is.length (.slice (some ⟨nd,0,none⟩) g.is.length g.is.length) (some ⟨o5,0,none⟩) g.is.length g.is.length ln g.ns.length g.ns.length (List.replicate 10 0)) 73),(qP,.row (List.replicate g.is.length (.slice none 0 0)) 22),(nd,.row (List.replicate g.is.length (.slice none 0 0)) 22),(o5,.row (List.replicate g.is.length (.slice none 0 0)) 22)]++([]++([]++([]++((ac,.row (c6 g aT aP bi ci (.slice bv (gr g g.ns.length).length eY) z0 cj (g.ns.length+g.is.length) (g.ns.length+g.is.length) a1 (g.ns.length+g.is.length) (g.ns.length+g.is.length) (.slice (some ⟨cb,0,none⟩) g.is.length g.is.length)) 80)::[bM ln (List.replicate g.ns.length 0),bM a1 (List.replicate (g.ns.length+g.is.length) 0),eU cb (List.replicate g.is.length false)]++(R++[(bO,.row (wg t bs cs hE gM) 32),je bF g aT aP bi ci])))))) ahz ?_;refine rg ?_;refine U V.bU ?_;refine U V.bL ?_;refine aV ?_;refine ns ?_;refine ae.block ?_;refine' ae.fy (l':=[(70,.int .i64 ((0):Int)),(3,_),(5,_),(68,_),(69,_)]) ⟨?akY,rfl,rfl,rfl,rfl,trivial⟩ (bV _) ?_;case akY=>exact ec
   refine aJ ?_;refine' ae.cf (fun(cU:Nat×(List Value)×(List Value)×(List Value)×aI×aI×aI)=>match cU with|(i,q0,q1,qZ,x0,x1,xZ)=>⟨[(70,.int .i64 (i:Int))],[(wG,.row (ed ac (.slice jc k jd) t.r t.s (some ⟨qP,0,none⟩) g.is.length g.is.length (.slice (some ⟨nd,0,none⟩) g.is.length g.is.length) (some ⟨o5,0,none⟩) g.is.length g.is.length ln g.ns.length g.ns.length (List.replicate 10 0)) 73),(qP,.row (q0++List.replicate (g.is.length -i) (.slice none 0 0)) 22),(nd,.row (q1++List.replicate (g.is.length -i) (.slice none 0 0)) 22),(o5,.row (qZ++List.replicate (g.is.length -i) (.slice none 0 0)) 22)]++(x0++(x1++(xZ++((ac,.row (c6 g aT aP bi ci (.slice bv (gr g g.ns.length).length eY) z0 cj (g.ns.length+g.is.length) (g.ns.length+g.is.length) a1 (g.ns.length+g.is.length) (g.ns.length+g.is.length) (.slice (some ⟨cb,0,none⟩) g.is.length g.is.length)) 80)::[bM ln (List.replicate g.ns.length 0),bM a1 (List.replicate (g.ns.length+g.is.length) 0),eU cb (List.replicate g.is.length false)]++(R++[(bO,.row (wg t bs cs hE gM) 32),je bF g aT aP bi ci]))))),mA,i<=g.is.length/\lJ nA (t.sum.take i) q0 x0/\lJ nA (t.pl.take i) q1 x1/\lJ k1 ((jl g).take i) qZ xZ,g.is.length -i⟩) ⟨0,[],[],[],[],[],[]⟩ ?al ?cp
   case al=>exact⟨dV _,lJ.nil,lJ.nil,lJ.nil⟩
   case cp=>
    rintro⟨i,q0,q1,qZ,x0,x1,xZ⟩ hinv;try simp only at hinv
    obtain⟨ak,D',Ea,D9⟩:=hinv;refine rg ?_;refine U V.bm ?_;refine ns ?_;refine If (fun KL=>?_) fun KL=>?_
    ·obtain⟨j6,n4,yI,yS,rfl,nM,oy⟩:=nk (by omega);obtain⟨y,yK,ah,xf,rc,rfl⟩:=oy i (by omega) (by omega);rw[ea] at ah;have nM:=xD _ _ nM;have E5:=hw.tj y (cV ah);obtain⟨al1,aob,amk,amK,cO,QP,qY,rfl,amW,sC,anC,Tl⟩:=Oh Ts.s (i:=i) (by omega) (by omega);obtain⟨r3,rG,u3,yR,dI,QQ,Re,rfl,ab',xq,ML,Tm⟩:=Oh Ts.p (i:=i) (by omega) (by omega);rw[ea] at sC xq;have aoG:addrEq QP QP=true:=Tl.addr;have aoH:addrEq QQ QQ=true:=Tm.addr;have a':=(aa.2 i cO y sC ah).1;have bd:=(ab.2 i dI y xq ah).1;have K1:q0.length=i:=by rw[D'.1,fc];omega
     have K2:q1.length=i:=by rw[Ea.1,fc];omega
     have K3:qZ.length=i:=by rw[D9.1,fc,qH];omega
     refine gn ?_;refine aJ ?_;refine ae.block ?_;refine rg ?_;refine U V.az ?_;refine U V.bf ?_;refine U V.qk ?_;refine' W.step rfl (.of (ic rfl rfl rfl (Gf Q g0) rfl rfl rfl fun g6=>?_));refine U V.a7 ?_;refine fF ?_;refine ns ?_;refine ae.draw rfl (by kernel_rfl) (a8:=[.val 0,.val 1,.val 2,.val 3,.val 4,.val 5,.val 6,.val 7,.val 8,.val 9,.val 10,.val 11,.val 12,.val 13,.val 14,.val 15,.val 16,.val 18,.val 19,.val 20,.val 21,.val 22,.cv 17,.c9 [22,21,20,19,18,11,10,9,8,7,6,5,4,3,2,1,0],.cv 23,.val 24,.c9 [11,10,9,8,7,6,5,4,3,2,1,0],.cv 25,.val 26,.c9 [11],.cv 27]) (by kernel_rfl) ?_;refine cm ?_;refine aB rfl V.bL ?_;refine cm ?_;refine aB rfl V.bL ?_;refine cm ?_;refine aB rfl V.bL ?_;refine aB rfl V.az ?_;refine aB rfl V.bf ?_;refine aB rfl V.bL ?_;refine aB rfl V.bU ?_;refine aB rfl V.bL ?_;refine aB rfl V.az ?_;refine aB rfl V.bf ?_;refine aB rfl V.bL ?_;refine a3.IX ?_;refine' gT.G4 rfl rfl rfl rfl rfl rfl rfl rfl rfl (fun x I=>by cases I) Rb (Ra Tl (by omega) (by omega)) ?_;rintro v m' ag hle ⟨Kn,VM,rfl,rfl,rfl⟩;refine gT.c9 g7 ?_;refine' gT.G4 rfl rfl rfl rfl rfl rfl rfl rfl rfl (fun x I=>by rcases ft.1 I with rfl|I;rfl;cases I) Rb (Ra Tm (by omega) (by omega)) ?_;rintro v m' ag hle ⟨Ko,VN,rfl,rfl,rfl⟩;refine gT.IW (fun x I=>CW (f:=fun x=>(x.f,x.bJ)) I) ?_;refine aB rfl V.bf ?_;refine a3.c9 g7 ?_;refine' a3.ij rfl rfl (jY rfl rfl rfl rfl (h' rfl) rfl rfl rfl ?aa ?al ?au ?_);case au=>repeat first|exact .head _ _ _ _|apply dc.tail|apply dc.app
     case al=>exact x6 i (by rw[FK K1];omega)
     case aa=>first|rfl|assumption
     refine aB rfl V.bf ?_;refine a3.c9 g7 ?_;refine' a3.ij rfl rfl (jY rfl rfl rfl rfl (h' rfl) rfl rfl rfl ?aa ?al ?au ?_);case au=>repeat first|exact .head _ _ _ _|apply dc.tail|apply dc.app
     case al=>exact x6 i (by rw[FK K2];omega)
     case aa=>first|rfl|assumption
     refine a3.nil ?_;refine aJ ?_;refine ae.draw rfl (by kernel_rfl) (a8:=[.val 0,.val 1,.val 2,.val 3,.val 4,.val 5,.val 6,.f' 7,.val 8,.c9 [6,5,4,3,2,1,0],.cv 9]) (by kernel_rfl) ?_;refine cm ?_;refine aB rfl V.bL ?_;refine cm ?_;refine aB rfl V.bL ?_;refine a3.makeSlice rfl rfl rfl rfl rfl rfl rfl (hL Q g0) ?bt ?aa ?ab fun Kj=>?_;case bt=>exact cQ
     case aa=>exact cQ
     case ab=>exact cQ
     refine aB rfl V.bf ?_;refine a3.c9 g7 ?_;refine' a3.ij rfl rfl (jY rfl rfl rfl rfl (h' rfl) rfl rfl rfl ?aa ?al ?au ?_);case au=>repeat first|exact .head _ _ _ _|apply dc.tail|apply dc.app
     case al=>exact x6 i (by rw[FK K3];omega)
     case aa=>first|rfl|assumption
     refine a3.nil ?_;rw[yi,FL K1 (by omega),FL K2 (by omega),FL K3 (by omega)];refine ae.gZ (ahA (A:=x0) (B:=x1) (C:=xZ)) ?_;refine rg ?_;refine U V.va ?_;refine U V.az ?_;refine bu ?_;refine e2 ⟨i+1,q0++[.slice (some ⟨Kn,0,none⟩) cO.length cR],q1++[.slice (some ⟨Ko,0,none⟩) dI.length cR],qZ++[.slice (some ⟨Kj,0,none⟩) y.2.toNat y.2.toNat],x0++[iv Kn cO VM],x1++[iv Ko dI VN],xZ++[bM Kj (List.replicate y.2.toNat 0)]⟩ ?_ (hm:=.cons _ (.refl _));exact⟨by omega,D'.take sC ⟨Kn,VM,rfl,rfl⟩,Ea.take xq ⟨Ko,VN,rfl,rfl⟩,D9.take (JP ah) ⟨Kj,by rw[kJ],by rw[kJ];exact r1 (show y.2.toNat<=100 by omega) (by decide),rfl⟩⟩
    ·refine aJ ?_;refine ae.exit ?_;obtain rfl:i=g.is.length:=by omega
     refine ae.gZ (m':=(qP,.row q0 22)::(nd,.row q1 22)::(o5,.row qZ 22)::(([(wG,.row (ed ac (.slice jc k jd) t.r t.s (some ⟨qP,0,none⟩) g.is.length g.is.length (.slice (some ⟨nd,0,none⟩) g.is.length g.is.length) (some ⟨o5,0,none⟩) g.is.length g.is.length ln g.ns.length g.ns.length (List.replicate 10 0)) 73),(ac,.row (c6 g aT aP bi ci (.slice bv (gr g g.ns.length).length eY) z0 cj (g.ns.length+g.is.length) (g.ns.length+g.is.length) a1 (g.ns.length+g.is.length) (g.ns.length+g.is.length) (.slice (some ⟨cb,0,none⟩) g.is.length g.is.length)) 80),bM ln (List.replicate g.ns.length 0),bM a1 (List.replicate (g.ns.length+g.is.length) 0),eU cb (List.replicate g.is.length false)]++(R++(xZ++(x0++x1))))++[(bO,.row (wg t bs cs hE gM) 32),je bF g aT aP bi ci])) (by show List.Perm _ ([(wG,.row (ed ac (.slice jc k jd) t.r t.s (some ⟨qP,0,none⟩) g.is.length g.is.length (.slice (some ⟨nd,0,none⟩) g.is.length g.is.length) (some ⟨o5,0,none⟩) g.is.length g.is.length ln g.ns.length g.ns.length (List.replicate 10 0)) 73),(qP,.row (q0++List.replicate (g.is.length -g.is.length) (.slice none 0 0)) 22),(nd,.row (q1++List.replicate (g.is.length -g.is.length) (.slice none 0 0)) 22),(o5,.row (qZ++List.replicate (g.is.length -g.is.length) (.slice none 0 0)) 22)]++(x0++(x1++(xZ++((ac,.row (c6 g aT aP bi ci (.slice bv (gr g g.ns.length).length eY) z0 cj (g.ns.length+g.is.length) (g.ns.length+g.is.length) a1 (g.ns.length+g.is.length) (g.ns.length+g.is.length) (.slice (some ⟨cb,0,none⟩) g.is.length g.is.length)) 80)::[bM ln (List.replicate g.ns.length 0),bM a1 (List.replicate (g.ns.length+g.is.length) 0),eU cb (List.replicate g.is.length false)]++(R++[(bO,.row (wg t bs cs hE gM) 32),je bF g aT aP bi ci]))))));rw[ta,PU,fb,fb,fb];exact iu) ?_;refine ae.lH rfl fun xl=>?_;refine ae.lH rfl fun qb=>?_
     refine ae.lH rfl fun nl=>?_;rw[fZ (by omega)] at D' Ea;rw[fZ (by rw[qH];omega)] at D9;have K1:q0.length=g.is.length:=by rw[D'.1];omega
     have K2:q1.length=g.is.length:=by rw[Ea.1];omega
     have K3:qZ.length=g.is.length:=by rw[D9.1,qH]
     refine rg ?_;refine aV ?_;refine ns ?_;refine ae.ret ?_;refine'⟨.inr rfl,rfl,_,_,.tmp rfl .nil,oh _ _,?_⟩;have aD:hl (((mA.add qP (q0,22)).add nd (q1,22)).add o5 (qZ,22)) 22 1 (.slice (some ⟨qP,0,none⟩) g.is.length g.is.length) g.is.length q0:=.row (nl _ _ (qb _ _ (aA.mf _ _ _))) (by rw[m7,fZ (by omega)]) (by omega) (fun _=>⟨dH _,r1 i2 (by decide)⟩) (fun _=>rfl);have a5:hl (((mA.add qP (q0,22)).add nd (q1,22)).add o5 (qZ,22)) 22 1 (.slice (some ⟨nd,0,none⟩) g.is.length g.is.length) g.is.length q1:=.row (nl _ _ (aA.mf _ _ _)) (by rw[m7,fZ (by omega)]) (by omega) (fun _=>⟨dH _,r1 i2 (by decide)⟩) (fun _=>rfl);have cC:hl (((mA.add qP (q0,22)).add nd (q1,22)).add o5 (qZ,22)) 22 1 (.slice (some ⟨o5,0,none⟩) g.is.length g.is.length) g.is.length qZ:=.row (aA.mf _ _ _) (by rw[m7,fZ (by omega)]) (by omega) (fun _=>⟨dH _,r1 i2 (by decide)⟩) (fun _=>rfl);have Np:=xl.trans (qb.trans nl);have T3:=gO.trans Np;have Iw:=ev.trans T3;have Bl:g.pl.toNat=k:=by omega
     have Bv:=(HD.mono T3).tA (hR.mono Np);rw[fZ (by rw[Vm dC];exact dH _)] at Bv;refine⟨xD.trans Np,wG,rfl,ac,cj,a1,cb,ln,bv,eY,cells,K5,pU,jc,jd,_,_,_,_,_,_,z0,List.replicate 10 0,List.replicate g.ns.length 0,List.replicate (g.ns.length+g.is.length) 0,List.replicate g.is.length false,jl g,jl g,R,xZ,x0,x1,?_,rfl,kJ,kJ,kJ,by rw[Bl];exact Bv,gi.mono Iw,Iw _ _ sm,fun i x I aH=>?_,gB.mono Iw,AA.zero hw,D9.d2 (by rw[qH];exact cC),AA.zero hw,D'.d2 (by rw[dZ];exact aD),Ea.d2 (by rw[eJ];exact a5)⟩
     ·rw[Bl]
     ·obtain⟨b,c,a',bd⟩:=sq i x I aH
      exact⟨b,c,a',bd.mono Iw⟩
end
end
end Go.Opn
namespace Go.Opn
noncomputable section
theorem ahP{g:bp}{p:Int}{i:Nat}{x:cH}(I:g.ns[i]?=some x)(aH:x.k=1):(i:Int)∈fi g p:=by
 have ak:=(dv.1 I).1;refine rZ _ (m8.2 ⟨i,At.2 ⟨wA.2 ak,?_⟩,rfl⟩);rw[I];simpa using aH
theorem ahS{g:bp}{p:Int}{k:Nat}{y:Int×Int}(ah:g.is[k]?=some y)(au:y.1≠p):(g.ns.length:Int)+k∈fi g p:=by
 have ak:=(dv.1 ah).1;refine lm _ (m8.2 ⟨k,At.2 ⟨wA.2 ak,?_⟩,rfl⟩);rw[ah];simpa using au
theorem Vk{g:bp}{p q:Int}(h:q∈fi g p):(∃(i:Nat) (x:cH),q=(i:Int)/\g.ns[i]?=some x/\x.k=1)\/∃(k:Nat) (y:Int×Int),q=(g.ns.length:Int)+k/\g.is[k]?=some y/\y.1≠p:=by
 rcases lL.1 h with h|h
 ·obtain⟨i,ak,rfl⟩:=m8.1 h;obtain⟨aa,ab⟩:=At.1 ak;have I:=du (wA.1 aa);rw[I] at ab;exact .inl ⟨i,_,rfl,I,by simpa using ab⟩
 ·obtain⟨i,ak,rfl⟩:=m8.1 h;obtain⟨aa,ab⟩:=At.1 ak;have I:=du (wA.1 aa);rw[I] at ab;exact .inr ⟨i,_,rfl,I,by simpa using ab⟩
theorem UK{l:List Nat}{f:Nat->Int}(h:l.Nodup)(aw:∀a b,f a=f b->a=b):(l.map f).Nodup:=by
 unfold List.Nodup at*;rw[List.pairwise_map];exact h.imp fun dR e=>dR (aw _ _ e)
theorem UJ{n:Nat}{q:Nat->Bool}:((List.range n).filter q).Nodup:=List.Pairwise.filter _ List.nodup_range
theorem ahR{g:bp}{p:Int}:(fi g p).Nodup:=by
 unfold fi gr qA;refine CX.2 ⟨UK UJ fun a b e=>Int.ofNat.inj e,UK UJ fun a b e=>by omega,fun a aW b ai e=>?_⟩;obtain⟨i,ak,rfl⟩:=m8.1 aW;obtain⟨k,aH,rfl⟩:=m8.1 ai;have:=wA.1 (At.1 ak).1;have e:(i:Int)=(g.ns.length:Int)+k:=e;omega
theorem ahQ{g:bp}{p:Int}:(fi g p).length<=g.ns.length+g.is.length:=by
 unfold fi gr qA;rw[er,ig,ig];exact Nat.add_le_add (m9 (J9 _ _) (by rw[yr];exact dH _)) (m9 (J9 _ _) (by rw[yr];exact dH _))
theorem ak2{g:bp}{S:List (List Int)}{i:Nat}{x:cH}(I:g.ns[i]?=some x):gb g S (i:Int)=x.ws:=by
 have ak:=(dv.1 I).1;unfold gb;rw[aF (by omega),ea,I]
theorem ak3{g:bp}{S:List (List Int)}{k:Nat}{r:List Int}(ax:S[k]?=some r):gb g S ((g.ns.length:Int)+k)=r:=by
 unfold gb;rw[aq (by omega),show((g.ns.length:Int)+k -g.ns.length).toNat=k by omega,oe,ax];rfl
theorem Rs{g:bp}{W:Int->List Int}{p s q:Int}{cy:List Int}(jR:cy.length=g.ns.length+g.is.length)(cn:q∈fi g p):(m4 cy (fT W (fi g p) s).1)[q.toNat]?=some (kC (fT W (fi g p) s).1 q):=by
 refine V2 (by rw[Hf];exact ahR) (fun y ah=>?_) (by rw[Hf];exact cn);have hm:y.1∈fi g p:=by rw[<-Hf (W:=W) (fi g p) s];exact CW ah
 rcases Vk hm with⟨i,x,e,I,_⟩|⟨k,z,e,bC,_⟩
 ·have:=(dv.1 I).1;omega
 ·have:=(dv.1 bC).1;omega
theorem ak'{ws:List Int}:(∀w∈ws,1<=w/\w<=3)->(ws.length:Int)<=ws.sum/\ws.sum<=3*ws.length:=by
 induction ws with
 |nil=>intro _;exact⟨Ap _,Ap _⟩
 |cons a l aG=>
  intro h;have:=aG fun w hw=>h w (.tail _ hw);have:=h a (.head _);rw[Av,j2];omega
end
end Go.Opn
