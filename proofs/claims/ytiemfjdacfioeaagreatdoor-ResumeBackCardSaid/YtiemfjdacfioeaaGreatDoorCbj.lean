/- A part of the proof of ResumeBack. -/
import Derived.Test.YtiemfjdacfioeaaGreatDoorCbi
set_option maxRecDepth 100000
set_option maxHeartbeats 8000000
set_option linter.unusedVariables false
set_option linter.unusedSimpArgs false
namespace Go.Opn
noncomputable section
open Go.Cre Go.RowKit Go.Proofs
def Jx(p:en)(cs:List Value):Prop:=cs=[.int .i64 p.b3,.int .i64 p.many,.int .i64 p.fL]
def Ju(pl:Nat)(bX:List en):Prop:=∀p∈bX,-1<=p.b3/\p.b3<pl/\2<=p.many/\p.many<=3/\0<=p.fL/\p.fL<=15
theorem yM{p:en}{q:Nat}(bD:0<=p.fL)(aa:p.fL<=15):IntKind.i64.wrap (BitVec.ofInt IntKind.i64.bits (p.fL.fdiv (2 ^ ((q:Int)).toNat)) &&& BitVec.ofInt IntKind.i64.bits 1).toNat=1↔LU p q=true:=by
 obtain⟨m,hm⟩:∃m:Nat,p.fL=(m:Int):=⟨p.fL.toNat,by omega⟩;unfold LU;rw[hm,cy,anD];have hle:m / 2 ^ q<=m:=Nat.div_le_self _ _;have e:(m:Int) / 2 ^ q=((m / 2 ^ q:Nat):Int):=by simp
 rw[e];generalize m / 2 ^ q=w at hle;rw[aa' (by omega) (by omega)];simp
theorem QO{α:Type}{x y z:α}{u v w:List α}:(x::y::z::(u++(v++w))).Perm (v++(x::y::z::(u++w))):=by
 have aa:(u++(v++w)).Perm (v++(u++w)):=by
  rw[<-gH,<-gH];exact List.perm_append_comm.append_right w
 exact(List.Perm.cons x (List.Perm.cons y (List.Perm.cons z aa))).trans LB
theorem alX{α:Type}{x y z:α}{u v w:List α}:((y::z::(u++(v++w)))++[x]).Perm (v++(x::y::z::(u++w))):=
 (hR (l₂:=[x])).trans QO
theorem Lz{α:Type}{x y:α}{u v M:List α}:(M++(x::y::(u++v))).Perm (x::y::(u++(v++M))):=by
 refine(hR (l₁:=M)).trans ?_;show(x::y::((u++v)++M)).Perm _;rw[gH]
theorem QP{α:Type}{x y z:α}{u v M:List α}:(z::(M++(x::y::(u++v)))).Perm (v++(z::(M++(x::y::u)))):=by
 refine List.Perm.trans (List.Perm.cons z ?_) B8;refine(Aq M (show(x::y::(u++v)).Perm (v++(x::y::u)) from hR (l₁:=x::y::u))).trans ?_;rw[<-gH,<-gH];exact List.perm_append_comm.append_right _
theorem alY{α:Type}{x y z:α}{u v M:List α}:((x::y::(u++(v++M)))++[z]).Perm (v++(z::(M++(x::y::u)))):=by
 refine(hR (l₂:=[z])).trans ?_;exact(List.Perm.cons z Lz.symm).trans QP
theorem X8{α:Type}{x y z:α}{u v M:List α}:(z::(M++(x::y::(u++v)))).Perm (u++(z::(M++(x::y::v)))):=
 (List.Perm.cons z (Aq M (List.Perm.cons x (List.Perm.cons y hR)))).trans QP
theorem alZ{α:Type}{x y z:α}{u v M:List α}:((x::y::(u++(v++M)))++[z]).Perm (u++(z::(M++(x::y::v)))):=by
 refine(hR (l₂:=[z])).trans ?_;exact(List.Perm.cons z Lz.symm).trans X8
theorem X9{α:Type}{x y a b n:α}{u w:List α}:(x::y::a::b::(u++([n]++w))).Perm (n::(x::y::a::b::(u++w))):=by
 have h:(u++([n]++w)).Perm (n::(u++w)):=wq;refine((((h.cons b).cons a).cons y).cons x).trans ?_;exact(wq (l₁:=[x,y,a,b])).trans (.refl _)
section
variable (Q:dI Tryz.prog)(g0:Nat)(am ad:Nat)(s:Bool)(aY:Int)(pl:Nat)(c1:Option Addr)(cl:Nat)(l:List Int)(bX:List en)(r8:Option Addr)(nB:Nat)
def Mm(lv:List en)(L:Nat):Prop:=
 ∀(J:aI) (seen:List (List Int)) (σ:eb) (a:Nat) (fp fm e8:Value) (ah gl bh:aO) (bs:Option Addr) (cs:Nat),
  dG J (.slice c1 l.length cl) l->fa J 88 3 Jx (.slice r8 bX.length nB) bX->jK aY L σ->1<=σ.cG->seen.length=pl->(∀x∈seen,x.length=L)->fa J 22 1 (jI J) (.slice bs seen.length cs) seen->js J σ a l fp fm e8 ah gl bh->
  Fn (bb Q g0) 31 [.pointer (some ⟨am,0,none⟩),.int .i64 (L:Int),.slice bs seen.length cs] (iV am ad (.slice r8 bX.length nB) aY s pl c1 cl l σ.cG a fp fm e8 ah gl bh) J
   (fun u m' ag=>J.le ag/\u=.int .i64 (σ.ns.length:Int)/\∃bY o7 EG o0 vR sM ur,m'=iV am ad (.slice r8 bX.length nB) aY s pl c1 cl l (lR aY pl lv L seen σ).cG bY o7 EG o0 vR sM ur/\js ag (lR aY pl lv L seen σ) bY l o7 EG o0 vR sM ur)
end
section
variable {Q:dI Tryz.prog}{g0:Nat}{am ad:Nat}{s:Bool}{aY:Int}{pl:Nat}{c1:Option Addr}{cl:Nat}{l:List Int}{bX:List en}{r8:Option Addr}{nB:Nat}
theorem akx{J:aI}{lv fp fm e8:Value}{ah gl bh:aO}{hq:Int}{a:Nat}{σ:eb}{info:Nat}{b3:Int}(h:js J σ a l fp fm e8 ah gl bh)(lF:σ.is.length=σ.vs.length)(ao:0<=b3->info<σ.is.length)(aP:0<σ.ns.length)(cr:σ.ns.length<=100000)(oT:σ.is.length<=100000):
 Fn (bb Q g0) 52 [.pointer (some ⟨am,0,none⟩),.int .i64 (info:Int),.int .i64 b3] (iV am ad lv aY s pl c1 cl l hq a fp fm e8 ah gl bh) J (fun u m' ag=>J=ag/\∃o7 o0,m'=iV am ad lv aY s pl c1 cl l hq a o7 fm o0 ah gl bh/\js J (jf (info:Int) b3 σ) a l o7 fm o0 ah gl bh):=by
 by_cases aw:b3<0
 ·refine(adS (z:=false) aw _).perm ?_
  rintro v m' ag ⟨rfl,rfl⟩;refine⟨_,.refl _,rfl,_,_,rfl,?_⟩;have e:jf (info:Int) b3 σ=σ:=by unfold jf;rw[aE (.inl aw)]
  rw[e];exact h
 ·exact aky h lF (ao (by omega)) aP cr oT
theorem T4{i p:Int}{σ:eb}:(jf i p σ).ns=σ.ns:=by unfold jf;split;rfl;split<;>rfl
theorem T5{i p:Int}{σ:eb}:(jf i p σ).cG=σ.cG:=by unfold jf;split;rfl;split<;>rfl
theorem aj6{p:en}{bK:eb}{ws:List Int}{i:Nat}(h:ws.length<=i):(qw p bK ws).length<=i+1:=by
 unfold qw;split
 ·rw[dv];exact Nat.succ_le_succ h
 ·omega
theorem alW{α:Type}{x y a b n:α}{u w:List α}:((a::b::(u++([n]++w)))++[x,y]).Perm (n::x::y::a::b::(u++w)):=
 (hR (l₂:=[x,y])).trans X9
theorem LI{full new:List Value}{k n sz:Nat}(h:n*sz<=full.length)(aU:k<n)(aP:new.length=sz):n*sz<=(full.take (k*sz)++new++full.drop (k*sz+new.length)).length:=by
 have:k*sz+sz<=n*sz:=by rw[<-pe];exact nt _ aU
 rw[dv,dv,h1,lO,mf (by omega)];omega
theorem Th{lv:List en}{L:Nat}(hE:l.length<=1000000)(dO:pl<=4)(zd:aY<=1000)(j5:Ju pl bX)(Of:bX.length<=100)(aZ:bX.drop L=lv)(bT:L<=bX.length)
 (D':∀p kb,lv=p::kb->Mm Q g0 am ad s aY pl c1 cl l bX r8 nB kb (L+1)):Mm Q g0 am ad s aY pl c1 cl l bX r8 nB lv L:=by
 intro J seen σ a fp fm e8 ah gl bh bs cs av OL e2 asN k' KP Wg dD;have HI:=e2.sum;have lF:=e2.is;have Ww:=e2.uN;obtain⟨⟨bv,ac6,rfl,Cc⟩,⟨aT,aqZ,rfl,gn⟩,⟨aL,aco,rfl,fW⟩⟩:=dD.GH;obtain⟨aQ,aP,tT⟩:=dD.n;have sV:addrEq bs bs=true:=Wg.addr;have atS:addrEq r8 r8=true:=OL.addr;have ah6:(kS seen σ).ns.length=σ.ns.length+1:=by show(σ.ns++_).length=_;simp
 have VR:σ.ns.length<(kS seen σ).ns.length:=by omega
 have Pn:(kS seen σ).ns.length<=100000:=by omega
 obtain⟨_,DX⟩:=Wg.at;obtain⟨_,aht⟩:=OL.at;refine Fn.cH (cQ Tryz.func31) rfl rfl fun H=>?_;refine rg ?_;refine I V.aA ?_;refine bj ?_;refine aM ?_;refine I V.aF ?_;refine aM ?_;refine bj ?_;refine aM ?_;refine I V.aF ?_;refine I V.bx ?_;refine aM ?_;refine dN ?_;refine bj ?_;refine aM ?_;refine I V.aF ?_;refine I V.jL ?_;refine jw (Q4 Q g0) fun Ax=>?_;refine' W.step rfl (.of (RF rfl rfl rfl rfl rfl rfl (Q4 Q g0) (aom Q g0) (fun i q=>by cases q) ?cw ?hm ?U ?cr ?cc ?ba ?av fun Z5 xQ xf=>?_));case cw=>assumption
 case hm=>exact QO
 case U=>exact hP
 case cr=>first|rfl|(simp;done)|(simp;omega)
 case cc=>first|rfl|exact hg _
 case ba=>exact cf
 case av=>exact cf
 have lV:=dD.push tT xf seen;obtain⟨_,⟨FV,Ge,rfl,atT⟩,_⟩:=lV.GH;refine aM ?_;refine dN ?_;refine a8 ?_;refine ab.eF (m':=iV am ad (.slice r8 bX.length nB) aY s pl c1 cl l (σ.cG -1) a (.slice bv σ.vs.length ac6) (.slice FV (kS seen σ).ns.length Ge) (.slice aL σ.is.length aco) ah xQ bh) (iy:=[(Ax,_)]) alX ?_;refine rg ?_;refine aM ?_;refine I V.aF ?_;refine I V.bP ?_;refine I V.a1 ?_;refine I V.ah ?_;refine dq 48 (fun N0=>?_) fun N0=>?_
 ·obtain rfl:lv=[]:=by rw[<-aZ];exact CL (by omega)
  have Ok:=lV;refine al ?_;refine al ?_;refine al ?_;refine al ?_;refine W.oL rfl rfl rfl rfl rfl ?_;refine al ?_;refine I V.aV ?_;refine ns ?_;refine ab.Nd rfl ?_;refine rg ?_;refine aM ?_;refine' W.step rfl (Exec.call rfl rfl rfl rfl rfl rfl rfl (bh:=iV am ad _ aY s pl c1 cl l (σ.cG -1) _ _ _ _ _ _ _) (bW:=[]) (by rw[gg]) trivial (Qi av hE Ok (by omega) VR Pn) ?_);rintro v m' dQ ck ⟨_,bY,sM,rfl,tN⟩;rw[gg];refine bj ?_;refine aM ?_;refine ns ?_;refine ab.ret ?_;refine'⟨.inr rfl,rfl,_,_,.tmp rfl .nil,?kx,?_⟩;case kx=>first|(have c:=AF;exact pZ _ _)|exact bA _
  first
   |exact⟨ck,rfl,_,_,_,_,_,_,_,rfl,tN⟩
   |(have c:=hv
     have j7:=wJ (most:=aY) (pl:=pl) (p:=p) (lv:=kb) (L:=L) (seen:=seen) (σ:=σ);rw[ap (show ¬eh σ.l 8=1 from q5),ap (by omega),zb] at j7;have Bk:lR aY pl (p::kb) L seen σ={bK with ns:=bK.ns.set σ.ns.length (sO p L seen σ ak ws)}:=j7;rw[Bk];subst qg;have bN:0+((σ.ns.length:Int)).toNat*6=σ.ns.length*6:=by omega
     obtain⟨oC,tS⟩:∃oC:List Value,oC=(fn.take (σ.ns.length*6)++[Value.int .i64 hv,Value.int .i64 iL,Value.int .i64 i0,Value.slice dJ ak.length hb,Value.slice r' ws.length sf,Value.slice none 0 0]++fn.drop (σ.ns.length*6+6)).take (bK.ns.length*6):=⟨_,rfl⟩;refine⟨(dr.trans ku).trans l3,rfl,_,_,_,_,_,_,_,rfl,lW.le,lW.pk,lW.v,⟨oC,?_,?_⟩,lW.i,lW.uH⟩
     ·show hk _ _ _ (bK.ns.set _ _).length _ _
      rw[gu,bN,tS];exact hk.of (LI xx zg rfl)
     ·show hr 6 _ _ (bK.ns.set _ _)
      rw[tS];refine hr.put (R':=fun _=>nu pW) Kw xx (fun _ _ _ q=>q) zg rfl ?_;rw[d'];exact⟨_,_,_,_,_,_,rfl,⟨3,KS.mono l3⟩,⟨3,KR⟩,⟨3,.nil⟩⟩)
 ·obtain⟨p,kb,rfl⟩:∃p kb,lv=p::kb:=by
   cases lv with
   |nil=>have:=List.drop_eq_nil_iff.1 aZ;omega
   |cons p r=>exact⟨p,r,rfl⟩
  obtain⟨oN,A6,xl⟩:=Nt aZ;have mv:=j5 p (cd A6);refine aW V.ah ?_;refine aW V.o2 ?_;refine aW V.bc ?_;refine aW V.aF ?_;refine' W.rb rfl rfl rfl (Exec.call rfl rfl rfl rfl rfl rfl rfl (bh:=iV am ad _ aY s pl c1 cl l (σ.cG -1) _ _ _ _ _ _ _) (bW:=[]) (by rw[gg]) trivial (Xe av hE lV (by decide)) ?_);rintro v m' ag hle ⟨rfl,rfl,rfl⟩;rw[gg];refine aW V.a1 ?_;refine I V.aV ?_;refine ns ?_;refine If (fun q5=>?_) fun q5=>?_
  ·have Ok:=lV.next 8;refine rg ?_;refine aM ?_;refine' W.step rfl (Exec.call rfl rfl rfl rfl rfl rfl rfl (bh:=iV am ad _ aY s pl c1 cl l (σ.cG -1) _ _ _ _ _ _ _) (bW:=[]) (by rw[gg]) trivial (Qi av hE Ok (by omega) VR Pn) ?_);rintro v m' dQ ck ⟨_,bY,sM,rfl,tN⟩;rw[gg];refine bj ?_;refine aM ?_;refine ns ?_;refine ab.ret ?_;refine'⟨.inr rfl,rfl,_,_,.tmp rfl .nil,?kx,?_⟩;case kx=>first|(have c:=AF;exact pZ _ _)|exact bA _
   first
    |(have c:=q5
      have j7:=wJ (most:=aY) (pl:=pl) (p:=p) (lv:=kb) (L:=L) (seen:=seen) (σ:=σ);rw[aE (show eh σ.l 8=1 from q5)] at j7;rw[j7];exact⟨ck,rfl,_,_,_,_,_,_,_,rfl,tN⟩)
    |exact⟨ck,rfl,_,_,_,_,_,_,_,rfl,tN⟩
    |(have c:=hv
      have j7:=wJ (most:=aY) (pl:=pl) (p:=p) (lv:=kb) (L:=L) (seen:=seen) (σ:=σ);rw[ap (show ¬eh σ.l 8=1 from q5),ap (by omega),zb] at j7;have Bk:lR aY pl (p::kb) L seen σ={bK with ns:=bK.ns.set σ.ns.length (sO p L seen σ ak ws)}:=j7;rw[Bk];subst qg;have bN:0+((σ.ns.length:Int)).toNat*6=σ.ns.length*6:=by omega
      obtain⟨oC,tS⟩:∃oC:List Value,oC=(fn.take (σ.ns.length*6)++[Value.int .i64 hv,Value.int .i64 iL,Value.int .i64 i0,Value.slice dJ ak.length hb,Value.slice r' ws.length sf,Value.slice none 0 0]++fn.drop (σ.ns.length*6+6)).take (bK.ns.length*6):=⟨_,rfl⟩;refine⟨(dr.trans ku).trans l3,rfl,_,_,_,_,_,_,_,rfl,lW.le,lW.pk,lW.v,⟨oC,?_,?_⟩,lW.i,lW.uH⟩
      ·show hk _ _ _ (bK.ns.set _ _).length _ _
       rw[gu,bN,tS];exact hk.of (LI xx zg rfl)
      ·show hr 6 _ _ (bK.ns.set _ _)
       rw[tS];refine hr.put (R':=fun _=>nu pW) Kw xx (fun _ _ _ q=>q) zg rfl ?_;rw[d'];exact⟨_,_,_,_,_,_,rfl,⟨3,KS.mono l3⟩,⟨3,KR⟩,⟨3,.nil⟩⟩)
  ·obtain⟨ani,Q2,aud,aue,YL,anh,YM⟩:=anJ (p:=p) (seen:=seen) e2 mv.2.2.1 mv.2.2.2.1;have auf:(hh p L seen σ).ns.length=σ.ns.length+1:=by rw[ani];simp
   have anj:=YL.is;have aug:=YL.uN;obtain⟨yE,zH,aqW,art,rfl,arN,ahH⟩:=aht (by omega);obtain⟨iL,aq4,ry,ar',aso,Vv⟩:=ahH L (by omega) (by omega);rw[cy] at ry;obtain rfl:p=iL:=by rw[A6] at ry;injection ry
   unfold Jx at Vv;subst Vv;refine nf ?_;refine aM ?_;refine I V.aF ?_;refine I V.ah ?_;refine I V.aX ?_;refine I V.c8 ?_;refine' W.step rfl (.of (e4 rfl rfl rfl (apQ Q g0) rfl rfl rfl fun hs=>?_));refine dN ?_;refine bj ?_;refine I V.bc ?_;refine I V.aF ?_;refine aM ?_;refine bj ?_;refine I V.bc ?_;refine I V.aF ?_;refine I V.a1 ?_;refine a8 ?_;refine fT [9,10,71,0,1,2,7,8] ?_;refine aj ?_;refine' ab.yT (α:=(Nat)×(Value)×(Value)×(aO)×(aO)) 3 (fun(bH:(Nat)×(Value)×(Value)×(aO)×(aO))=>match bH with|(a2,Ae,BI,vS,xP)=>[(9,.int .i64 (iU p L seen σ)),(10,.int .i64 (oZ p L seen σ:Int))]) (fun(bH:(Nat)×(Value)×(Value)×(aO)×(aO))=>match bH with|(a2,Ae,BI,vS,xP)=>(hs,.row [.int .i64 p.b3,.int .i64 p.many,.int .i64 p.fL] 88)::iV am ad (.slice (some ⟨yE,zH,none⟩) bX.length nB) aY s pl c1 cl l (σ.cG -1) a2 Ae (.slice FV (kS seen σ).ns.length Ge) BI vS xQ xP) (fun(bH:(Nat)×(Value)×(Value)×(aO)×(aO))=>match bH with|(a2,Ae,BI,vS,xP)=>J) (fun(bH:(Nat)×(Value)×(Value)×(aO)×(aO))=>match bH with|(a2,Ae,BI,vS,xP)=>js J (hh p L seen σ) a2 l Ae (.slice FV (kS seen σ).ns.length Ge) BI vS xQ xP) ?acx ?adz
   case acx=>
    refine If (fun M1=>?_) fun M1=>?_
    ·have PL:hh p L seen σ=(eC p L (e' p seen) (fF seen σ)).1:=by unfold hh;rw[ap (by omega)]
     have VG:oZ p L seen σ=(eC p L (e' p seen) (fF seen σ)).2:=by unfold oZ;rw[ap (by omega)]
     obtain⟨abg,alI,acF,aea,rfl,Oc,O0⟩:=DX (by omega);obtain⟨sp,vh,lb,vC,l2,abw,ac3,rfl,zk⟩:=O0 p.b3 (by omega) (by omega);have sC:=l2 0 _ (by decide) rfl;obtain rfl:sp=e' p seen:=by
        have:=YR k' (by omega:0<=p.b3) mv.2.1;rw[this] at lb;injection lb with lb;exact lb.symm
     have HG:(e' p seen).length<=1000:=by rw[KP _ (cd lb)];omega
     obtain⟨y,ai,sI⟩:=YM (by omega);have ahN:=eT ai;refine aj ?_;refine ab.draw rfl (by kernel_rfl) (bf:=[.val 0,.val 1,.val 2,.val 3,.val 4,.val 5,.val 6,.val 7,.val 8,.bV 9,.val 10]) (by kernel_rfl) ?_;refine cq ?_;refine an rfl V.aF ?_;refine cq ?_;refine an rfl V.aF ?_;refine an rfl V.aX ?_;refine an rfl V.aF ?_;refine' a7.call rfl rfl rfl rfl rfl rfl rfl rfl rfl rfl (bh:=iV am ad _ aY s pl c1 cl l (σ.cG -1) _ _ _ _ _ _ _) (bW:=[(hs,_)]) (hR (l₂:=[_])) trivial (akz (σ:=fF seen σ) (p:=p) (L:=L) av hE (lV.next 8) lF (by show σ.vs.length<=_;omega) zk HG) ?_;rintro v m' ag hle ⟨rfl,rfl,a2,Ae,BI,vS,xP,rfl,tM⟩;refine an rfl V.aA ?_;refine a7.nil ?_;refine ab.gB (hR (l₁:=[_])) ?_;rw[<-VG];rw[<-PL] at tM;obtain⟨acp,pv,ag5⟩:=tM.i;obtain⟨ha,y3,iB,rfl,rfl,OO,KH⟩:=pv.row (by omega);obtain⟨iM,aq6,hf,asb,ahU,rfl⟩:=ag5.at OO ahN;obtain rfl:y=iM:=by rw[ai] at hf;injection hf
     have asr:=ahU 1 _ (by decide) rfl;refine rg ?_;refine aM ?_;refine I V.aF ?_;refine I V.ah ?_;refine I V.aX ?_;refine I V.bc ?_;refine I V.aF ?_;refine I V.aA ?_;refine a8 ?_;refine'⟨⟨a2,Ae,(.slice (some ⟨ha,0,none⟩) (hh p L seen σ).is.length c9),vS,[(ha,.opn y3 77 iB 0)]⟩,_,?hinv,rfl,⟨?m9,?m10,rfl,rfl,rfl,rfl,rfl,trivial⟩,rD,rfl⟩;case m9=>exact bS
     case m10=>exact bS
     case hinv=>exact tM
    ·have PL:hh p L seen σ=fF seen σ:=by unfold hh;rw[aE (by omega)]
     have asw:iU p L seen σ=p.many:=by unfold iU;rw[aE (by omega)]
     have VG:oZ p L seen σ=0:=by unfold oZ;rw[aE (by omega)]
     refine c5 ?_;refine'⟨⟨kK l a 8,_,_,ah,bh⟩,_,?hinv,rfl,⟨?m9,?m10,rfl,rfl,rfl,rfl,rfl,trivial⟩,rD,rfl⟩;case m9=>exact bS
     case m10=>exact bS
     case hinv=>rw[PL];exact lV.next 8
   case adz=>
    rintro⟨a2,Ae,BI,vS,xP⟩ hinv;try simp only at hinv
    have Ol:=hinv;obtain⟨⟨wK,wU,rfl,amH⟩,_,⟨S8,TO,rfl,atO⟩⟩:=Ol.GH;refine aj ?_;refine ab.draw rfl (by kernel_rfl) (bf:=[.val 0,.val 1,.val 2,.val 3,.val 4,.val 5,.val 6,.val 7,.val 8,.val 9,.val 10,.val 11,.val 12,.val 13]) (by kernel_rfl) ?_;refine an rfl V.ah ?_;refine an rfl V.bx ?_;refine cq ?_;refine an rfl V.aF ?_;refine an rfl V.bx ?_;refine an rfl V.ah ?_;refine an rfl V.bx ?_;refine cq ?_;refine an rfl V.aF ?_;refine an rfl V.a1 ?_;refine a7.nil ?_;refine aj ?_;refine If (fun AF=>?_) fun AF=>?_
    ·refine rg ?_;refine aM ?_;refine I V.aF ?_;refine' W.step rfl (Exec.call rfl rfl rfl rfl rfl rfl rfl (bh:=iV am ad _ aY s pl c1 cl l (σ.cG -1) _ _ _ _ _ _ _) (bW:=[(hs,_)]) (hR (l₂:=[_])) trivial (akx Ol anj (fun q=>by obtain⟨y,ai,_⟩:=YM q;exact eT ai) (by omega) (by omega) (by omega)) ?_);rintro v m' ag hle ⟨rfl,L9,K5,rfl,xd⟩;refine bj ?_;refine aM ?_;refine' W.step rfl (Exec.call rfl rfl rfl rfl rfl rfl rfl (bh:=iV am ad _ aY s pl c1 cl l (σ.cG -1) _ _ _ _ _ _ _) (bW:=[(hs,_)]) (.refl _) trivial (Qi av hE xd (by omega) (by rw[T4];omega) (by rw[T4];omega)) ?_);rintro v m' dQ ck ⟨_,bY,sM,rfl,tN⟩;refine bj ?_;refine aM ?_;refine ns ?_;refine ab.ret ?_;refine'⟨.inr rfl,rfl,_,_,.tmp rfl .nil,?kx,?_⟩;case kx=>first|(have c:=AF;exact pZ _ _)|exact bA _
     first
        |(have c:=AF
          have j7:=wJ (most:=aY) (pl:=pl) (p:=p) (lv:=kb) (L:=L) (seen:=seen) (σ:=σ);rw[ap (show ¬eh σ.l 8=1 from q5),aE (by omega)] at j7;have xC:(vn pl σ.ns.length (jf (oZ p L seen σ) p.b3 (hh p L seen σ))).cG=σ.cG -1:=by show(jf _ _ _).cG=_;rw[T5,Q2]
          rw[j7,xC];exact⟨ck,rfl,_,_,_,_,_,_,_,rfl,tN⟩)
        |(have c:=q5
          have j7:=wJ (most:=aY) (pl:=pl) (p:=p) (lv:=kb) (L:=L) (seen:=seen) (σ:=σ);rw[aE (show eh σ.l 8=1 from q5)] at j7;rw[j7];exact⟨ck,rfl,_,_,_,_,_,_,_,rfl,tN⟩)
        |exact⟨ck,rfl,_,_,_,_,_,_,_,rfl,tN⟩
        |(have c:=hv
          have j7:=wJ (most:=aY) (pl:=pl) (p:=p) (lv:=kb) (L:=L) (seen:=seen) (σ:=σ);rw[ap (show ¬eh σ.l 8=1 from q5),ap (by omega),zb] at j7;have Bk:lR aY pl (p::kb) L seen σ={bK with ns:=bK.ns.set σ.ns.length (sO p L seen σ ak ws)}:=j7;rw[Bk];subst qg;have bN:0+((σ.ns.length:Int)).toNat*6=σ.ns.length*6:=by omega
          obtain⟨oC,tS⟩:∃oC:List Value,oC=(fn.take (σ.ns.length*6)++[Value.int .i64 hv,Value.int .i64 iL,Value.int .i64 i0,Value.slice dJ ak.length hb,Value.slice r' ws.length sf,Value.slice none 0 0]++fn.drop (σ.ns.length*6+6)).take (bK.ns.length*6):=⟨_,rfl⟩;refine⟨(dr.trans ku).trans l3,rfl,_,_,_,_,_,_,_,rfl,lW.le,lW.pk,lW.v,⟨oC,?_,?_⟩,lW.i,lW.uH⟩
          ·show hk _ _ _ (bK.ns.set _ _).length _ _
           rw[gu,bN,tS];exact hk.of (LI xx zg rfl)
          ·show hr 6 _ _ (bK.ns.set _ _)
           rw[tS];refine hr.put (R':=fun _=>nu pW) Kw xx (fun _ _ _ q=>q) zg rfl ?_;rw[d'];exact⟨_,_,_,_,_,_,rfl,⟨3,KS.mono l3⟩,⟨3,KR⟩,⟨3,.nil⟩⟩)
    ·refine aj ?_;refine ab.skip ?_;refine rg ?_;refine aM ?_;refine I V.aF ?_;refine I V.ah ?_;refine I V.bx ?_;refine aM ?_;refine dN ?_;refine a8 ?_;rw[<-Q2];refine rg ?_;refine I V.jL ?_;refine' W.step rfl (.of (e4 rfl rfl rfl (om Q g0) rfl rfl rfl fun kJ=>?_));refine dN ?_;refine bj ?_;refine I V.bc ?_;refine I V.aF ?_;refine I V.a1 ?_;refine a8 ?_;refine fT [10,126,0,1,2,7,8,9,11] ?_;refine aj ?_;refine' ab.yT (α:=(Int)×(Int)×(Int)) 2 (fun(bH:(Int)×(Int)×(Int))=>match bH with|(hv,iL,i0)=>[]) (fun(bH:(Int)×(Int)×(Int))=>match bH with|(hv,iL,i0)=>(kJ,.row [.int .i64 hv,.int .i64 iL,.int .i64 i0,.slice none 0 0,.slice none 0 0,.slice none 0 0] 45)::(hs,.row [.int .i64 p.b3,.int .i64 p.many,.int .i64 p.fL] 88)::iV am ad (.slice (some ⟨yE,zH,none⟩) bX.length nB) aY s pl c1 cl l ((hh p L seen σ).cG+iU p L seen σ) a2 (.slice wK (hh p L seen σ).vs.length wU) (.slice FV (kS seen σ).ns.length Ge) (.slice S8 (hh p L seen σ).is.length TO) vS xQ xP) (fun(bH:(Int)×(Int)×(Int))=>match bH with|(hv,iL,i0)=>J) (fun(bH:(Int)×(Int)×(Int))=>match bH with|(hv,iL,i0)=>∀ak ws,sO p L seen σ ak ws=⟨hv,iL,i0,ak,ws,[]⟩) ?acq ?adt
     case acq=>
      refine If (fun abK=>?_) fun abK=>?_
      ·
        refine rg ?_;refine I V.bc ?_;refine I V.aF ?_;refine aM ?_;refine dN ?_;refine a8 ?_;refine'⟨⟨2,p.b3,(oZ p L seen σ:Int)⟩,_,?hinv,rfl,⟨rfl,rfl,rfl,rfl,rfl,rfl,rfl,trivial⟩,rD,rfl⟩;case hinv=>intro ak ws;unfold sO;rw[ap (by omega)]
      ·
        refine aj ?_;refine ab.skip ?_;refine'⟨⟨1,0,0⟩,_,?hinv,rfl,⟨rfl,rfl,rfl,rfl,rfl,rfl,rfl,trivial⟩,rD,rfl⟩;case hinv=>intro ak ws;unfold sO;rw[aE (by omega)]
     case adt=>
      rintro⟨hv,iL,i0⟩ hinv;try simp only at hinv
      have d':=hinv;refine rg ?_;refine I V.aA ?_;refine ns ?_;refine ab.block ?_;refine' ab.c2 (l':=[(12,.int .i64 ((0):Int)),(0,_),(1,_),(2,_),(7,_),(8,_),(9,_),(11,_)]) ⟨?uO,rfl,rfl,rfl,rfl,rfl,rfl,rfl,trivial⟩ (bA _) ?_;case uO=>exact bS
      refine aj ?_;refine' ab.dF (fun(bH:Nat×eb×Nat×Value×Value×Value×aO×aO×aO×(List Int)×(List Int)×Value×Value×aO×aO×aI)=>match bH with|(i,bK,a3,L9,QB,K5,zC,BR,zB,ak,ws,RA,Rz,qx,Ig,dY)=>⟨[(12,.int .i64 (i:Int))],(kJ,.row [.int .i64 hv,.int .i64 iL,.int .i64 i0,RA,Rz,.slice none 0 0] 45)::(hs,.row [.int .i64 p.b3,.int .i64 p.many,.int .i64 p.fL] 88)::(qx++(Ig++iV am ad (.slice (some ⟨yE,zH,none⟩) bX.length nB) aY s pl c1 cl l (bK.cG) a3 L9 QB K5 zC BR zB)),dY,i<=(iU p L seen σ).toNat/\kids (lR aY pl kb (L+1)) p seen (iU p L seen σ).toNat 0 {hh p L seen σ with cG:=(hh p L seen σ).cG+iU p L seen σ} [] []=kids (lR aY pl kb (L+1)) p seen ((iU p L seen σ).toNat -i) i bK ak ws/\jK aY (L+1) bK/\(((iU p L seen σ).toNat -i:Nat):Int)<=bK.cG/\J.le dY/\js dY bK a3 l L9 QB K5 zC BR zB/\ak.length=i/\ws.length<=i/\Acc 3 1 RA ak.length (ak.map (Value.int .i64)) qx/\Acc 3 1 Rz ws.length (ws.map (Value.int .i64)) Ig/\σ.ns.length<bK.ns.length,(iU p L seen σ).toNat -i⟩) ⟨0,{hh p L seen σ with cG:=(hh p L seen σ).cG+iU p L seen σ},a2,.slice wK (hh p L seen σ).vs.length wU,.slice FV (kS seen σ).ns.length Ge,.slice S8 (hh p L seen σ).is.length TO,vS,xQ,xP,[],[],.slice none 0 0,.slice none 0 0,[],[],J⟩ ?af ?bE
      case af=>refine⟨cB _,rfl,anh (by omega),by show _<=(hh p L seen σ).cG+_;omega,aI.le.refl _,Ol.cG _,rfl,cZ _,.nil,.nil,by show _<(hh p L seen σ).ns.length;omega⟩
      case bE=>
        rintro⟨i,bK,a3,L9,QB,K5,zC,BR,zB,ak,ws,RA,Rz,qx,Ig,dY⟩ hinv;try simp only at hinv
        obtain⟨ao,zb,pz,asO,dr,xd,e0,ajt,Vq,Ov,zg⟩:=hinv;have as6:=pz.sum;have as4:=pz.is;obtain⟨⟨F4,Gh,rfl,atZ⟩,⟨JL,JX,rfl,atU⟩,⟨FT,Gb,rfl,atP⟩⟩:=xd.GH;obtain⟨dJ,hb,rfl,at4⟩:=Vq.iJ;obtain⟨r',sf,rfl,at3⟩:=Ov.iJ;refine rg ?_;refine aM ?_;refine I V.a1 ?_;refine ns ?_;refine If (fun abL=>?_) fun abL=>?_
        ·refine aj ?_;refine ab.skip ?_;refine aj ?_;refine ab.block ?_;refine rg ?_;refine I V.bc ?_;refine I V.aF ?_;refine I V.a1 ?_;refine a8 ?_;refine fT [138,0,1,2,7,8,9,11,12] ?_;refine aj ?_;refine' ab.yT (α:=(Nat)×(Value)×(aO)) 1 (fun(bH:(Nat)×(Value)×(aO))=>match bH with|(a4,E',us)=>[]) (fun(bH:(Nat)×(Value)×(aO))=>match bH with|(a4,E',us)=>(kJ,.row [.int .i64 hv,.int .i64 iL,.int .i64 i0,(.slice dJ ak.length hb),E',.slice none 0 0] 45)::(hs,.row [.int .i64 p.b3,.int .i64 p.many,.int .i64 p.fL] 88)::(qx++(us++iV am ad (.slice (some ⟨yE,zH,none⟩) bX.length nB) aY s pl c1 cl l (bK.cG) a4 (.slice F4 bK.vs.length Gh) (.slice JL bK.ns.length JX) (.slice FT bK.is.length Gb) zC BR zB))) (fun(bH:(Nat)×(Value)×(aO))=>match bH with|(a4,E',us)=>dY) (fun(bH:(Nat)×(Value)×(aO))=>match bH with|(a4,E',us)=>js dY (qv p bK) a4 l (.slice F4 bK.vs.length Gh) (.slice JL bK.ns.length JX) (.slice FT bK.is.length Gb) zC BR zB/\Acc 3 1 E' (qw p bK ws).length ((qw p bK ws).map (Value.int .i64)) us) ?acr ?adu
         case acr=>
          refine If (fun F6=>?_) fun F6=>?_
          ·have Hz:=pB (l:=bK.l) (n:=3) (by omega);refine aj ?_;refine ab.draw rfl (by kernel_rfl) (bf:=[.val 0,.val 1,.val 2,.val 3,.val 4,.val 5,.bV 6,.val 7,.gh 8,.cF [7,1,0],.bV 9,.val 10,.bV 11]) (by kernel_rfl) ?_;refine an rfl V.bc ?_;refine an rfl V.aF ?_;refine cq ?_;refine an rfl V.aF ?_;refine' a7.call rfl rfl rfl rfl rfl rfl rfl rfl rfl rfl (bh:=iV am ad _ aY s pl c1 cl l _ _ _ _ _ _ _ _) (bW:=_::_::(qx++Ig)) Lz trivial (Xe (av.mono dr) hE xd (by decide)) ?_;rintro v m' ag hle ⟨rfl,rfl,rfl⟩;refine an rfl V.bx ?_;refine a7.buildSlice rfl rfl rfl rfl rfl rfl (eX Q g0) rfl rfl rfl fun aaR=>?_;refine a7.cF fC ?_;refine' a7.fO rfl rfl (kf rfl rfl rfl rfl rfl rfl (eX Q g0) (pO Q g0) (fun i q=>by cases q) ?cw ?hm ?U ?cr ?cc ?av fun aup akA Vf=>?_);case cw=>assumption
           case hm=>exact QP
           case U=>exact hP
           case cr=>first|rfl|(simp;done)|(simp;omega)
           case cc=>first|rfl|exact hg _
           case av=>exact cf
           obtain⟨abk,MX,rfl,atC⟩:=Vf.iJ;refine an rfl V.bc ?_;refine kW rfl ?_;refine a7.nil ?_;refine'⟨⟨kK l a3 3,.slice abk (ws.length+1) MX,akA⟩,_,?hinv,rfl,⟨rfl,rfl,rfl,rfl,rfl,rfl,rfl,rfl,trivial⟩,⟨[(aaR,_)],alY⟩,rfl⟩;case hinv=>refine⟨by unfold qv;rw[aE F6];exact xd.next 3,?_⟩;have e:qw p bK ws=ws++[1+eh bK.l 3]:=(by unfold qw;rw[aE F6]);rw[e,dv,Ms];exact Vf
          ·refine aj ?_;refine ab.skip ?_;refine'⟨⟨a3,.slice r' ws.length sf,Ig⟩,_,?hinv,rfl,⟨rfl,rfl,rfl,rfl,rfl,rfl,rfl,rfl,trivial⟩,rD,rfl⟩;case hinv=>refine⟨by unfold qv;rw[ap F6];exact xd,by unfold qw;rw[ap F6];exact Ov⟩
         case adu=>
          rintro⟨a4,E',us⟩ hinv;try simp only at hinv
          obtain⟨agG,Vp⟩:=hinv;obtain⟨va,vi,rfl,amK⟩:=Vp.iJ;refine rg ?_;refine I V.aA ?_;refine bj ?_;refine I V.aA ?_;refine ns ?_;refine ab.block ?_;refine' ab.c2 (l':=[(13,(.slice none 0 0)),(14,.int .i64 ((0):Int)),(0,_),(1,_),(2,_),(7,_),(8,_),(9,_),(11,_),(12,_)]) ⟨?rY,?Cw,rfl,rfl,rfl,rfl,rfl,rfl,rfl,rfl,trivial⟩ (bA _) ?_;case rY=>exact bS
          case Cw=>exact bS
          refine aj ?_;refine' ab.dF (fun(bH:Nat×Value×(List Value)×aO×aI)=>match bH with|(q,uN,cells,Lg,pa)=>⟨[(13,uN),(14,.int .i64 (q:Int))],Lg++((kJ,.row [.int .i64 hv,.int .i64 iL,.int .i64 i0,(.slice dJ ak.length hb),(.slice va (qw p bK ws).length vi),.slice none 0 0] 45)::(hs,.row [.int .i64 p.b3,.int .i64 p.many,.int .i64 p.fL] 88)::(qx++(us++iV am ad (.slice (some ⟨yE,zH,none⟩) bX.length nB) aY s pl c1 cl l (bK.cG) a4 (.slice F4 bK.vs.length Gh) (.slice JL bK.ns.length JX) (.slice FT bK.is.length Gb) zC BR zB))),pa,q<=seen.length/\dY.le pa/\Acc 22 1 uN q cells Lg/\hr 1 (fun _=>jI pa) cells ((kA p i seen).take q),seen.length -q⟩) ⟨0,.slice none 0 0,[],[],dY⟩ ?af ?bE
          case af=>refine⟨cB _,aI.le.refl _,.nil,rfl,fun i x h=>by simp at h⟩
          case bE=>
           rintro⟨q,uN,cells,Lg,pa⟩ hinv;try simp only at hinv
           obtain⟨c7,jN,Vo,oQ⟩:=hinv;obtain⟨JM,JY,rfl,amF⟩:=Vo.iJ;refine rg ?_;refine aM ?_;refine I V.a1 ?_;refine ns ?_;refine If (fun abM=>?_) fun abM=>?_
           ·obtain⟨abg,alI,acF,aea,rfl,Oc,O0⟩:=DX (by omega);obtain⟨LY,vh,HH,vC,l2,abw,ac3,rfl,zk⟩:=O0 q (by omega) (by omega);have sC:=l2 0 _ (by decide) rfl;rw[cy] at HH;have asT:LY.length<=1000:=by rw[KP _ (cd HH)];omega
            have Oc:=jN _ _ (dr _ _ Oc);obtain⟨arw,zk⟩:=zk;have zk:=(zk.mono dr).mono jN;have atX:=zk.addr;refine c5 ?_;refine aj ?_;refine ab.block ?_;refine rg ?_;refine jw (eX Q g0) fun a156=>?_;refine aM ?_;refine I V.aX ?_;refine I V.aF ?_;refine' W.step rfl (.of (kf rfl rfl rfl rfl rfl rfl (eX Q g0) (pO Q g0) (fun i q=>by cases q) ?cw ?hm ?U ?cr ?cc ?av fun auq atf agR=>?_));case cw=>exact Acc.kp _
            case hm=>exact .refl _
            case U=>exact zk.rd
            case cr=>exact(by simp)
            case cc=>exact hg _
            case av=>omega
            obtain⟨aqi,aqz,rfl,atD⟩:=agR.iJ;refine I V.aA ?_;refine a8 ?_;refine fT [0,1,2,7,8,9,11,12,13,14,15] ?_;refine aj ?_;refine' ab.ht 0 [(173,.bool (decide (((q:Int)=p.b3\/LU p q=true))))] ?acY ?adM;case acY=>
             refine ab.region ?_;refine aM ?_;refine I V.aF ?_;refine I V.a1 ?_;refine I V.ah ?_;refine dq 166 (fun n4=>?_) fun n4=>?_
             ·refine al ?_;refine al ?_;refine al ?_;refine W.oL rfl rfl rfl rfl rfl ?_;refine W.oL rfl rfl rfl rfl rfl ?_;refine al ?_;refine I V.aV ?_;refine a8 ?_;refine'⟨⟨_,rfl,⟨?n173,rfl,rfl,rfl,rfl,rfl,rfl,rfl,rfl,rfl,rfl,rfl,trivial⟩⟩,bA _,rfl⟩;case n173=>first|exact j2 rfl (by first|exact .inl n4|exact(yM (q:=q) mv.2.2.2.2.1 mv.2.2.2.2.2).trans ⟨.inr,fun h=>h.resolve_left n4⟩)|exact j0 rfl (by first|exact .inl n4|exact(yM (q:=q) mv.2.2.2.2.1 mv.2.2.2.2.2).trans ⟨.inr,fun h=>h.resolve_left n4⟩)|exact j1 rfl (by first|exact .inl n4|exact(yM (q:=q) mv.2.2.2.2.1 mv.2.2.2.2.2).trans ⟨.inr,fun h=>h.resolve_left n4⟩)|exact jZ rfl (by first|exact .inl n4|exact(yM (q:=q) mv.2.2.2.2.1 mv.2.2.2.2.2).trans ⟨.inr,fun h=>h.resolve_left n4⟩)
             ·refine aW V.bc ?_;refine aW V.aF ?_;refine aW V.ah ?_;refine' W.rb rfl rfl rfl (Exec.val rfl rfl (ZD rfl rfl rfl rfl ?bD ?aa) ?_);case bD=>exact cf
              case aa=>show(q:Int)<=64;omega
              refine' W.rb rfl rfl rfl (Exec.val rfl rfl (ZD rfl rfl rfl rfl ?bD ?aa) ?_);case bD=>exact cf
              case aa=>show(1:Int)<=64;omega
              refine aW V.a1 ?_;refine I V.aV ?_;refine a8 ?_;refine'⟨⟨_,rfl,⟨?n173,rfl,rfl,rfl,rfl,rfl,rfl,rfl,rfl,rfl,rfl,rfl,trivial⟩⟩,bA _,rfl⟩;case n173=>first|exact j2 rfl (by first|exact .inl n4|exact(yM (q:=q) mv.2.2.2.2.1 mv.2.2.2.2.2).trans ⟨.inr,fun h=>h.resolve_left n4⟩)|exact j0 rfl (by first|exact .inl n4|exact(yM (q:=q) mv.2.2.2.2.1 mv.2.2.2.2.2).trans ⟨.inr,fun h=>h.resolve_left n4⟩)|exact j1 rfl (by first|exact .inl n4|exact(yM (q:=q) mv.2.2.2.2.1 mv.2.2.2.2.2).trans ⟨.inr,fun h=>h.resolve_left n4⟩)|exact jZ rfl (by first|exact .inl n4|exact(yM (q:=q) mv.2.2.2.2.1 mv.2.2.2.2.2).trans ⟨.inr,fun h=>h.resolve_left n4⟩)
            case adM=>
             refine fT [15,173,0,1,2,7,8,9,11,12,13,14] ?_;refine aj ?_;refine' ab.yT (α:=(Value)×(aO)) 2 (fun(bH:(Value)×(aO))=>match bH with|(v6,Ex)=>[(15,v6)]) (fun(bH:(Value)×(aO))=>match bH with|(v6,Ex)=>Ex++(Lg++((kJ,.row [.int .i64 hv,.int .i64 iL,.int .i64 i0,(.slice dJ ak.length hb),(.slice va (qw p bK ws).length vi),.slice none 0 0] 45)::(hs,.row [.int .i64 p.b3,.int .i64 p.many,.int .i64 p.fL] 88)::(qx++(us++iV am ad (.slice (some ⟨yE,zH,none⟩) bX.length nB) aY s pl c1 cl l (bK.cG) a4 (.slice F4 bK.vs.length Gh) (.slice JL bK.ns.length JX) (.slice FT bK.is.length Gb) zC BR zB))))) (fun(bH:(Value)×(aO))=>match bH with|(v6,Ex)=>pa) (fun(bH:(Value)×(aO))=>match bH with|(v6,Ex)=>Acc 3 1 v6 (LY++[rL p i q]).length ((LY++[rL p i q]).map (Value.int .i64)) Ex) ?acs ?adv
             case acs=>
              refine If (fun MY=>?_) fun MY=>?_
              ·refine rg ?_;refine aM ?_;refine jw (eX Q g0) fun ap5=>?_;refine' W.step rfl (.of (kf rfl rfl rfl rfl rfl rfl (eX Q g0) (pO Q g0) (fun i q=>by cases q) ?cw ?hm ?U ?cr ?cc ?av fun ao1 akB agS=>?_));case cw=>assumption
               case hm=>exact sU
               case U=>exact hP
               case cr=>first|rfl|(simp;done)|(simp;omega)
               case cc=>first|rfl|exact hg _
               case av=>exact cf
               refine I V.aA ?_;refine a8 ?_;refine'⟨⟨ao1,akB⟩,_,?hinv,rfl,⟨?m15,rfl,rfl,rfl,rfl,rfl,rfl,rfl,rfl,rfl,rfl,trivial⟩,WW ((List.Sublist.cons _ (.cons _ (.refl _))).append_left _),rfl⟩;case m15=>exact bS
               case hinv=>have e:rL p i q=(i:Int):=(by unfold rL;rw[aE MY]);rw[e];exact agS.uJ (by simp) (by simp)
              ·refine rg ?_;refine I V.ah ?_;refine jw (eX Q g0) fun ap6=>?_;refine' W.step rfl (.of (kf rfl rfl rfl rfl rfl rfl (eX Q g0) (pO Q g0) (fun i q=>by cases q) ?cw ?hm ?U ?cr ?cc ?av fun ao2 akC agT=>?_));case cw=>assumption
               case hm=>exact sU
               case U=>exact hP
               case cr=>first|rfl|(simp;done)|(simp;omega)
               case cc=>first|rfl|exact hg _
               case av=>exact cf
               refine I V.aA ?_;refine a8 ?_;refine'⟨⟨ao2,akC⟩,_,?hinv,rfl,⟨?m15,rfl,rfl,rfl,rfl,rfl,rfl,rfl,rfl,rfl,rfl,trivial⟩,WW ((List.Sublist.cons _ (.cons _ (.refl _))).append_left _),rfl⟩;case m15=>exact bS
               case hinv=>have e:rL p i q=-1:=(by unfold rL;rw[ap MY]);rw[e];exact agT.uJ (by simp) (by simp)
             case adv=>
              rintro⟨v6,Ex⟩ hinv;try simp only at hinv
              obtain⟨u',p4,rfl,qE⟩:=hinv.iJ;refine Acc.hx hinv (.refl _) (fun eZ cE xE=>?_);refine rg ?_;refine aM ?_;refine jw (nl Q g0) fun a183=>?_;refine' W.step rfl (.of (kf rfl rfl rfl rfl rfl rfl (nl Q g0) (Cr Q g0) (fun i q=>by cases q) ?cw ?hm ?U ?cr ?cc ?av fun ao3 akD agU=>?_));case cw=>assumption
              case hm=>exact sU
              case U=>exact hP
              case cr=>first|rfl|(simp;done)|(simp;omega)
              case cc=>first|rfl|exact hg _
              case av=>exact cf
              refine I V.aA ?_;refine bj ?_;refine I V.ah ?_;refine I V.bx ?_;refine I V.aA ?_;refine a8 ?_;refine cA ⟨q+1,ao3,cells++[.slice u' (LY++[rL p i q]).length p4],akD,eZ⟩ ?_ (hm:=(List.Sublist.cons _ (.refl _)).append_left _);refine⟨by omega,jN.trans cE,agU,?_⟩;rw[ak1 HH];exact(oQ.mono fun _ _ _ r=>r.mono cE).app ⟨_,_,rfl,_,xE⟩ rfl
           ·refine aj ?_;refine ab.exit ?_;obtain rfl:q=seen.length:=by omega
            rw[et (by rw[BY];omega)] at oQ;refine Vo.hx (.refl _) (fun kh dV HE=>?_);have ai2:fa kh 22 1 (jI kh) (.slice JM (kA p i seen).length JY) (kA p i seen):=⟨_,by rw[BY];exact HE,fun j x U=>(oQ.2 j x U).mono dV⟩;obtain⟨bp,bC,b5⟩:=aj5 (p:=p) pz;have hC:=D' p kb rfl kh (kA p i seen) (qv p bK) a4 _ _ _ _ _ _ JM JY (((av.mono dr).mono jN).mono dV) (((OL.mono dr fun _ _ q=>q).mono jN fun _ _ q=>q).mono dV fun _ _ q=>q) bp (by rw[bC];omega) (by rw[BY];exact k') (Qw KP) ai2 ((agG.mono jN).mono dV);rw[BY,bC] at hC;have OC:=Ti (pl:=pl) (bX:=bX) (fun p aw=>⟨(j5 p aw).1,(j5 p aw).2.1,(j5 p aw).2.2.1,(j5 p aw).2.2.2.1⟩) kb (L+1) (kA p i seen) (qv p bK) xl oN bp (by rw[bC];omega) (by rw[BY];exact k') (Qw KP);have ajD:(qv p bK).ns.length=bK.ns.length:=by rw[b5]
            refine aj ?_;refine ab.draw rfl (by kernel_rfl) (bf:=[.val 0,.val 1,.val 2,.val 3,.val 4,.val 5,.bV 6,.gh 7,.cF [1,0],.bV 8,.val 9,.bV 10]) (by kernel_rfl) ?_;refine an rfl V.bc ?_;refine an rfl V.aF ?_;refine cq ?_;refine an rfl V.bx ?_;refine an rfl V.ah ?_;refine' a7.call rfl rfl rfl rfl rfl rfl rfl rfl rfl rfl (bh:=iV am ad _ aY s pl c1 cl l _ _ _ _ _ _ _ _) (bW:=_::_::(qx++us)) Lz trivial (hC) ?_;rintro v m' pV hD ⟨_,rfl,a5,Z2,XJ,WR,Xo,Xg,Xd,rfl,agH⟩;refine a7.buildSlice rfl rfl rfl rfl rfl rfl (eX Q g0) rfl rfl rfl fun aaT=>?_;refine a7.cF fC ?_;refine' a7.fO rfl rfl (kf rfl rfl rfl rfl rfl rfl (eX Q g0) (pO Q g0) (fun i q=>by cases q) ?cw ?hm ?U ?cr ?cc ?av fun aur Xi Vg=>?_);case cw=>assumption
            case hm=>exact X8
            case U=>exact hP
            case cr=>first|rfl|(simp;done)|(simp;omega)
            case cc=>first|rfl|exact hg _
            case av=>exact cf
            obtain⟨S4,To,rfl,atE⟩:=Vg.iJ;refine an rfl V.bc ?_;refine kW rfl ?_;refine a7.nil ?_;refine ab.eF (m':=(kJ,.row [.int .i64 hv,.int .i64 iL,.int .i64 i0,(.slice S4 (ak.length+1) To),(.slice va (qw p bK ws).length vi),.slice none 0 0] 45)::(hs,.row [.int .i64 p.b3,.int .i64 p.many,.int .i64 p.fL] 88)::(Xi++(us++iV am ad (.slice (some ⟨yE,zH,none⟩) bX.length nB) aY s pl c1 cl l ((lR aY pl kb (L+1) (kA p i seen) (qv p bK)).cG) a5 Z2 XJ WR Xo Xg Xd))) (iy:=[(aaT,_)]) alZ ?_;refine rg ?_;refine I V.ah ?_;refine I V.bx ?_;refine I V.aA ?_;refine a8 ?_;refine cA ⟨i+1,lR aY pl kb (L+1) (kA p i seen) (qv p bK),a5,Z2,XJ,WR,Xo,Xg,Xd,ak++[(bK.ns.length:Int)],qw p bK ws,.slice S4 (ak.length+1) To,.slice va (qw p bK ws).length vi,Xi,us,pV⟩ ?_;refine⟨by omega,by rw[zb,show(iU p L seen σ).toNat -i=((iU p L seen σ).toNat -(i+1))+1 by omega,aj7],OC.gE,by rw[OC.cG,bC];omega,(dr.trans jN).trans (dV.trans hD),agH,by rw[dv,e0];rfl,aj6 ajt,Vg.uJ (by simp) (by simp[ajD]),Vp,by have:=OC.lt;omega⟩
        ·refine aj ?_;refine ab.exit ?_;rw[show(iU p L seen σ).toNat -i=0 by omega] at zb;refine Vq.hx LA (fun yo ku KS=>?_);refine Ov.hx LA (fun pW l3 KR=>?_);have lW:=(xd.mono ku).mono l3;obtain⟨aqY,ah8,Kw⟩:=lW.n;obtain⟨bR,fn,rn,ue,rfl,qg,xx⟩:=ah8.row (by omega);injection ue with ue D8 Hw
         subst ue;subst Hw;refine aj ?_;refine ab.draw rfl (by kernel_rfl) (bf:=[.val 0,.val 1,.val 2,.val 3,.val 4,.val 5,.val 6,.val 7,.bV 8]) (by kernel_rfl) ?_;refine cq ?_;refine an rfl V.aF ?_;refine an rfl V.ah ?_;refine an rfl V.c8 ?_;refine an rfl V.aX ?_;refine' a7.fO rfl rfl (Aj rfl rfl rfl rfl (fY rfl) rfl rfl rfl ?aa ?af ?bN ?aw ?_);case aw=>exact X9
         case af=>exact Cm _ _ _ (by show 0+((σ.ns.length:Int)).toNat*6+6<=fn.length;omega)
         case aa=>first|rfl|assumption
         case bN=>exact cB _
         refine a7.nil ?_;refine ab.eF (m':=iV am ad (.slice (some ⟨yE,zH,none⟩) bX.length nB) aY s pl c1 cl l bK.cG a3 (.slice F4 bK.vs.length Gh) (.slice (some ⟨bR,0,none⟩) bK.ns.length c9) (.slice FT bK.is.length Gb) zC [(bR,.opn (fn.take (0+((σ.ns.length:Int)).toNat*6)++[.int .i64 hv,.int .i64 iL,.int .i64 i0,.slice dJ ak.length hb,.slice r' ws.length sf,.slice none 0 0]++fn.drop (0+((σ.ns.length:Int)).toNat*6+6)) 45 [] 0)] zB) (iy:=[(kJ,_),(hs,_)]) alW ?_;refine rg ?_;refine aM ?_;refine ns ?_;refine ab.ret ?_;refine'⟨.inr rfl,rfl,_,_,.tmp rfl .nil,?kx,?_⟩;case kx=>first|(have c:=AF;exact pZ _ _)|exact bA _
         first
          |(have c:=AF
            have j7:=wJ (most:=aY) (pl:=pl) (p:=p) (lv:=kb) (L:=L) (seen:=seen) (σ:=σ);rw[ap (show ¬eh σ.l 8=1 from q5),aE (by omega)] at j7;have xC:(vn pl σ.ns.length (jf (oZ p L seen σ) p.b3 (hh p L seen σ))).cG=σ.cG -1:=by show(jf _ _ _).cG=_;rw[T5,Q2]
            rw[j7,xC];exact⟨ck,rfl,_,_,_,_,_,_,_,rfl,tN⟩)
          |(have c:=q5
            have j7:=wJ (most:=aY) (pl:=pl) (p:=p) (lv:=kb) (L:=L) (seen:=seen) (σ:=σ);rw[aE (show eh σ.l 8=1 from q5)] at j7;rw[j7];exact⟨ck,rfl,_,_,_,_,_,_,_,rfl,tN⟩)
          |exact⟨ck,rfl,_,_,_,_,_,_,_,rfl,tN⟩
          |(have c:=hv
            have j7:=wJ (most:=aY) (pl:=pl) (p:=p) (lv:=kb) (L:=L) (seen:=seen) (σ:=σ);rw[ap (show ¬eh σ.l 8=1 from q5),ap (by omega),zb] at j7;have Bk:lR aY pl (p::kb) L seen σ={bK with ns:=bK.ns.set σ.ns.length (sO p L seen σ ak ws)}:=j7;rw[Bk];subst qg;have bN:0+((σ.ns.length:Int)).toNat*6=σ.ns.length*6:=by omega
            obtain⟨oC,tS⟩:∃oC:List Value,oC=(fn.take (σ.ns.length*6)++[Value.int .i64 hv,Value.int .i64 iL,Value.int .i64 i0,Value.slice dJ ak.length hb,Value.slice r' ws.length sf,Value.slice none 0 0]++fn.drop (σ.ns.length*6+6)).take (bK.ns.length*6):=⟨_,rfl⟩;refine⟨(dr.trans ku).trans l3,rfl,_,_,_,_,_,_,_,rfl,lW.le,lW.pk,lW.v,⟨oC,?_,?_⟩,lW.i,lW.uH⟩
            ·show hk _ _ _ (bK.ns.set _ _).length _ _
             rw[gu,bN,tS];exact hk.of (LI xx zg rfl)
            ·show hr 6 _ _ (bK.ns.set _ _)
             rw[tS];refine hr.put (R':=fun _=>nu pW) Kw xx (fun _ _ _ q=>q) zg rfl ?_;rw[d'];exact⟨_,_,_,_,_,_,rfl,⟨3,KS.mono l3⟩,⟨3,KR⟩,⟨3,.nil⟩⟩)
end
end
end Go.Opn
