/- A part of the proof of SampleParts. -/
import Derived.Test.YtdbhjgpppmkagaaGreatCbl
set_option maxRecDepth 100000
set_option maxHeartbeats 8000000
set_option linter.unusedVariables false
set_option linter.unusedSimpArgs false
namespace Go.Opn
noncomputable section
open Go.Cre Go.RowKit Go.Proofs
def Gz(p:ek)(cs:List Value):Prop:=cs=[.int .i64 p.bQ,.int .i64 p.many,.int .i64 p.fP]
def Gx(pl:Nat)(bI:List ek):Prop:=∀p∈bI,-1<=p.bQ/\p.bQ<pl/\2<=p.many/\p.many<=3/\0<=p.fP/\p.fP<=15
theorem wP{p:ek}{q:Nat}(bt:0<=p.fP)(aa:p.fP<=15):IntKind.i64.wrap (BitVec.ofInt IntKind.i64.bits (p.fP.fdiv (2 ^ ((q:Int)).toNat)) &&& BitVec.ofInt IntKind.i64.bits 1).toNat=1↔Js p q=true:=by
 obtain⟨m,hm⟩:∃m:Nat,p.fP=(m:Int):=⟨p.fP.toNat,by omega⟩;unfold Js;rw[hm,ea,ai'];have hle:m / 2 ^ q<=m:=Nat.div_le_self _ _;have e:(m:Int) / 2 ^ q=((m / 2 ^ q:Nat):Int):=by simp
 rw[e];generalize m / 2 ^ q=w at hle;rw[Yk (by omega) (by omega)];simp
theorem N0{α:Type}{x y z:α}{u v w:List α}:(x::y::z::(u++(v++w))).Perm (v++(x::y::z::(u++w))):=by
 have aa:(u++(v++w)).Perm (v++(u++w)):=by
  rw[<-j0,<-j0];exact List.perm_append_comm.append_right w
 exact(List.Perm.cons x (List.Perm.cons y (List.Perm.cons z aa))).trans I7
theorem ahj{α:Type}{x y z:α}{u v w:List α}:((y::z::(u++(v++w)))++[x]).Perm (v++(x::y::z::(u++w))):=
 (jn (l₂:=[x])).trans N0
theorem I5{α:Type}{x y:α}{u v M:List α}:(M++(x::y::(u++v))).Perm (x::y::(u++(v++M))):=by
 refine(jn (l₁:=M)).trans ?_;show(x::y::((u++v)++M)).Perm _;rw[j0]
theorem N1{α:Type}{x y z:α}{u v M:List α}:(z::(M++(x::y::(u++v)))).Perm (v++(z::(M++(x::y::u)))):=by
 refine List.Perm.trans (List.Perm.cons z ?_) Ce;refine(J2 M (show(x::y::(u++v)).Perm (v++(x::y::u)) from jn (l₁:=x::y::u))).trans ?_;rw[<-j0,<-j0];exact List.perm_append_comm.append_right _
theorem ahk{α:Type}{x y z:α}{u v M:List α}:((x::y::(u++(v++M)))++[z]).Perm (v++(z::(M++(x::y::u)))):=by
 refine(jn (l₂:=[z])).trans ?_;exact(List.Perm.cons z I5.symm).trans N1
theorem U'{α:Type}{x y z:α}{u v M:List α}:(z::(M++(x::y::(u++v)))).Perm (u++(z::(M++(x::y::v)))):=
 (List.Perm.cons z (J2 M (List.Perm.cons x (List.Perm.cons y jn)))).trans N1
theorem ahl{α:Type}{x y z:α}{u v M:List α}:((x::y::(u++(v++M)))++[z]).Perm (u++(z::(M++(x::y::v)))):=by
 refine(jn (l₂:=[z])).trans ?_;exact(List.Perm.cons z I5.symm).trans U'
theorem Va{α:Type}{x y a b n:α}{u w:List α}:(x::y::a::b::(u++([n]++w))).Perm (n::(x::y::a::b::(u++w))):=by
 have h:(u++([n]++w)).Perm (n::(u++w)):=Au;refine((((h.cons b).cons a).cons y).cons x).trans ?_;exact(Au (l₁:=[x,y,a,b])).trans (.refl _)
section
variable (Q:db Tryz.prog)(g0:Nat)(am ad:Nat)(s:Bool)(aY:Int)(pl:Nat)(c5:Option Addr)(cl:Nat)(l:List Int)(bI:List ek)(qV:Option Addr)(mM:Nat)
def JU(lv:List ek)(L:Nat):Prop:=
 ∀(J:aA) (seen:List (List Int)) (σ:dX) (a:Nat) (fs fB e8:Value) (az gC a4:aI) (bs:Option Addr) (cs:Nat),
  ew J (.slice c5 l.length cl) l->fX J 64 3 Gz (.slice qV bI.length mM) bI->jq aY L σ->1<=σ.cz->seen.length=pl->(∀x∈seen,x.length=L)->fX J 22 1 (k3 J) (.slice bs seen.length cs) seen->iY J σ a l fs fB e8 az gC a4->
  Fn (a2 Q g0) 17 [.pointer (some ⟨am,0,none⟩),.int .i64 (L:Int),.slice bs seen.length cs] (iA am ad (.slice qV bI.length mM) aY s pl c5 cl l σ.cz a fs fB e8 az gC a4) J
   (fun u m' ag=>J.le ag/\u=.int .i64 (σ.ns.length:Int)/\∃bA n9 B5 nZ ui rD ug,m'=iA am ad (.slice qV bI.length mM) aY s pl c5 cl l (lq aY pl lv L seen σ).cz bA n9 B5 nZ ui rD ug/\iY ag (lq aY pl lv L seen σ) bA l n9 B5 nZ ui rD ug)
end
section
variable {Q:db Tryz.prog}{g0:Nat}{am ad:Nat}{s:Bool}{aY:Int}{pl:Nat}{c5:Option Addr}{cl:Nat}{l:List Int}{bI:List ek}{qV:Option Addr}{mM:Nat}
theorem afJ{J:aA}{lv fs fB e8:Value}{az gC a4:aI}{h8:Int}{a:Nat}{σ:dX}{info:Nat}{bQ:Int}(h:iY J σ a l fs fB e8 az gC a4)(nW:σ.is.length=σ.vs.length)(ak:0<=bQ->info<σ.is.length)(aM:0<σ.ns.length)(df:σ.ns.length<=100000)(vx:σ.is.length<=100000):
 Fn (a2 Q g0) 34 [.pointer (some ⟨am,0,none⟩),.int .i64 (info:Int),.int .i64 bQ] (iA am ad lv aY s pl c5 cl l h8 a fs fB e8 az gC a4) J (fun u m' ag=>J=ag/\∃n9 nZ,m'=iA am ad lv aY s pl c5 cl l h8 a n9 fB nZ az gC a4/\iY J (iK (info:Int) bQ σ) a l n9 fB nZ az gC a4):=by
 by_cases au:bQ<0
 ·refine(aaf (z:=false) au _).perm ?_
  rintro v m' ag ⟨rfl,rfl⟩;refine⟨_,.refl _,rfl,_,_,rfl,?_⟩;have e:iK (info:Int) bQ σ=σ:=by unfold iK;rw[aF (.inl au)]
  rw[e];exact h
 ·exact afK h nW (ak (by omega)) aM df vx
theorem Rm{i p:Int}{σ:dX}:(iK i p σ).ns=σ.ns:=by unfold iK;split;rfl;split<;>rfl
theorem Rn{i p:Int}{σ:dX}:(iK i p σ).cz=σ.cz:=by unfold iK;split;rfl;split<;>rfl
theorem afj{p:ek}{bo:dX}{ws:List Int}{i:Nat}(h:ws.length<=i):(pw p bo ws).length<=i+1:=by
 unfold pw;split
 ·rw[er];exact Nat.succ_le_succ h
 ·omega
theorem ahi{α:Type}{x y a b n:α}{u w:List α}:((a::b::(u++([n]++w)))++[x,y]).Perm (n::x::y::a::b::(u++w)):=
 (jn (l₂:=[x,y])).trans Va
theorem Jf{full new:List Value}{k n aj:Nat}(h:n*aj<=full.length)(aH:k<n)(aM:new.length=aj):n*aj<=(full.take (k*aj)++new++full.drop (k*aj+new.length)).length:=by
 have:k*aj+aj<=n*aj:=by rw[<-pN];exact mD _ aH
 rw[er,er,fc,jJ,k4 (by omega)];omega
theorem QS{lv:List ek}{L:Nat}(im:l.length<=1000000)(dq:pl<=4)(EI:aY<=1000)(jQ:Gx pl bI)(LP:bI.length<=100)(aS:bI.drop L=lv)(bB:L<=bI.length)
 (sD:∀p jV,lv=p::jV->JU Q g0 am ad s aY pl c5 cl l bI qV mM jV (L+1)):JU Q g0 am ad s aY pl c5 cl l bI qV mM lv L:=by
 intro J seen σ a fs fB e8 az gC a4 bs cs ay Mi e1 Bv hR Ic Ig dC;have BF:=e1.sum;have nW:=e1.is;have Tx:=e1.s5;obtain⟨⟨bv,ZN,rfl,Ji⟩,⟨aT,amr,rfl,lj⟩,⟨bi,Zi,rfl,kZ⟩⟩:=dC.D2;obtain⟨aP,aM,q9⟩:=dC.n;have fq:addrEq bs bs=true:=Ig.addr;have aoD:addrEq qV qV=true:=Mi.addr;have zs:(kE seen σ).ns.length=σ.ns.length+1:=by show(σ.ns++_).length=_;simp
 have S5:σ.ns.length<(kE seen σ).ns.length:=by omega
 have S':(kE seen σ).ns.length<=100000:=by omega
 obtain⟨_,SR⟩:=Ig.at;obtain⟨_,ado⟩:=Mi.at;refine Fn.dw (dB Tryz.func17) rfl rfl fun H=>?_;refine rg ?_;refine U V.a7 ?_;refine bP ?_;refine aV ?_;refine U V.a9 ?_;refine aV ?_;refine bP ?_;refine aV ?_;refine U V.a9 ?_;refine U V.va ?_;refine aV ?_;refine fF ?_;refine bP ?_;refine aV ?_;refine U V.a9 ?_;refine U V.lp ?_;refine uV (On Q g0) fun GJ=>?_;refine' W.step rfl (.of (O9 rfl rfl rfl rfl rfl rfl (On Q g0) (aka Q g0) (fun i q=>by cases q) ?fo ?hm ?I ?df ?dR ?aU ?ay fun akS xH A'=>?_));case fo=>assumption
 case hm=>exact N0
 case I=>exact nw
 case df=>first|rfl|(simp;done)|(simp;omega)
 case dR=>first|rfl|exact mX _
 case aU=>exact cQ
 case ay=>exact cQ
 have pe:=dC.push q9 A' seen;obtain⟨_,⟨Dg,DC,rfl,aoE⟩,_⟩:=pe.D2;refine aV ?_;refine fF ?_;refine bu ?_;refine ae.e7 (m':=iA am ad (.slice qV bI.length mM) aY s pl c5 cl l (σ.cz -1) a (.slice bv σ.vs.length ZN) (.slice Dg (kE seen σ).ns.length DC) (.slice bi σ.is.length Zi) az xH a4) (lZ:=[(GJ,_)]) ahj ?_;refine rg ?_;refine aV ?_;refine U V.a9 ?_;refine U V.cr ?_;refine U V.bm ?_;refine U V.az ?_;refine eu 48 (fun LG=>?_) fun LG=>?_
 ·obtain rfl:lv=[]:=by rw[<-aS];exact Ar (by omega)
  have LS:=pe;refine a0 ?_;refine a0 ?_;refine a0 ?_;refine a0 ?_;refine W.p2 rfl rfl rfl rfl rfl ?_;refine a0 ?_;refine U V.bc ?_;refine ns ?_;refine ae.Rd rfl ?_;refine rg ?_;refine aV ?_;refine' W.step rfl (Exec.call rfl rfl rfl rfl rfl rfl rfl (a4:=iA am ad _ aY s pl c5 cl l (σ.cz -1) _ _ _ _ _ _ _) (b2:=[]) (by rw[fb]) trivial (Nz ay im LS (by omega) S5 S') ?_);rintro v m' cN eL ⟨_,bA,rD,rfl,so⟩;rw[fb];refine bP ?_;refine aV ?_;refine ns ?_;refine ae.ret ?_;refine'⟨.inr rfl,rfl,_,_,.tmp rfl .nil,?kf,?_⟩;case kf=>first|(have c:=yz;exact oh _ _)|exact bV _
  first
   |exact⟨eL,rfl,_,_,_,_,_,_,_,rfl,so⟩
   |(have c:=gX
     have jT:=uW (most:=aY) (pl:=pl) (p:=p) (lv:=jV) (L:=L) (seen:=seen) (σ:=σ);rw[aq (show ¬eg σ.l 8=1 from oo),aq (by omega),Bk] at jT;have zg:lq aY pl (p::jV) L seen σ={bo with ns:=bo.ns.set σ.ns.length (rF p L seen σ af ws)}:=jT;rw[zg];subst ra;have bC:0+((σ.ns.length:Int)).toNat*6=σ.ns.length*6:=by omega
     obtain⟨nF,su⟩:∃nF:List Value,nF=(fn.take (σ.ns.length*6)++[Value.int .i64 gX,Value.int .i64 hz,Value.int .i64 i0,Value.slice fG af.length lR,Value.slice jc ws.length jd,Value.slice none 0 0]++fn.drop (σ.ns.length*6+6)).take (bo.ns.length*6):=⟨_,rfl⟩;refine⟨(ev.trans qb).trans nl,rfl,_,_,_,_,_,_,_,rfl,lB.le,lB.ik,lB.v,⟨nF,?_,?_⟩,lB.i,lB.sY⟩
     ·show hf _ _ _ (bo.ns.set _ _).length _ _
      rw[hW,bC,su];exact hf.of (Jf rf xo rfl)
     ·show hi 6 _ _ (bo.ns.set _ _)
      rw[su];refine hi.put (R':=fun _=>mE CL) HQ rf (fun _ _ _ q=>q) xo rfl ?_;rw[dL];exact⟨_,_,_,_,_,_,rfl,⟨3,Ii.mono nl⟩,⟨3,Ih⟩,⟨3,.nil⟩⟩)
 ·obtain⟨p,jV,rfl⟩:∃p jV,lv=p::jV:=by
   cases lv with
   |nil=>have:=List.drop_eq_nil_iff.1 aS;omega
   |cons p r=>exact⟨p,r,rfl⟩
  obtain⟨nN,zb,vt⟩:=K4 aS;have lV:=jQ p (cV zb);refine bg V.az ?_;refine bg V.l2 ?_;refine bg V.bU ?_;refine bg V.a9 ?_;refine' W.sk rfl rfl rfl (Exec.call rfl rfl rfl rfl rfl rfl rfl (a4:=iA am ad _ aY s pl c5 cl l (σ.cz -1) _ _ _ _ _ _ _) (b2:=[]) (by rw[fb]) trivial (Uu ay im pe (by decide)) ?_);rintro v m' ag hle ⟨rfl,rfl,rfl⟩;rw[fb];refine bg V.bm ?_;refine U V.bc ?_;refine ns ?_;refine If (fun oo=>?_) fun oo=>?_
  ·have LS:=pe.next 8;refine rg ?_;refine aV ?_;refine' W.step rfl (Exec.call rfl rfl rfl rfl rfl rfl rfl (a4:=iA am ad _ aY s pl c5 cl l (σ.cz -1) _ _ _ _ _ _ _) (b2:=[]) (by rw[fb]) trivial (Nz ay im LS (by omega) S5 S') ?_);rintro v m' cN eL ⟨_,bA,rD,rfl,so⟩;rw[fb];refine bP ?_;refine aV ?_;refine ns ?_;refine ae.ret ?_;refine'⟨.inr rfl,rfl,_,_,.tmp rfl .nil,?kf,?_⟩;case kf=>first|(have c:=yz;exact oh _ _)|exact bV _
   first
    |(have c:=oo
      have jT:=uW (most:=aY) (pl:=pl) (p:=p) (lv:=jV) (L:=L) (seen:=seen) (σ:=σ);rw[aF (show eg σ.l 8=1 from oo)] at jT;rw[jT];exact⟨eL,rfl,_,_,_,_,_,_,_,rfl,so⟩)
    |exact⟨eL,rfl,_,_,_,_,_,_,_,rfl,so⟩
    |(have c:=gX
      have jT:=uW (most:=aY) (pl:=pl) (p:=p) (lv:=jV) (L:=L) (seen:=seen) (σ:=σ);rw[aq (show ¬eg σ.l 8=1 from oo),aq (by omega),Bk] at jT;have zg:lq aY pl (p::jV) L seen σ={bo with ns:=bo.ns.set σ.ns.length (rF p L seen σ af ws)}:=jT;rw[zg];subst ra;have bC:0+((σ.ns.length:Int)).toNat*6=σ.ns.length*6:=by omega
      obtain⟨nF,su⟩:∃nF:List Value,nF=(fn.take (σ.ns.length*6)++[Value.int .i64 gX,Value.int .i64 hz,Value.int .i64 i0,Value.slice fG af.length lR,Value.slice jc ws.length jd,Value.slice none 0 0]++fn.drop (σ.ns.length*6+6)).take (bo.ns.length*6):=⟨_,rfl⟩;refine⟨(ev.trans qb).trans nl,rfl,_,_,_,_,_,_,_,rfl,lB.le,lB.ik,lB.v,⟨nF,?_,?_⟩,lB.i,lB.sY⟩
      ·show hf _ _ _ (bo.ns.set _ _).length _ _
       rw[hW,bC,su];exact hf.of (Jf rf xo rfl)
      ·show hi 6 _ _ (bo.ns.set _ _)
       rw[su];refine hi.put (R':=fun _=>mE CL) HQ rf (fun _ _ _ q=>q) xo rfl ?_;rw[dL];exact⟨_,_,_,_,_,_,rfl,⟨3,Ii.mono nl⟩,⟨3,Ih⟩,⟨3,.nil⟩⟩)
  ·obtain⟨aiG,Ol,aoV,aoW,VP,aiF,VQ⟩:=ajj (p:=p) (seen:=seen) e1 lV.2.2.1 lV.2.2.2.1;have aoX:(hc p L seen σ).ns.length=σ.ns.length+1:=by rw[aiG];simp
   have aiH:=VP.is;have aoY:=VP.s5;obtain⟨wK,xM,aml,amM,rfl,amY,adq⟩:=ado (by omega);obtain⟨hz,amt,k9,ana,anq,SF⟩:=adq L (by omega) (by omega);rw[ea] at k9;obtain rfl:p=hz:=by rw[zb] at k9;injection k9
   unfold Gz at SF;subst SF;refine n0 ?_;refine aV ?_;refine U V.a9 ?_;refine U V.az ?_;refine U V.bf ?_;refine U V.hb ?_;refine' W.step rfl (.of (ic rfl rfl rfl (alB Q g0) rfl rfl rfl fun g6=>?_));refine fF ?_;refine bP ?_;refine U V.bU ?_;refine U V.a9 ?_;refine aV ?_;refine bP ?_;refine U V.bU ?_;refine U V.a9 ?_;refine U V.bm ?_;refine bu ?_;refine kq [9,10,71,0,1,2,7,8] ?_;refine aJ ?_;refine' ae.DE (α:=(Nat)×(Value)×(Value)×(aI)×(aI)) 3 (fun(cU:(Nat)×(Value)×(Value)×(aI)×(aI))=>match cU with|(bF,yd,zD,uj,vQ)=>[(9,.int .i64 (iz p L seen σ)),(10,.int .i64 (nY p L seen σ:Int))]) (fun(cU:(Nat)×(Value)×(Value)×(aI)×(aI))=>match cU with|(bF,yd,zD,uj,vQ)=>(g6,.row [.int .i64 p.bQ,.int .i64 p.many,.int .i64 p.fP] 64)::iA am ad (.slice (some ⟨wK,xM,none⟩) bI.length mM) aY s pl c5 cl l (σ.cz -1) bF yd (.slice Dg (kE seen σ).ns.length DC) zD uj xH vQ) (fun(cU:(Nat)×(Value)×(Value)×(aI)×(aI))=>match cU with|(bF,yd,zD,uj,vQ)=>J) (fun(cU:(Nat)×(Value)×(Value)×(aI)×(aI))=>match cU with|(bF,yd,zD,uj,vQ)=>iY J (hc p L seen σ) bF l yd (.slice Dg (kE seen σ).ns.length DC) zD uj xH vQ) ?Zn ?Z1
   case Zn=>
    refine If (fun KL=>?_) fun KL=>?_
    ·have M3:hc p L seen σ=(eE p L (e9 p seen) (fM seen σ)).1:=by unfold hc;rw[aq (by omega)]
     have SW:nY p L seen σ=(eE p L (e9 p seen) (fM seen σ)).2:=by unfold nY;rw[aq (by omega)]
     obtain⟨Yq,ag1,Zx,aax,rfl,LO,Mt⟩:=SR (by omega);obtain⟨sp,KW,mr,Me,zo,Yz,ZK,rfl,xv⟩:=Mt p.bQ (by omega) (by omega);have MB:=zo 0 _ (by decide) rfl;obtain rfl:sp=e9 p seen:=by
        have:=VY hR (by omega:0<=p.bQ) lV.2.1;rw[this] at mr;injection mr with mr;exact mr.symm
     have aen:(e9 p seen).length<=1000:=by rw[Ic _ (cV mr)];omega
     obtain⟨y,ah,Im⟩:=VQ (by omega);have adv:=hH ah;refine aJ ?_;refine ae.draw rfl (by kernel_rfl) (a8:=[.val 0,.val 1,.val 2,.val 3,.val 4,.val 5,.val 6,.val 7,.val 8,.cv 9,.val 10]) (by kernel_rfl) ?_;refine cm ?_;refine aB rfl V.a9 ?_;refine cm ?_;refine aB rfl V.a9 ?_;refine aB rfl V.bf ?_;refine aB rfl V.a9 ?_;refine' a3.call rfl rfl rfl rfl rfl rfl rfl rfl rfl rfl (a4:=iA am ad _ aY s pl c5 cl l (σ.cz -1) _ _ _ _ _ _ _) (b2:=[(g6,_)]) (jn (l₂:=[_])) trivial (afL (σ:=fM seen σ) (p:=p) (L:=L) ay im (pe.next 8) nW (by show σ.vs.length<=_;omega) xv aen) ?_;rintro v m' ag hle ⟨rfl,rfl,bF,yd,zD,uj,vQ,rfl,q6⟩;refine aB rfl V.a7 ?_;refine a3.nil ?_;refine ae.gZ (jn (l₁:=[_])) ?_;rw[<-SW];rw[<-M3] at q6;obtain⟨Zj,Mx,acZ⟩:=q6.i;obtain⟨j6,w7,l6,rfl,rfl,Ml,adH⟩:=Mx.row (by omega);obtain⟨jZ,amu,ld,anb,adB,rfl⟩:=acZ.at Ml adv;obtain rfl:y=jZ:=by rw[ah] at ld;injection ld
     have ant:=adB 1 _ (by decide) rfl;refine rg ?_;refine aV ?_;refine U V.a9 ?_;refine U V.az ?_;refine U V.bf ?_;refine U V.bU ?_;refine U V.a9 ?_;refine U V.a7 ?_;refine bu ?_;refine'⟨⟨bF,yd,(.slice (some ⟨j6,0,none⟩) (hc p L seen σ).is.length cR),uj,[(j6,.opn w7 87 l6 0)]⟩,_,?hinv,rfl,⟨?Fl,?Nw,rfl,rfl,rfl,rfl,rfl,trivial⟩,BU,rfl⟩;case Fl=>exact ec
     case Nw=>exact ec
     case hinv=>exact q6
    ·have M3:hc p L seen σ=fM seen σ:=by unfold hc;rw[aF (by omega)]
     have anz:iz p L seen σ=p.many:=by unfold iz;rw[aF (by omega)]
     have SW:nY p L seen σ=0:=by unfold nY;rw[aF (by omega)]
     refine gn ?_;refine'⟨⟨ks l a 8,_,_,az,a4⟩,_,?hinv,rfl,⟨?Fl,?Nw,rfl,rfl,rfl,rfl,rfl,trivial⟩,BU,rfl⟩;case Fl=>exact ec
     case Nw=>exact ec
     case hinv=>rw[M3];exact pe.next 8
   case Z1=>
    rintro⟨bF,yd,zD,uj,vQ⟩ hinv;try simp only at hinv
    have LU:=hinv;obtain⟨⟨QU,Rg,rfl,aoJ⟩,_,⟨QG,Q8,rfl,aoA⟩⟩:=LU.D2;refine aJ ?_;refine ae.draw rfl (by kernel_rfl) (a8:=[.val 0,.val 1,.val 2,.val 3,.val 4,.val 5,.val 6,.val 7,.val 8,.val 9,.val 10,.val 11,.val 12,.val 13]) (by kernel_rfl) ?_;refine aB rfl V.az ?_;refine aB rfl V.va ?_;refine cm ?_;refine aB rfl V.a9 ?_;refine aB rfl V.va ?_;refine aB rfl V.az ?_;refine aB rfl V.va ?_;refine cm ?_;refine aB rfl V.a9 ?_;refine aB rfl V.bm ?_;refine a3.nil ?_;refine aJ ?_;refine If (fun yz=>?_) fun yz=>?_
    ·refine rg ?_;refine aV ?_;refine U V.a9 ?_;refine' W.step rfl (Exec.call rfl rfl rfl rfl rfl rfl rfl (a4:=iA am ad _ aY s pl c5 cl l (σ.cz -1) _ _ _ _ _ _ _) (b2:=[(g6,_)]) (jn (l₂:=[_])) trivial (afJ LU aiH (fun q=>by obtain⟨y,ah,_⟩:=VQ q;exact hH ah) (by omega) (by omega) (by omega)) ?_);rintro v m' ag hle ⟨rfl,JI,Iv,rfl,vl⟩;refine bP ?_;refine aV ?_;refine' W.step rfl (Exec.call rfl rfl rfl rfl rfl rfl rfl (a4:=iA am ad _ aY s pl c5 cl l (σ.cz -1) _ _ _ _ _ _ _) (b2:=[(g6,_)]) (.refl _) trivial (Nz ay im vl (by omega) (by rw[Rm];omega) (by rw[Rm];omega)) ?_);rintro v m' cN eL ⟨_,bA,rD,rfl,so⟩;refine bP ?_;refine aV ?_;refine ns ?_;refine ae.ret ?_;refine'⟨.inr rfl,rfl,_,_,.tmp rfl .nil,?kf,?_⟩;case kf=>first|(have c:=yz;exact oh _ _)|exact bV _
     first
        |(have c:=yz
          have jT:=uW (most:=aY) (pl:=pl) (p:=p) (lv:=jV) (L:=L) (seen:=seen) (σ:=σ);rw[aq (show ¬eg σ.l 8=1 from oo),aF (by omega)] at jT;have po:(tB pl σ.ns.length (iK (nY p L seen σ) p.bQ (hc p L seen σ))).cz=σ.cz -1:=by show(iK _ _ _).cz=_;rw[Rn,Ol]
          rw[jT,po];exact⟨eL,rfl,_,_,_,_,_,_,_,rfl,so⟩)
        |(have c:=oo
          have jT:=uW (most:=aY) (pl:=pl) (p:=p) (lv:=jV) (L:=L) (seen:=seen) (σ:=σ);rw[aF (show eg σ.l 8=1 from oo)] at jT;rw[jT];exact⟨eL,rfl,_,_,_,_,_,_,_,rfl,so⟩)
        |exact⟨eL,rfl,_,_,_,_,_,_,_,rfl,so⟩
        |(have c:=gX
          have jT:=uW (most:=aY) (pl:=pl) (p:=p) (lv:=jV) (L:=L) (seen:=seen) (σ:=σ);rw[aq (show ¬eg σ.l 8=1 from oo),aq (by omega),Bk] at jT;have zg:lq aY pl (p::jV) L seen σ={bo with ns:=bo.ns.set σ.ns.length (rF p L seen σ af ws)}:=jT;rw[zg];subst ra;have bC:0+((σ.ns.length:Int)).toNat*6=σ.ns.length*6:=by omega
          obtain⟨nF,su⟩:∃nF:List Value,nF=(fn.take (σ.ns.length*6)++[Value.int .i64 gX,Value.int .i64 hz,Value.int .i64 i0,Value.slice fG af.length lR,Value.slice jc ws.length jd,Value.slice none 0 0]++fn.drop (σ.ns.length*6+6)).take (bo.ns.length*6):=⟨_,rfl⟩;refine⟨(ev.trans qb).trans nl,rfl,_,_,_,_,_,_,_,rfl,lB.le,lB.ik,lB.v,⟨nF,?_,?_⟩,lB.i,lB.sY⟩
          ·show hf _ _ _ (bo.ns.set _ _).length _ _
           rw[hW,bC,su];exact hf.of (Jf rf xo rfl)
          ·show hi 6 _ _ (bo.ns.set _ _)
           rw[su];refine hi.put (R':=fun _=>mE CL) HQ rf (fun _ _ _ q=>q) xo rfl ?_;rw[dL];exact⟨_,_,_,_,_,_,rfl,⟨3,Ii.mono nl⟩,⟨3,Ih⟩,⟨3,.nil⟩⟩)
    ·refine aJ ?_;refine ae.skip ?_;refine rg ?_;refine aV ?_;refine U V.a9 ?_;refine U V.az ?_;refine U V.va ?_;refine aV ?_;refine fF ?_;refine bu ?_;rw[<-Ol];refine rg ?_;refine U V.lp ?_;refine' W.step rfl (.of (ic rfl rfl rfl (yh Q g0) rfl rfl rfl fun nB=>?_));refine fF ?_;refine bP ?_;refine U V.bU ?_;refine U V.a9 ?_;refine U V.bm ?_;refine bu ?_;refine kq [10,126,0,1,2,7,8,9,11] ?_;refine aJ ?_;refine' ae.DE (α:=(Int)×(Int)×(Int)) 2 (fun(cU:(Int)×(Int)×(Int))=>match cU with|(gX,hz,i0)=>[]) (fun(cU:(Int)×(Int)×(Int))=>match cU with|(gX,hz,i0)=>(nB,.row [.int .i64 gX,.int .i64 hz,.int .i64 i0,.slice none 0 0,.slice none 0 0,.slice none 0 0] 92)::(g6,.row [.int .i64 p.bQ,.int .i64 p.many,.int .i64 p.fP] 64)::iA am ad (.slice (some ⟨wK,xM,none⟩) bI.length mM) aY s pl c5 cl l ((hc p L seen σ).cz+iz p L seen σ) bF (.slice QU (hc p L seen σ).vs.length Rg) (.slice Dg (kE seen σ).ns.length DC) (.slice QG (hc p L seen σ).is.length Q8) uj xH vQ) (fun(cU:(Int)×(Int)×(Int))=>match cU with|(gX,hz,i0)=>J) (fun(cU:(Int)×(Int)×(Int))=>match cU with|(gX,hz,i0)=>∀af ws,rF p L seen σ af ws=⟨gX,hz,i0,af,ws,[]⟩) ?Zk ?ZY
     case Zk=>
      refine If (fun YJ=>?_) fun YJ=>?_
      ·
        refine rg ?_;refine U V.bU ?_;refine U V.a9 ?_;refine aV ?_;refine fF ?_;refine bu ?_;refine'⟨⟨2,p.bQ,(nY p L seen σ:Int)⟩,_,?hinv,rfl,⟨rfl,rfl,rfl,rfl,rfl,rfl,rfl,trivial⟩,BU,rfl⟩;case hinv=>intro af ws;unfold rF;rw[aq (by omega)]
      ·
        refine aJ ?_;refine ae.skip ?_;refine'⟨⟨1,0,0⟩,_,?hinv,rfl,⟨rfl,rfl,rfl,rfl,rfl,rfl,rfl,trivial⟩,BU,rfl⟩;case hinv=>intro af ws;unfold rF;rw[aF (by omega)]
     case ZY=>
      rintro⟨gX,hz,i0⟩ hinv;try simp only at hinv
      have dL:=hinv;refine rg ?_;refine U V.a7 ?_;refine ns ?_;refine ae.block ?_;refine' ae.fy (l':=[(12,.int .i64 ((0):Int)),(0,_),(1,_),(2,_),(7,_),(8,_),(9,_),(11,_)]) ⟨?OZ,rfl,rfl,rfl,rfl,rfl,rfl,rfl,trivial⟩ (bV _) ?_;case OZ=>exact ec
      refine aJ ?_;refine' ae.cf (fun(cU:Nat×dX×Nat×Value×Value×Value×aI×aI×aI×(List Int)×(List Int)×Value×Value×aI×aI×aA)=>match cU with|(i,bo,bO,JI,NO,Iv,xI,zK,xG,af,ws,OY,OX,px,Ft,eW)=>⟨[(12,.int .i64 (i:Int))],(nB,.row [.int .i64 gX,.int .i64 hz,.int .i64 i0,OY,OX,.slice none 0 0] 92)::(g6,.row [.int .i64 p.bQ,.int .i64 p.many,.int .i64 p.fP] 64)::(px++(Ft++iA am ad (.slice (some ⟨wK,xM,none⟩) bI.length mM) aY s pl c5 cl l (bo.cz) bO JI NO Iv xI zK xG)),eW,i<=(iz p L seen σ).toNat/\kids (lq aY pl jV (L+1)) p seen (iz p L seen σ).toNat 0 {hc p L seen σ with cz:=(hc p L seen σ).cz+iz p L seen σ} [] []=kids (lq aY pl jV (L+1)) p seen ((iz p L seen σ).toNat -i) i bo af ws/\jq aY (L+1) bo/\(((iz p L seen σ).toNat -i:Nat):Int)<=bo.cz/\J.le eW/\iY eW bo bO l JI NO Iv xI zK xG/\af.length=i/\ws.length<=i/\Acc 3 1 OY af.length (af.map (Value.int .i64)) px/\Acc 3 1 OX ws.length (ws.map (Value.int .i64)) Ft/\σ.ns.length<bo.ns.length,(iz p L seen σ).toNat -i⟩) ⟨0,{hc p L seen σ with cz:=(hc p L seen σ).cz+iz p L seen σ},bF,.slice QU (hc p L seen σ).vs.length Rg,.slice Dg (kE seen σ).ns.length DC,.slice QG (hc p L seen σ).is.length Q8,uj,xH,vQ,[],[],.slice none 0 0,.slice none 0 0,[],[],J⟩ ?al ?cp
      case al=>refine⟨dV _,rfl,aiF (by omega),by show _<=(hc p L seen σ).cz+_;omega,aA.le.refl _,LU.cz _,rfl,dH _,.nil,.nil,by show _<(hc p L seen σ).ns.length;omega⟩
      case cp=>
        rintro⟨i,bo,bO,JI,NO,Iv,xI,zK,xG,af,ws,OY,OX,px,Ft,eW⟩ hinv;try simp only at hinv
        obtain⟨ak,Bk,oE,anN,ev,vl,gk,BI,SC,L7,xo⟩:=hinv;have an0:=oE.sum;have anY:=oE.is;obtain⟨⟨Dm,DG,rfl,aoK⟩,⟨GX,G',rfl,aoF⟩,⟨De,Dy,rfl,aoB⟩⟩:=vl.D2;obtain⟨fG,lR,rfl,aoN⟩:=SC.jO;obtain⟨jc,jd,rfl,aoM⟩:=L7.jO;refine rg ?_;refine aV ?_;refine U V.bm ?_;refine ns ?_;refine If (fun YK=>?_) fun YK=>?_
        ·refine aJ ?_;refine ae.skip ?_;refine aJ ?_;refine ae.block ?_;refine rg ?_;refine U V.bU ?_;refine U V.a9 ?_;refine U V.bm ?_;refine bu ?_;refine kq [138,0,1,2,7,8,9,11,12] ?_;refine aJ ?_;refine' ae.DE (α:=(Nat)×(Value)×(aI)) 1 (fun(cU:(Nat)×(Value)×(aI))=>match cU with|(b3,Cx,sN)=>[]) (fun(cU:(Nat)×(Value)×(aI))=>match cU with|(b3,Cx,sN)=>(nB,.row [.int .i64 gX,.int .i64 hz,.int .i64 i0,(.slice fG af.length lR),Cx,.slice none 0 0] 92)::(g6,.row [.int .i64 p.bQ,.int .i64 p.many,.int .i64 p.fP] 64)::(px++(sN++iA am ad (.slice (some ⟨wK,xM,none⟩) bI.length mM) aY s pl c5 cl l (bo.cz) b3 (.slice Dm bo.vs.length DG) (.slice GX bo.ns.length G') (.slice De bo.is.length Dy) xI zK xG))) (fun(cU:(Nat)×(Value)×(aI))=>match cU with|(b3,Cx,sN)=>eW) (fun(cU:(Nat)×(Value)×(aI))=>match cU with|(b3,Cx,sN)=>iY eW (pv p bo) b3 l (.slice Dm bo.vs.length DG) (.slice GX bo.ns.length G') (.slice De bo.is.length Dy) xI zK xG/\Acc 3 1 Cx (pw p bo ws).length ((pw p bo ws).map (Value.int .i64)) sN) ?Zl ?ZZ
         case Zl=>
          refine If (fun Dp=>?_) fun Dp=>?_
          ·have anR:=oJ (l:=bo.l) (n:=3) (by omega);refine aJ ?_;refine ae.draw rfl (by kernel_rfl) (a8:=[.val 0,.val 1,.val 2,.val 3,.val 4,.val 5,.cv 6,.val 7,.f' 8,.c9 [7,1,0],.cv 9,.val 10,.cv 11]) (by kernel_rfl) ?_;refine aB rfl V.bU ?_;refine aB rfl V.a9 ?_;refine cm ?_;refine aB rfl V.a9 ?_;refine' a3.call rfl rfl rfl rfl rfl rfl rfl rfl rfl rfl (a4:=iA am ad _ aY s pl c5 cl l _ _ _ _ _ _ _ _) (b2:=_::_::(px++Ft)) I5 trivial (Uu (ay.mono ev) im vl (by decide)) ?_;rintro v m' ag hle ⟨rfl,rfl,rfl⟩;refine aB rfl V.va ?_;refine a3.buildSlice rfl rfl rfl rfl rfl rfl (hL Q g0) rfl rfl rfl fun X3=>?_;refine a3.c9 g7 ?_;refine' a3.ij rfl rfl (qF rfl rfl rfl rfl rfl rfl (hL Q g0) (s3 Q g0) (fun i q=>by cases q) ?fo ?hm ?I ?df ?dR ?ay fun ao' afN Su=>?_);case fo=>assumption
           case hm=>exact N1
           case I=>exact nw
           case df=>first|rfl|(simp;done)|(simp;omega)
           case dR=>first|rfl|exact mX _
           case ay=>exact cQ
           obtain⟨Yr,YM,rfl,aok⟩:=Su.jO;refine aB rfl V.bU ?_;refine m6 rfl ?_;refine a3.nil ?_;refine'⟨⟨ks l bO 3,.slice Yr (ws.length+1) YM,afN⟩,_,?hinv,rfl,⟨rfl,rfl,rfl,rfl,rfl,rfl,rfl,rfl,trivial⟩,⟨[(X3,_)],ahk⟩,rfl⟩;case hinv=>refine⟨by unfold pv;rw[aF Dp];exact vl.next 3,?_⟩;have e:pw p bo ws=ws++[1+eg bo.l 3]:=(by unfold pw;rw[aF Dp]);rw[e,er,CV];exact Su
          ·refine aJ ?_;refine ae.skip ?_;refine'⟨⟨bO,.slice jc ws.length jd,Ft⟩,_,?hinv,rfl,⟨rfl,rfl,rfl,rfl,rfl,rfl,rfl,rfl,trivial⟩,BU,rfl⟩;case hinv=>refine⟨by unfold pv;rw[aq Dp];exact vl,by unfold pw;rw[aq Dp];exact L7⟩
         case ZZ=>
          rintro⟨b3,Cx,sN⟩ hinv;try simp only at hinv
          obtain⟨aci,SB⟩:=hinv;obtain⟨wQ,wZ,rfl,Vy⟩:=SB.jO;refine rg ?_;refine U V.a7 ?_;refine bP ?_;refine U V.a7 ?_;refine ns ?_;refine ae.block ?_;refine' ae.fy (l':=[(13,(.slice none 0 0)),(14,.int .i64 ((0):Int)),(0,_),(1,_),(2,_),(7,_),(8,_),(9,_),(11,_),(12,_)]) ⟨?F7,?O0,rfl,rfl,rfl,rfl,rfl,rfl,rfl,rfl,trivial⟩ (bV _) ?_;case F7=>exact ec
          case O0=>exact ec
          refine aJ ?_;refine' ae.cf (fun(cU:Nat×Value×(List Value)×aI×aA)=>match cU with|(q,s5,cells,IL,CM)=>⟨[(13,s5),(14,.int .i64 (q:Int))],IL++((nB,.row [.int .i64 gX,.int .i64 hz,.int .i64 i0,(.slice fG af.length lR),(.slice wQ (pw p bo ws).length wZ),.slice none 0 0] 92)::(g6,.row [.int .i64 p.bQ,.int .i64 p.many,.int .i64 p.fP] 64)::(px++(sN++iA am ad (.slice (some ⟨wK,xM,none⟩) bI.length mM) aY s pl c5 cl l (bo.cz) b3 (.slice Dm bo.vs.length DG) (.slice GX bo.ns.length G') (.slice De bo.is.length Dy) xI zK xG))),CM,q<=seen.length/\eW.le CM/\Acc 22 1 s5 q cells IL/\hi 1 (fun _=>k3 CM) cells ((kj p i seen).take q),seen.length -q⟩) ⟨0,.slice none 0 0,[],[],eW⟩ ?al ?cp
          case al=>refine⟨dV _,aA.le.refl _,.nil,rfl,fun i x h=>by simp at h⟩
          case cp=>
           rintro⟨q,s5,cells,IL,CM⟩ hinv;try simp only at hinv
           obtain⟨cn,y9,SA,nQ⟩:=hinv;obtain⟨GY,Ha,rfl,aih⟩:=SA.jO;refine rg ?_;refine aV ?_;refine U V.bm ?_;refine ns ?_;refine If (fun YN=>?_) fun YN=>?_
           ·obtain⟨Yq,ag1,Zx,aax,rfl,LO,Mt⟩:=SR (by omega);obtain⟨Jw,KW,M2,Me,zo,Yz,ZK,rfl,xv⟩:=Mt q (by omega) (by omega);have MB:=zo 0 _ (by decide) rfl;rw[ea] at M2;have anU:Jw.length<=1000:=by rw[Ic _ (cV M2)];omega
            have LO:=y9 _ _ (ev _ _ LO);obtain⟨amP,xv⟩:=xv;have xv:=(xv.mono ev).mono y9;have aoI:=xv.addr;refine gn ?_;refine aJ ?_;refine ae.block ?_;refine rg ?_;refine uV (hL Q g0) fun alS=>?_;refine aV ?_;refine U V.bf ?_;refine U V.a9 ?_;refine' W.step rfl (.of (qF rfl rfl rfl rfl rfl rfl (hL Q g0) (s3 Q g0) (fun i q=>by cases q) ?fo ?hm ?I ?df ?dR ?ay fun apa an9 acD=>?_));case fo=>exact Acc.lu _
            case hm=>exact .refl _
            case I=>exact xv.rd
            case df=>exact(by simp)
            case dR=>exact mX _
            case ay=>omega
            obtain⟨al6,amf,rfl,aol⟩:=acD.jO;refine U V.a7 ?_;refine bu ?_;refine kq [0,1,2,7,8,9,11,12,13,14,15] ?_;refine aJ ?_;refine' ae.mi 0 [(173,.bool (decide (((q:Int)=p.bQ\/Js p q=true))))] ?ZH ?Z9;case ZH=>
             refine ae.region ?_;refine aV ?_;refine U V.a9 ?_;refine U V.bm ?_;refine U V.az ?_;refine eu 166 (fun ni=>?_) fun ni=>?_
             ·refine a0 ?_;refine a0 ?_;refine a0 ?_;refine W.p2 rfl rfl rfl rfl rfl ?_;refine W.p2 rfl rfl rfl rfl rfl ?_;refine a0 ?_;refine U V.bc ?_;refine bu ?_;refine'⟨⟨_,rfl,⟨?NC,rfl,rfl,rfl,rfl,rfl,rfl,rfl,rfl,rfl,rfl,rfl,trivial⟩⟩,bV _,rfl⟩;case NC=>first|exact u9 rfl (by first|exact .inl ni|exact(wP (q:=q) lV.2.2.2.2.1 lV.2.2.2.2.2).trans ⟨.inr,fun h=>h.resolve_left ni⟩)|exact u6 rfl (by first|exact .inl ni|exact(wP (q:=q) lV.2.2.2.2.1 lV.2.2.2.2.2).trans ⟨.inr,fun h=>h.resolve_left ni⟩)|exact u7 rfl (by first|exact .inl ni|exact(wP (q:=q) lV.2.2.2.2.1 lV.2.2.2.2.2).trans ⟨.inr,fun h=>h.resolve_left ni⟩)|exact u5 rfl (by first|exact .inl ni|exact(wP (q:=q) lV.2.2.2.2.1 lV.2.2.2.2.2).trans ⟨.inr,fun h=>h.resolve_left ni⟩)
             ·refine bg V.bU ?_;refine bg V.a9 ?_;refine bg V.az ?_;refine' W.sk rfl rfl rfl (Exec.val rfl rfl (OU rfl rfl rfl rfl ?bt ?aa) ?_);case bt=>exact cQ
              case aa=>show(q:Int)<=64;omega
              refine' W.sk rfl rfl rfl (Exec.val rfl rfl (OU rfl rfl rfl rfl ?bt ?aa) ?_);case bt=>exact cQ
              case aa=>show(1:Int)<=64;omega
              refine bg V.bm ?_;refine U V.bc ?_;refine bu ?_;refine'⟨⟨_,rfl,⟨?NC,rfl,rfl,rfl,rfl,rfl,rfl,rfl,rfl,rfl,rfl,rfl,trivial⟩⟩,bV _,rfl⟩;case NC=>first|exact u9 rfl (by first|exact .inl ni|exact(wP (q:=q) lV.2.2.2.2.1 lV.2.2.2.2.2).trans ⟨.inr,fun h=>h.resolve_left ni⟩)|exact u6 rfl (by first|exact .inl ni|exact(wP (q:=q) lV.2.2.2.2.1 lV.2.2.2.2.2).trans ⟨.inr,fun h=>h.resolve_left ni⟩)|exact u7 rfl (by first|exact .inl ni|exact(wP (q:=q) lV.2.2.2.2.1 lV.2.2.2.2.2).trans ⟨.inr,fun h=>h.resolve_left ni⟩)|exact u5 rfl (by first|exact .inl ni|exact(wP (q:=q) lV.2.2.2.2.1 lV.2.2.2.2.2).trans ⟨.inr,fun h=>h.resolve_left ni⟩)
            case Z9=>
             refine kq [15,173,0,1,2,7,8,9,11,12,13,14] ?_;refine aJ ?_;refine' ae.DE (α:=(Value)×(aI)) 2 (fun(cU:(Value)×(aI))=>match cU with|(v6,BZ)=>[(15,v6)]) (fun(cU:(Value)×(aI))=>match cU with|(v6,BZ)=>BZ++(IL++((nB,.row [.int .i64 gX,.int .i64 hz,.int .i64 i0,(.slice fG af.length lR),(.slice wQ (pw p bo ws).length wZ),.slice none 0 0] 92)::(g6,.row [.int .i64 p.bQ,.int .i64 p.many,.int .i64 p.fP] 64)::(px++(sN++iA am ad (.slice (some ⟨wK,xM,none⟩) bI.length mM) aY s pl c5 cl l (bo.cz) b3 (.slice Dm bo.vs.length DG) (.slice GX bo.ns.length G') (.slice De bo.is.length Dy) xI zK xG))))) (fun(cU:(Value)×(aI))=>match cU with|(v6,BZ)=>CM) (fun(cU:(Value)×(aI))=>match cU with|(v6,BZ)=>Acc 3 1 v6 (Jw++[qq p i q]).length ((Jw++[qq p i q]).map (Value.int .i64)) BZ) ?Zm ?Z0
             case Zm=>
              refine If (fun KG=>?_) fun KG=>?_
              ·refine rg ?_;refine aV ?_;refine uV (hL Q g0) fun alT=>?_;refine' W.step rfl (.of (qF rfl rfl rfl rfl rfl rfl (hL Q g0) (s3 Q g0) (fun i q=>by cases q) ?fo ?hm ?I ?df ?dR ?ay fun akL afO acE=>?_));case fo=>assumption
               case hm=>exact Jd
               case I=>exact nw
               case df=>first|rfl|(simp;done)|(simp;omega)
               case dR=>first|rfl|exact mX _
               case ay=>exact cQ
               refine U V.a7 ?_;refine bu ?_;refine'⟨⟨akL,afO⟩,_,?hinv,rfl,⟨?Nx,rfl,rfl,rfl,rfl,rfl,rfl,rfl,rfl,rfl,rfl,trivial⟩,T5 ((List.Sublist.cons _ (.cons _ (.refl _))).append_left _),rfl⟩;case Nx=>exact ec
               case hinv=>have e:qq p i q=(i:Int):=(by unfold qq;rw[aF KG]);rw[e];exact acE.JB (by simp) (by simp)
              ·refine rg ?_;refine U V.az ?_;refine uV (hL Q g0) fun alU=>?_;refine' W.step rfl (.of (qF rfl rfl rfl rfl rfl rfl (hL Q g0) (s3 Q g0) (fun i q=>by cases q) ?fo ?hm ?I ?df ?dR ?ay fun akM afP acF=>?_));case fo=>assumption
               case hm=>exact Jd
               case I=>exact nw
               case df=>first|rfl|(simp;done)|(simp;omega)
               case dR=>first|rfl|exact mX _
               case ay=>exact cQ
               refine U V.a7 ?_;refine bu ?_;refine'⟨⟨akM,afP⟩,_,?hinv,rfl,⟨?Nx,rfl,rfl,rfl,rfl,rfl,rfl,rfl,rfl,rfl,rfl,trivial⟩,T5 ((List.Sublist.cons _ (.cons _ (.refl _))).append_left _),rfl⟩;case Nx=>exact ec
               case hinv=>have e:qq p i q=-1:=(by unfold qq;rw[aq KG]);rw[e];exact acF.JB (by simp) (by simp)
             case Z0=>
              rintro⟨v6,BZ⟩ hinv;try simp only at hinv
              obtain⟨r5,AJ,rfl,kY⟩:=hinv.jO;refine Acc.l4 hinv (.refl _) (fun hs fu Tp=>?_);refine rg ?_;refine aV ?_;refine uV (sX Q g0) fun alV=>?_;refine' W.step rfl (.of (qF rfl rfl rfl rfl rfl rfl (sX Q g0) (WE Q g0) (fun i q=>by cases q) ?fo ?hm ?I ?df ?dR ?ay fun akN afQ acG=>?_));case fo=>assumption
              case hm=>exact Jd
              case I=>exact nw
              case df=>first|rfl|(simp;done)|(simp;omega)
              case dR=>first|rfl|exact mX _
              case ay=>exact cQ
              refine U V.a7 ?_;refine bP ?_;refine U V.az ?_;refine U V.va ?_;refine U V.a7 ?_;refine bu ?_;refine e2 ⟨q+1,akN,cells++[.slice r5 (Jw++[qq p i q]).length AJ],afQ,hs⟩ ?_ (hm:=(List.Sublist.cons _ (.refl _)).append_left _);refine⟨by omega,y9.trans fu,acG,?_⟩;rw[agh M2];exact(nQ.mono fun _ _ _ r=>r.mono fu).app ⟨_,_,rfl,_,Tp⟩ rfl
           ·refine aJ ?_;refine ae.exit ?_;obtain rfl:q=seen.length:=by omega
            rw[fZ (by rw[zP];omega)] at nQ;refine SA.l4 (.refl _) (fun mA gO ael=>?_);have aei:fX mA 22 1 (k3 mA) (.slice GY (kj p i seen).length Ha) (kj p i seen):=⟨_,by rw[zP];exact ael,fun j x I=>(nQ.2 j x I).mono gO⟩;obtain⟨a',bd,bz⟩:=afi (p:=p) oE;have hP:=sD p jV rfl mA (kj p i seen) (pv p bo) b3 _ _ _ _ _ _ GY Ha (((ay.mono ev).mono y9).mono gO) (((Mi.mono ev fun _ _ q=>q).mono y9 fun _ _ q=>q).mono gO fun _ _ q=>q) a' (by rw[bd];omega) (by rw[zP];exact hR) (NL Ic) aei ((aci.mono y9).mono gO);rw[zP,bd] at hP;have Mb:=QT (pl:=pl) (bI:=bI) (fun p au=>⟨(jQ p au).1,(jQ p au).2.1,(jQ p au).2.2.1,(jQ p au).2.2.2.1⟩) jV (L+1) (kj p i seen) (pv p bo) vt nN a' (by rw[bd];omega) (by rw[zP];exact hR) (NL Ic);have aeR:(pv p bo).ns.length=bo.ns.length:=by rw[bz]
            refine aJ ?_;refine ae.draw rfl (by kernel_rfl) (a8:=[.val 0,.val 1,.val 2,.val 3,.val 4,.val 5,.cv 6,.f' 7,.c9 [1,0],.cv 8,.val 9,.cv 10]) (by kernel_rfl) ?_;refine aB rfl V.bU ?_;refine aB rfl V.a9 ?_;refine cm ?_;refine aB rfl V.va ?_;refine aB rfl V.az ?_;refine' a3.call rfl rfl rfl rfl rfl rfl rfl rfl rfl rfl (a4:=iA am ad _ aY s pl c5 cl l _ _ _ _ _ _ _ _) (b2:=_::_::(px++sN)) I5 trivial (hP) ?_;rintro v m' JZ xl ⟨_,rfl,c2,W4,UM,T1,UA,Uw,Us,rfl,acj⟩;refine a3.buildSlice rfl rfl rfl rfl rfl rfl (hL Q g0) rfl rfl rfl fun X4=>?_;refine a3.c9 g7 ?_;refine' a3.ij rfl rfl (qF rfl rfl rfl rfl rfl rfl (hL Q g0) (s3 Q g0) (fun i q=>by cases q) ?fo ?hm ?I ?df ?dR ?ay fun apb Ux Sv=>?_);case fo=>assumption
            case hm=>exact U'
            case I=>exact nw
            case df=>first|rfl|(simp;done)|(simp;omega)
            case dR=>first|rfl|exact mX _
            case ay=>exact cQ
            obtain⟨QD,QW,rfl,aon⟩:=Sv.jO;refine aB rfl V.bU ?_;refine m6 rfl ?_;refine a3.nil ?_;refine ae.e7 (m':=(nB,.row [.int .i64 gX,.int .i64 hz,.int .i64 i0,(.slice QD (af.length+1) QW),(.slice wQ (pw p bo ws).length wZ),.slice none 0 0] 92)::(g6,.row [.int .i64 p.bQ,.int .i64 p.many,.int .i64 p.fP] 64)::(Ux++(sN++iA am ad (.slice (some ⟨wK,xM,none⟩) bI.length mM) aY s pl c5 cl l ((lq aY pl jV (L+1) (kj p i seen) (pv p bo)).cz) c2 W4 UM T1 UA Uw Us))) (lZ:=[(X4,_)]) ahl ?_;refine rg ?_;refine U V.az ?_;refine U V.va ?_;refine U V.a7 ?_;refine bu ?_;refine e2 ⟨i+1,lq aY pl jV (L+1) (kj p i seen) (pv p bo),c2,W4,UM,T1,UA,Uw,Us,af++[(bo.ns.length:Int)],pw p bo ws,.slice QD (af.length+1) QW,.slice wQ (pw p bo ws).length wZ,Ux,sN,JZ⟩ ?_;refine⟨by omega,by rw[Bk,show(iz p L seen σ).toNat -i=((iz p L seen σ).toNat -(i+1))+1 by omega,afk],Mb.ei,by rw[Mb.cz,bd];omega,(ev.trans y9).trans (gO.trans xl),acj,by rw[er,gk];rfl,afj BI,Sv.JB (by simp) (by simp[aeR]),SB,by have:=Mb.lt;omega⟩
        ·refine aJ ?_;refine ae.exit ?_;rw[show(iz p L seen σ).toNat -i=0 by omega] at Bk;refine SC.l4 I6 (fun PB qb Ii=>?_);refine L7.l4 I6 (fun CL nl Ih=>?_);have lB:=(vl.mono qb).mono nl;obtain⟨amq,adL,HQ⟩:=lB.n;obtain⟨a1,fn,rn,By,rfl,ra,rf⟩:=adL.row (by omega);injection By with By Tj Tk
         subst By;subst Tk;refine aJ ?_;refine ae.draw rfl (by kernel_rfl) (a8:=[.val 0,.val 1,.val 2,.val 3,.val 4,.val 5,.val 6,.val 7,.cv 8]) (by kernel_rfl) ?_;refine cm ?_;refine aB rfl V.a9 ?_;refine aB rfl V.az ?_;refine aB rfl V.hb ?_;refine aB rfl V.bf ?_;refine' a3.ij rfl rfl (CD rfl rfl rfl rfl (h' rfl) rfl rfl rfl ?aa ?al ?bC ?au ?_);case au=>exact Va
         case al=>exact z7 _ _ _ (by show 0+((σ.ns.length:Int)).toNat*6+6<=fn.length;omega)
         case aa=>first|rfl|assumption
         case bC=>exact dV _
         refine a3.nil ?_;refine ae.e7 (m':=iA am ad (.slice (some ⟨wK,xM,none⟩) bI.length mM) aY s pl c5 cl l bo.cz bO (.slice Dm bo.vs.length DG) (.slice (some ⟨a1,0,none⟩) bo.ns.length cR) (.slice De bo.is.length Dy) xI [(a1,.opn (fn.take (0+((σ.ns.length:Int)).toNat*6)++[.int .i64 gX,.int .i64 hz,.int .i64 i0,.slice fG af.length lR,.slice jc ws.length jd,.slice none 0 0]++fn.drop (0+((σ.ns.length:Int)).toNat*6+6)) 92 [] 0)] xG) (lZ:=[(nB,_),(g6,_)]) ahi ?_;refine rg ?_;refine aV ?_;refine ns ?_;refine ae.ret ?_;refine'⟨.inr rfl,rfl,_,_,.tmp rfl .nil,?kf,?_⟩;case kf=>first|(have c:=yz;exact oh _ _)|exact bV _
         first
          |(have c:=yz
            have jT:=uW (most:=aY) (pl:=pl) (p:=p) (lv:=jV) (L:=L) (seen:=seen) (σ:=σ);rw[aq (show ¬eg σ.l 8=1 from oo),aF (by omega)] at jT;have po:(tB pl σ.ns.length (iK (nY p L seen σ) p.bQ (hc p L seen σ))).cz=σ.cz -1:=by show(iK _ _ _).cz=_;rw[Rn,Ol]
            rw[jT,po];exact⟨eL,rfl,_,_,_,_,_,_,_,rfl,so⟩)
          |(have c:=oo
            have jT:=uW (most:=aY) (pl:=pl) (p:=p) (lv:=jV) (L:=L) (seen:=seen) (σ:=σ);rw[aF (show eg σ.l 8=1 from oo)] at jT;rw[jT];exact⟨eL,rfl,_,_,_,_,_,_,_,rfl,so⟩)
          |exact⟨eL,rfl,_,_,_,_,_,_,_,rfl,so⟩
          |(have c:=gX
            have jT:=uW (most:=aY) (pl:=pl) (p:=p) (lv:=jV) (L:=L) (seen:=seen) (σ:=σ);rw[aq (show ¬eg σ.l 8=1 from oo),aq (by omega),Bk] at jT;have zg:lq aY pl (p::jV) L seen σ={bo with ns:=bo.ns.set σ.ns.length (rF p L seen σ af ws)}:=jT;rw[zg];subst ra;have bC:0+((σ.ns.length:Int)).toNat*6=σ.ns.length*6:=by omega
            obtain⟨nF,su⟩:∃nF:List Value,nF=(fn.take (σ.ns.length*6)++[Value.int .i64 gX,Value.int .i64 hz,Value.int .i64 i0,Value.slice fG af.length lR,Value.slice jc ws.length jd,Value.slice none 0 0]++fn.drop (σ.ns.length*6+6)).take (bo.ns.length*6):=⟨_,rfl⟩;refine⟨(ev.trans qb).trans nl,rfl,_,_,_,_,_,_,_,rfl,lB.le,lB.ik,lB.v,⟨nF,?_,?_⟩,lB.i,lB.sY⟩
            ·show hf _ _ _ (bo.ns.set _ _).length _ _
             rw[hW,bC,su];exact hf.of (Jf rf xo rfl)
            ·show hi 6 _ _ (bo.ns.set _ _)
             rw[su];refine hi.put (R':=fun _=>mE CL) HQ rf (fun _ _ _ q=>q) xo rfl ?_;rw[dL];exact⟨_,_,_,_,_,_,rfl,⟨3,Ii.mono nl⟩,⟨3,Ih⟩,⟨3,.nil⟩⟩)
end
end
end Go.Opn
