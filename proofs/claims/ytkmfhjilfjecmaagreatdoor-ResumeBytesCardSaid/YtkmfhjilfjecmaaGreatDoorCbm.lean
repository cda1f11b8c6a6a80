/- A part of the proof of ResumeBytes. -/
import Derived.Test.YtkmfhjilfjecmaaGreatDoorCbl
set_option maxRecDepth 100000
set_option maxHeartbeats 8000000
set_option linter.unusedVariables false
set_option linter.unusedSimpArgs false
namespace Go.Opn
noncomputable section
open Go.Cre Go.RowKit Go.Proofs
def JU(p:ep)(cs:List Value):Prop:=cs=[.int .i64 p.bZ,.int .i64 p.many,.int .i64 p.fM]
def JQ(pl:Nat)(bU:List ep):Prop:=∀p∈bU,-1<=p.bZ/\p.bZ<pl/\2<=p.many/\p.many<=3/\0<=p.fM/\p.fM<=15
theorem yU{p:ep}{q:Nat}(bw:0<=p.fM)(aa:p.fM<=15):IntKind.i64.wrap (BitVec.ofInt IntKind.i64.bits (p.fM.fdiv (2 ^ ((q:Int)).toNat)) &&& BitVec.ofInt IntKind.i64.bits 1).toNat=1↔Md p q=true:=by
 obtain⟨m,hm⟩:∃m:Nat,p.fM=(m:Int):=⟨p.fM.toNat,by omega⟩;unfold Md;rw[hm,cx,aog];have hle:m / 2 ^ q<=m:=Nat.div_le_self _ _;have e:(m:Int) / 2 ^ q=((m / 2 ^ q:Nat):Int):=by simp
 rw[e];generalize m / 2 ^ q=w at hle;rw[abA (by omega) (by omega)];simp
theorem Rd{α:Type}{x y z:α}{u v w:List α}:(x::y::z::(u++(v++w))).Perm (v++(x::y::z::(u++w))):=by
 have aa:(u++(v++w)).Perm (v++(u++w)):=by
  rw[<-gw,<-gw];exact List.perm_append_comm.append_right w
 exact(List.Perm.cons x (List.Perm.cons y (List.Perm.cons z aa))).trans Rf
theorem amz{α:Type}{x y z:α}{u v w:List α}:((y::z::(u++(v++w)))++[x]).Perm (v++(x::y::z::(u++w))):=
 (hU (l₂:=[x])).trans Rd
theorem LW{α:Type}{x y:α}{u v M:List α}:(M++(x::y::(u++v))).Perm (x::y::(u++(v++M))):=by
 refine(hU (l₁:=M)).trans ?_;show(x::y::((u++v)++M)).Perm _;rw[gw]
theorem Re{α:Type}{x y z:α}{u v M:List α}:(z::(M++(x::y::(u++v)))).Perm (v++(z::(M++(x::y::u)))):=by
 refine List.Perm.trans (List.Perm.cons z ?_) EZ;refine(At M (show(x::y::(u++v)).Perm (v++(x::y::u)) from hU (l₁:=x::y::u))).trans ?_;rw[<-gw,<-gw];exact List.perm_append_comm.append_right _
theorem amA{α:Type}{x y z:α}{u v M:List α}:((x::y::(u++(v++M)))++[z]).Perm (v++(z::(M++(x::y::u)))):=by
 refine(hU (l₂:=[z])).trans ?_;exact(List.Perm.cons z LW.symm).trans Re
theorem Yz{α:Type}{x y z:α}{u v M:List α}:(z::(M++(x::y::(u++v)))).Perm (u++(z::(M++(x::y::v)))):=
 (List.Perm.cons z (At M (List.Perm.cons x (List.Perm.cons y hU)))).trans Re
theorem amB{α:Type}{x y z:α}{u v M:List α}:((x::y::(u++(v++M)))++[z]).Perm (u++(z::(M++(x::y::v)))):=by
 refine(hU (l₂:=[z])).trans ?_;exact(List.Perm.cons z LW.symm).trans Yz
theorem YA{α:Type}{x y a b n:α}{u w:List α}:(x::y::a::b::(u++([n]++w))).Perm (n::(x::y::a::b::(u++w))):=by
 have h:(u++([n]++w)).Perm (n::(u++w)):=wM;refine((((h.cons b).cons a).cons y).cons x).trans ?_;exact(wM (l₁:=[x,y,a,b])).trans (.refl _)
section
variable (Q:dD Tryz.prog)(g0:Nat)(am ad:Nat)(s:Bool)(aY:Int)(pl:Nat)(cY:Option Addr)(cl:Nat)(l:List Int)(bU:List ep)(so:Option Addr)(nI:Nat)
def MQ(lv:List ep)(L:Nat):Prop:=
 ∀(J:aH) (seen:List (List Int)) (σ:ea) (a:Nat) (fx fk e':Value) (ag gp bf:aN) (bs:Option Addr) (cs:Nat),
  dI J (.slice cY l.length cl) l->fc J 88 3 JU (.slice so bU.length nI) bU->jY aY L σ->1<=σ.cI->seen.length=pl->(∀x∈seen,x.length=L)->fc J 22 1 (jW J) (.slice bs seen.length cs) seen->jG J σ a l fx fk e' ag gp bf->
  Fn (bd Q g0) 31 [.pointer (some ⟨am,0,none⟩),.int .i64 (L:Int),.slice bs seen.length cs] (iZ am ad (.slice so bU.length nI) aY s pl cY cl l σ.cI a fx fk e' ag gp bf) J
   (fun u m' af=>J.le af/\u=.int .i64 (σ.ns.length:Int)/\∃bV ph EU o8 wg sZ uz,m'=iZ am ad (.slice so bU.length nI) aY s pl cY cl l (l4 aY pl lv L seen σ).cI bV ph EU o8 wg sZ uz/\jG af (l4 aY pl lv L seen σ) bV l ph EU o8 wg sZ uz)
end
section
variable {Q:dD Tryz.prog}{g0:Nat}{am ad:Nat}{s:Bool}{aY:Int}{pl:Nat}{cY:Option Addr}{cl:Nat}{l:List Int}{bU:List ep}{so:Option Addr}{nI:Nat}
theorem ak8{J:aH}{lv fx fk e':Value}{ag gp bf:aN}{iE:Int}{a:Nat}{σ:ea}{info:Nat}{bZ:Int}(h:jG J σ a l fx fk e' ag gp bf)(oo:σ.is.length=σ.vs.length)(ao:0<=bZ->info<σ.is.length)(aP:0<σ.ns.length)(cr:σ.ns.length<=100000)(mE:σ.is.length<=100000):
 Fn (bd Q g0) 52 [.pointer (some ⟨am,0,none⟩),.int .i64 (info:Int),.int .i64 bZ] (iZ am ad lv aY s pl cY cl l iE a fx fk e' ag gp bf) J (fun u m' af=>J=af/\∃ph o8,m'=iZ am ad lv aY s pl cY cl l iE a ph fk o8 ag gp bf/\jG J (jq (info:Int) bZ σ) a l ph fk o8 ag gp bf):=by
 by_cases au:bZ<0
 ·refine(aep (z:=false) au _).perm ?_
  rintro v m' af ⟨rfl,rfl⟩;refine⟨_,.refl _,rfl,_,_,rfl,?_⟩;have e:jq (info:Int) bZ σ=σ:=by unfold jq;rw[aE (.inl au)]
  rw[e];exact h
 ·exact ak9 h oo (ao (by omega)) aP cr mE
theorem Uy{i p:Int}{σ:ea}:(jq i p σ).ns=σ.ns:=by unfold jq;split;rfl;split<;>rfl
theorem Uz{i p:Int}{σ:ea}:(jq i p σ).cI=σ.cI:=by unfold jq;split;rfl;split<;>rfl
theorem akH{p:ep}{bG:ea}{ws:List Int}{i:Nat}(h:ws.length<=i):(qz p bG ws).length<=i+1:=by
 unfold qz;split
 ·rw[dP];exact Nat.succ_le_succ h
 ·omega
theorem amy{α:Type}{x y a b n:α}{u w:List α}:((a::b::(u++([n]++w)))++[x,y]).Perm (n::x::y::a::b::(u++w)):=
 (hU (l₂:=[x,y])).trans YA
theorem L3{full new:List Value}{k n sz:Nat}(h:n*sz<=full.length)(aO:k<n)(aP:new.length=sz):n*sz<=(full.take (k*sz)++new++full.drop (k*sz+new.length)).length:=by
 have:k*sz+sz<=n*sz:=by rw[<-po];exact nB _ aO
 rw[dP,dP,iu,ms,mu (by omega)];omega
theorem TH{lv:List ep}{L:Nat}(hE:l.length<=1000000)(dE:pl<=4)(zm:aY<=1000)(kb:JQ pl bU)(OG:bU.length<=100)(aV:bU.drop L=lv)(bS:L<=bU.length)
 (Ep:∀p kh,lv=p::kh->MQ Q g0 am ad s aY pl cY cl l bU so nI kh (L+1)):MQ Q g0 am ad s aY pl cY cl l bU so nI lv L:=by
 intro J seen σ a fx fk e' ag gp bf bs cs av O6 e6 atD lj K8 WH dt;have HW:=e6.sum;have oo:=e6.is;have WX:=e6.uP;obtain⟨⟨bv,adF,rfl,Cn⟩,⟨aT,arO,rfl,gq⟩,⟨aK,acW,rfl,fX⟩⟩:=dt.GY;obtain⟨aQ,aP,ua⟩:=dt.n;have ta:addrEq bs bs=true:=WH.addr;have auM:addrEq so so=true:=O6.addr;have aiM:(kV seen σ).ns.length=σ.ns.length+1:=by show(σ.ns++_).length=_;simp
 have Wf:σ.ns.length<(kV seen σ).ns.length:=by omega
 have PM:(kV seen σ).ns.length<=100000:=by omega
 obtain⟨_,Ed⟩:=WH.at;obtain⟨_,aib⟩:=O6.at;refine Fn.cH (cM Tryz.func31) rfl rfl fun H=>?_;refine rg ?_;refine I V.az ?_;refine bi ?_;refine aM ?_;refine I V.aG ?_;refine aM ?_;refine bi ?_;refine aM ?_;refine I V.aG ?_;refine I V.bt ?_;refine aM ?_;refine dC ?_;refine bi ?_;refine aM ?_;refine I V.aG ?_;refine I V.jl ?_;refine jK (Rt Q g0) fun AE=>?_;refine' W.step rfl (.of (R4 rfl rfl rfl rfl rfl rfl (Rt Q g0) (ao6 Q g0) (fun i q=>by cases q) ?cw ?hm ?U ?cr ?ca ?a' ?av fun aar x5 xx=>?_));case cw=>assumption
 case hm=>exact Rd
 case U=>exact hR
 case cr=>first|rfl|(simp;done)|(simp;omega)
 case ca=>first|rfl|exact hf _
 case a'=>exact cc
 case av=>exact cc
 have na:=dt.push ua xx seen;obtain⟨_,⟨F9,Gu,rfl,auN⟩,_⟩:=na.GY;refine aM ?_;refine dC ?_;refine a6 ?_;refine ab.eC (m':=iZ am ad (.slice so bU.length nI) aY s pl cY cl l (σ.cI -1) a (.slice bv σ.vs.length adF) (.slice F9 (kV seen σ).ns.length Gu) (.slice aK σ.is.length acW) ag x5 bf) (h2:=[(AE,_)]) amz ?_;refine rg ?_;refine aM ?_;refine I V.aG ?_;refine I V.bL ?_;refine I V.aZ ?_;refine I V.ag ?_;refine dr 48 (fun Om=>?_) fun Om=>?_
 ·obtain rfl:lv=[]:=by rw[<-aV];exact Aw (by omega)
  have OL:=na;refine ah ?_;refine ah ?_;refine ah ?_;refine ah ?_;refine W.oU rfl rfl rfl rfl rfl ?_;refine ah ?_;refine I V.aU ?_;refine ns ?_;refine ab.Kk rfl ?_;refine rg ?_;refine aM ?_;refine' W.step rfl (Exec.call rfl rfl rfl rfl rfl rfl rfl (bf:=iZ am ad _ aY s pl cY cl l (σ.cI -1) _ _ _ _ _ _ _) (bM:=[]) (by rw[gj]) trivial (QH av hE OL (by omega) Wf PM) ?_);rintro v m' dO ch ⟨_,bV,sZ,rfl,tU⟩;rw[gj];refine bi ?_;refine aM ?_;refine ns ?_;refine ab.ret ?_;refine'⟨.inr rfl,rfl,_,_,.tmp rfl .nil,?kz,?_⟩;case kz=>first|(have c:=AM;exact q6 _ _)|exact bu _
  first
   |exact⟨ch,rfl,_,_,_,_,_,_,_,rfl,tU⟩
   |(have c:=hv
     have kd:=w3 (most:=aY) (pl:=pl) (p:=p) (lv:=kh) (L:=L) (seen:=seen) (σ:=σ);rw[an (show ¬ej σ.l 8=1 from rf),an (by omega),og] at kd;have Br:l4 aY pl (p::kh) L seen σ={bG with ns:=bG.ns.set σ.ns.length (s4 p L seen σ ak ws)}:=kd;rw[Br];subst ql;have bE:0+((σ.ns.length:Int)).toNat*6=σ.ns.length*6:=by omega
     obtain⟨oO,t'⟩:∃oO:List Value,oO=(fn.take (σ.ns.length*6)++[Value.int .i64 hv,Value.int .i64 hH,Value.int .i64 i0,Value.slice dK ak.length ha,Value.slice sr ws.length sx,Value.slice none 0 0]++fn.drop (σ.ns.length*6+6)).take (bG.ns.length*6):=⟨_,rfl⟩;refine⟨(dp.trans ke).trans mh,rfl,_,_,_,_,_,_,_,rfl,ma.le,ma.qb,ma.v,⟨oO,?_,?_⟩,ma.i,ma.uJ⟩
     ·show hj _ _ _ (bG.ns.set _ _).length _ _
      rw[fz,bE,t'];exact hj.of (L3 uh zp rfl)
     ·show hp 6 _ _ (bG.ns.set _ _)
      rw[t'];refine hp.put (R':=fun _=>nC p6) KS uh (fun _ _ _ q=>q) zp rfl ?_;rw[dM];exact⟨_,_,_,_,_,_,rfl,⟨3,La.mono mh⟩,⟨3,K'⟩,⟨3,.nil⟩⟩)
 ·obtain⟨p,kh,rfl⟩:∃p kh,lv=p::kh:=by
   cases lv with
   |nil=>have:=List.drop_eq_nil_iff.1 aV;omega
   |cons p r=>exact⟨p,r,rfl⟩
  obtain⟨oW,Bc,xD⟩:=NU aV;have mF:=kb p (cb Bc);refine aX V.ag ?_;refine aX V.pb ?_;refine aX V.ba ?_;refine aX V.aG ?_;refine' W.sH rfl rfl rfl (Exec.call rfl rfl rfl rfl rfl rfl rfl (bf:=iZ am ad _ aY s pl cY cl l (σ.cI -1) _ _ _ _ _ _ _) (bM:=[]) (by rw[gj]) trivial (XH av hE na (by decide)) ?_);rintro v m' af hle ⟨rfl,rfl,rfl⟩;rw[gj];refine aX V.aZ ?_;refine I V.aU ?_;refine ns ?_;refine If (fun rf=>?_) fun rf=>?_
  ·have OL:=na.next 8;refine rg ?_;refine aM ?_;refine' W.step rfl (Exec.call rfl rfl rfl rfl rfl rfl rfl (bf:=iZ am ad _ aY s pl cY cl l (σ.cI -1) _ _ _ _ _ _ _) (bM:=[]) (by rw[gj]) trivial (QH av hE OL (by omega) Wf PM) ?_);rintro v m' dO ch ⟨_,bV,sZ,rfl,tU⟩;rw[gj];refine bi ?_;refine aM ?_;refine ns ?_;refine ab.ret ?_;refine'⟨.inr rfl,rfl,_,_,.tmp rfl .nil,?kz,?_⟩;case kz=>first|(have c:=AM;exact q6 _ _)|exact bu _
   first
    |(have c:=rf
      have kd:=w3 (most:=aY) (pl:=pl) (p:=p) (lv:=kh) (L:=L) (seen:=seen) (σ:=σ);rw[aE (show ej σ.l 8=1 from rf)] at kd;rw[kd];exact⟨ch,rfl,_,_,_,_,_,_,_,rfl,tU⟩)
    |exact⟨ch,rfl,_,_,_,_,_,_,_,rfl,tU⟩
    |(have c:=hv
      have kd:=w3 (most:=aY) (pl:=pl) (p:=p) (lv:=kh) (L:=L) (seen:=seen) (σ:=σ);rw[an (show ¬ej σ.l 8=1 from rf),an (by omega),og] at kd;have Br:l4 aY pl (p::kh) L seen σ={bG with ns:=bG.ns.set σ.ns.length (s4 p L seen σ ak ws)}:=kd;rw[Br];subst ql;have bE:0+((σ.ns.length:Int)).toNat*6=σ.ns.length*6:=by omega
      obtain⟨oO,t'⟩:∃oO:List Value,oO=(fn.take (σ.ns.length*6)++[Value.int .i64 hv,Value.int .i64 hH,Value.int .i64 i0,Value.slice dK ak.length ha,Value.slice sr ws.length sx,Value.slice none 0 0]++fn.drop (σ.ns.length*6+6)).take (bG.ns.length*6):=⟨_,rfl⟩;refine⟨(dp.trans ke).trans mh,rfl,_,_,_,_,_,_,_,rfl,ma.le,ma.qb,ma.v,⟨oO,?_,?_⟩,ma.i,ma.uJ⟩
      ·show hj _ _ _ (bG.ns.set _ _).length _ _
       rw[fz,bE,t'];exact hj.of (L3 uh zp rfl)
      ·show hp 6 _ _ (bG.ns.set _ _)
       rw[t'];refine hp.put (R':=fun _=>nC p6) KS uh (fun _ _ _ q=>q) zp rfl ?_;rw[dM];exact⟨_,_,_,_,_,_,rfl,⟨3,La.mono mh⟩,⟨3,K'⟩,⟨3,.nil⟩⟩)
  ·obtain⟨anX,Rr,au5,au6,Zd,anW,Ze⟩:=aom (p:=p) (seen:=seen) e6 mF.2.2.1 mF.2.2.2.1;have au7:(hg p L seen σ).ns.length=σ.ns.length+1:=by rw[anX];simp
   have anY:=Zd.is;have au8:=Zd.uP;obtain⟨yN,zK,arL,asm,rfl,asF,aiq⟩:=aib (by omega);obtain⟨hH,arT,rK,as5,ath,VW⟩:=aiq L (by omega) (by omega);rw[cx] at rK;obtain rfl:p=hH:=by rw[Bc] at rK;injection rK
   unfold JU at VW;subst VW;refine ln ?_;refine aM ?_;refine I V.aG ?_;refine I V.ag ?_;refine I V.aW ?_;refine I V.c9 ?_;refine' W.step rfl (.of (eT rfl rfl rfl (aqC Q g0) rfl rfl rfl fun hr=>?_));refine dC ?_;refine bi ?_;refine I V.ba ?_;refine I V.aG ?_;refine aM ?_;refine bi ?_;refine I V.ba ?_;refine I V.aG ?_;refine I V.aZ ?_;refine a6 ?_;refine fR [9,10,71,0,1,2,7,8] ?_;refine aj ?_;refine' ab.y2 (α:=(Nat)×(Value)×(Value)×(aN)×(aN)) 3 (fun(bC:(Nat)×(Value)×(Value)×(aN)×(aN))=>match bC with|(a2,Ae,BS,wh,x4)=>[(9,.int .i64 (iY p L seen σ)),(10,.int .i64 (o7 p L seen σ:Int))]) (fun(bC:(Nat)×(Value)×(Value)×(aN)×(aN))=>match bC with|(a2,Ae,BS,wh,x4)=>(hr,.row [.int .i64 p.bZ,.int .i64 p.many,.int .i64 p.fM] 88)::iZ am ad (.slice (some ⟨yN,zK,none⟩) bU.length nI) aY s pl cY cl l (σ.cI -1) a2 Ae (.slice F9 (kV seen σ).ns.length Gu) BS wh x5 x4) (fun(bC:(Nat)×(Value)×(Value)×(aN)×(aN))=>match bC with|(a2,Ae,BS,wh,x4)=>J) (fun(bC:(Nat)×(Value)×(Value)×(aN)×(aN))=>match bC with|(a2,Ae,BS,wh,x4)=>jG J (hg p L seen σ) a2 l Ae (.slice F9 (kV seen σ).ns.length Gu) BS wh x5 x4) ?ac4 ?ad7
   case ac4=>
    refine If (fun Ns=>?_) fun Ns=>?_
    ·have Qc:hg p L seen σ=(eD p L (fb p seen) (fG seen σ)).1:=by unfold hg;rw[an (by omega)]
     have V5:o7 p L seen σ=(eD p L (fb p seen) (fG seen σ)).2:=by unfold o7;rw[an (by omega)]
     obtain⟨abI,amk,ade,aeH,rfl,OC,Pm⟩:=Ed (by omega);obtain⟨sp,vn,om,vL,mg,abY,adC,rfl,zs⟩:=Pm p.bZ (by omega) (by omega);have sP:=mg 0 _ (by decide) rfl;obtain rfl:sp=fb p seen:=by
        have:=Zh lj (by omega:0<=p.bZ) mF.2.1;rw[this] at om;injection om with om;exact om.symm
     have ajO:(fb p seen).length<=1000:=by rw[K8 _ (cb om)];omega
     obtain⟨y,ai,sV⟩:=Ze (by omega);have aiw:=eU ai;refine aj ?_;refine ab.draw rfl (by kernel_rfl) (bc:=[.val 0,.val 1,.val 2,.val 3,.val 4,.val 5,.val 6,.val 7,.val 8,.bR 9,.val 10]) (by kernel_rfl) ?_;refine cq ?_;refine al rfl V.aG ?_;refine cq ?_;refine al rfl V.aG ?_;refine al rfl V.aW ?_;refine al rfl V.aG ?_;refine' a8.call rfl rfl rfl rfl rfl rfl rfl rfl rfl rfl (bf:=iZ am ad _ aY s pl cY cl l (σ.cI -1) _ _ _ _ _ _ _) (bM:=[(hr,_)]) (hU (l₂:=[_])) trivial (ak' (σ:=fG seen σ) (p:=p) (L:=L) av hE (na.next 8) oo (by show σ.vs.length<=_;omega) zs ajO) ?_;rintro v m' af hle ⟨rfl,rfl,a2,Ae,BS,wh,x4,rfl,xu⟩;refine al rfl V.az ?_;refine a8.nil ?_;refine ab.gN (hU (l₁:=[_])) ?_;rw[<-V5];rw[<-Qc] at xu;obtain⟨acX,pF,ahJ⟩:=xu.i;obtain⟨g',zc,iH,rfl,rfl,O9,aiI⟩:=pF.row (by omega);obtain⟨iQ,arV,hd,as7,aiC,rfl⟩:=ahJ.at O9 aiw;obtain rfl:y=iQ:=by rw[ai] at hd;injection hd
     have atk:=aiC 1 _ (by decide) rfl;refine rg ?_;refine aM ?_;refine I V.aG ?_;refine I V.ag ?_;refine I V.aW ?_;refine I V.ba ?_;refine I V.aG ?_;refine I V.az ?_;refine a6 ?_;refine'⟨⟨a2,Ae,(.slice (some ⟨g',0,none⟩) (hg p L seen σ).is.length cZ),wh,[(g',.opn zc 77 iH 0)]⟩,_,?hinv,rfl,⟨?m9,?m10,rfl,rfl,rfl,rfl,rfl,trivial⟩,rR,rfl⟩;case m9=>exact bP
     case m10=>exact bP
     case hinv=>exact xu
    ·have Qc:hg p L seen σ=fG seen σ:=by unfold hg;rw[aE (by omega)]
     have atn:iY p L seen σ=p.many:=by unfold iY;rw[aE (by omega)]
     have V5:o7 p L seen σ=0:=by unfold o7;rw[aE (by omega)]
     refine c7 ?_;refine'⟨⟨kM l a 8,_,_,ag,bf⟩,_,?hinv,rfl,⟨?m9,?m10,rfl,rfl,rfl,rfl,rfl,trivial⟩,rR,rfl⟩;case m9=>exact bP
     case m10=>exact bP
     case hinv=>rw[Qc];exact na.next 8
   case ad7=>
    rintro⟨a2,Ae,BS,wh,x4⟩ hinv;try simp only at hinv
    have OM:=hinv;obtain⟨⟨w4,xb,rfl,anl⟩,_,⟨Tu,Ui,rfl,auJ⟩⟩:=OM.GY;refine aj ?_;refine ab.draw rfl (by kernel_rfl) (bc:=[.val 0,.val 1,.val 2,.val 3,.val 4,.val 5,.val 6,.val 7,.val 8,.val 9,.val 10,.val 11,.val 12,.val 13]) (by kernel_rfl) ?_;refine al rfl V.ag ?_;refine al rfl V.bt ?_;refine cq ?_;refine al rfl V.aG ?_;refine al rfl V.bt ?_;refine al rfl V.ag ?_;refine al rfl V.bt ?_;refine cq ?_;refine al rfl V.aG ?_;refine al rfl V.aZ ?_;refine a8.nil ?_;refine aj ?_;refine If (fun AM=>?_) fun AM=>?_
    ·refine rg ?_;refine aM ?_;refine I V.aG ?_;refine' W.step rfl (Exec.call rfl rfl rfl rfl rfl rfl rfl (bf:=iZ am ad _ aY s pl cY cl l (σ.cI -1) _ _ _ _ _ _ _) (bM:=[(hr,_)]) (hU (l₂:=[_])) trivial (ak8 OM anY (fun q=>by obtain⟨y,ai,_⟩:=Ze q;exact eU ai) (by omega) (by omega) (by omega)) ?_);rintro v m' af hle ⟨rfl,MC,Lp,rfl,xv⟩;refine bi ?_;refine aM ?_;refine' W.step rfl (Exec.call rfl rfl rfl rfl rfl rfl rfl (bf:=iZ am ad _ aY s pl cY cl l (σ.cI -1) _ _ _ _ _ _ _) (bM:=[(hr,_)]) (.refl _) trivial (QH av hE xv (by omega) (by rw[Uy];omega) (by rw[Uy];omega)) ?_);rintro v m' dO ch ⟨_,bV,sZ,rfl,tU⟩;refine bi ?_;refine aM ?_;refine ns ?_;refine ab.ret ?_;refine'⟨.inr rfl,rfl,_,_,.tmp rfl .nil,?kz,?_⟩;case kz=>first|(have c:=AM;exact q6 _ _)|exact bu _
     first
        |(have c:=AM
          have kd:=w3 (most:=aY) (pl:=pl) (p:=p) (lv:=kh) (L:=L) (seen:=seen) (σ:=σ);rw[an (show ¬ej σ.l 8=1 from rf),aE (by omega)] at kd;have xR:(vv pl σ.ns.length (jq (o7 p L seen σ) p.bZ (hg p L seen σ))).cI=σ.cI -1:=by show(jq _ _ _).cI=_;rw[Uz,Rr]
          rw[kd,xR];exact⟨ch,rfl,_,_,_,_,_,_,_,rfl,tU⟩)
        |(have c:=rf
          have kd:=w3 (most:=aY) (pl:=pl) (p:=p) (lv:=kh) (L:=L) (seen:=seen) (σ:=σ);rw[aE (show ej σ.l 8=1 from rf)] at kd;rw[kd];exact⟨ch,rfl,_,_,_,_,_,_,_,rfl,tU⟩)
        |exact⟨ch,rfl,_,_,_,_,_,_,_,rfl,tU⟩
        |(have c:=hv
          have kd:=w3 (most:=aY) (pl:=pl) (p:=p) (lv:=kh) (L:=L) (seen:=seen) (σ:=σ);rw[an (show ¬ej σ.l 8=1 from rf),an (by omega),og] at kd;have Br:l4 aY pl (p::kh) L seen σ={bG with ns:=bG.ns.set σ.ns.length (s4 p L seen σ ak ws)}:=kd;rw[Br];subst ql;have bE:0+((σ.ns.length:Int)).toNat*6=σ.ns.length*6:=by omega
          obtain⟨oO,t'⟩:∃oO:List Value,oO=(fn.take (σ.ns.length*6)++[Value.int .i64 hv,Value.int .i64 hH,Value.int .i64 i0,Value.slice dK ak.length ha,Value.slice sr ws.length sx,Value.slice none 0 0]++fn.drop (σ.ns.length*6+6)).take (bG.ns.length*6):=⟨_,rfl⟩;refine⟨(dp.trans ke).trans mh,rfl,_,_,_,_,_,_,_,rfl,ma.le,ma.qb,ma.v,⟨oO,?_,?_⟩,ma.i,ma.uJ⟩
          ·show hj _ _ _ (bG.ns.set _ _).length _ _
           rw[fz,bE,t'];exact hj.of (L3 uh zp rfl)
          ·show hp 6 _ _ (bG.ns.set _ _)
           rw[t'];refine hp.put (R':=fun _=>nC p6) KS uh (fun _ _ _ q=>q) zp rfl ?_;rw[dM];exact⟨_,_,_,_,_,_,rfl,⟨3,La.mono mh⟩,⟨3,K'⟩,⟨3,.nil⟩⟩)
    ·refine aj ?_;refine ab.skip ?_;refine rg ?_;refine aM ?_;refine I V.aG ?_;refine I V.ag ?_;refine I V.bt ?_;refine aM ?_;refine dC ?_;refine a6 ?_;rw[<-Rr];refine rg ?_;refine I V.jl ?_;refine' W.step rfl (.of (eT rfl rfl rfl (oB Q g0) rfl rfl rfl fun kL=>?_));refine dC ?_;refine bi ?_;refine I V.ba ?_;refine I V.aG ?_;refine I V.aZ ?_;refine a6 ?_;refine fR [10,126,0,1,2,7,8,9,11] ?_;refine aj ?_;refine' ab.y2 (α:=(Int)×(Int)×(Int)) 2 (fun(bC:(Int)×(Int)×(Int))=>match bC with|(hv,hH,i0)=>[]) (fun(bC:(Int)×(Int)×(Int))=>match bC with|(hv,hH,i0)=>(kL,.row [.int .i64 hv,.int .i64 hH,.int .i64 i0,.slice none 0 0,.slice none 0 0,.slice none 0 0] 47)::(hr,.row [.int .i64 p.bZ,.int .i64 p.many,.int .i64 p.fM] 88)::iZ am ad (.slice (some ⟨yN,zK,none⟩) bU.length nI) aY s pl cY cl l ((hg p L seen σ).cI+iY p L seen σ) a2 (.slice w4 (hg p L seen σ).vs.length xb) (.slice F9 (kV seen σ).ns.length Gu) (.slice Tu (hg p L seen σ).is.length Ui) wh x5 x4) (fun(bC:(Int)×(Int)×(Int))=>match bC with|(hv,hH,i0)=>J) (fun(bC:(Int)×(Int)×(Int))=>match bC with|(hv,hH,i0)=>∀ak ws,s4 p L seen σ ak ws=⟨hv,hH,i0,ak,ws,[]⟩) ?acY ?ad1
     case acY=>
      refine If (fun ach=>?_) fun ach=>?_
      ·
        refine rg ?_;refine I V.ba ?_;refine I V.aG ?_;refine aM ?_;refine dC ?_;refine a6 ?_;refine'⟨⟨2,p.bZ,(o7 p L seen σ:Int)⟩,_,?hinv,rfl,⟨rfl,rfl,rfl,rfl,rfl,rfl,rfl,trivial⟩,rR,rfl⟩;case hinv=>intro ak ws;unfold s4;rw[an (by omega)]
      ·
        refine aj ?_;refine ab.skip ?_;refine'⟨⟨1,0,0⟩,_,?hinv,rfl,⟨rfl,rfl,rfl,rfl,rfl,rfl,rfl,trivial⟩,rR,rfl⟩;case hinv=>intro ak ws;unfold s4;rw[aE (by omega)]
     case ad1=>
      rintro⟨hv,hH,i0⟩ hinv;try simp only at hinv
      have dM:=hinv;refine rg ?_;refine I V.az ?_;refine ns ?_;refine ab.block ?_;refine' ab.c0 (l':=[(12,.int .i64 ((0):Int)),(0,_),(1,_),(2,_),(7,_),(8,_),(9,_),(11,_)]) ⟨?uQ,rfl,rfl,rfl,rfl,rfl,rfl,rfl,trivial⟩ (bu _) ?_;case uQ=>exact bP
      refine aj ?_;refine' ab.dF (fun(bC:Nat×ea×Nat×Value×Value×Value×aN×aN×aN×(List Int)×(List Int)×Value×Value×aN×aN×aH)=>match bC with|(i,bG,a3,MC,Q1,Lp,zF,B2,zE,ak,ws,RX,RW,qA,Iz,dX)=>⟨[(12,.int .i64 (i:Int))],(kL,.row [.int .i64 hv,.int .i64 hH,.int .i64 i0,RX,RW,.slice none 0 0] 47)::(hr,.row [.int .i64 p.bZ,.int .i64 p.many,.int .i64 p.fM] 88)::(qA++(Iz++iZ am ad (.slice (some ⟨yN,zK,none⟩) bU.length nI) aY s pl cY cl l (bG.cI) a3 MC Q1 Lp zF B2 zE)),dX,i<=(iY p L seen σ).toNat/\kids (l4 aY pl kh (L+1)) p seen (iY p L seen σ).toNat 0 {hg p L seen σ with cI:=(hg p L seen σ).cI+iY p L seen σ} [] []=kids (l4 aY pl kh (L+1)) p seen ((iY p L seen σ).toNat -i) i bG ak ws/\jY aY (L+1) bG/\(((iY p L seen σ).toNat -i:Nat):Int)<=bG.cI/\J.le dX/\jG dX bG a3 l MC Q1 Lp zF B2 zE/\ak.length=i/\ws.length<=i/\Acc 3 1 RX ak.length (ak.map (Value.int .i64)) qA/\Acc 3 1 RW ws.length (ws.map (Value.int .i64)) Iz/\σ.ns.length<bG.ns.length,(iY p L seen σ).toNat -i⟩) ⟨0,{hg p L seen σ with cI:=(hg p L seen σ).cI+iY p L seen σ},a2,.slice w4 (hg p L seen σ).vs.length xb,.slice F9 (kV seen σ).ns.length Gu,.slice Tu (hg p L seen σ).is.length Ui,wh,x5,x4,[],[],.slice none 0 0,.slice none 0 0,[],[],J⟩ ?hs ?bA
      case hs=>refine⟨cy _,rfl,anW (by omega),by show _<=(hg p L seen σ).cI+_;omega,aH.le.refl _,OM.cI _,rfl,cW _,.nil,.nil,by show _<(hg p L seen σ).ns.length;omega⟩
      case bA=>
        rintro⟨i,bG,a3,MC,Q1,Lp,zF,B2,zE,ak,ws,RX,RW,qA,Iz,dX⟩ hinv;try simp only at hinv
        obtain⟨ao,og,pJ,atE,dp,xv,e4,aj6,VQ,OS,zp⟩:=hinv;have atX:=pJ.sum;have atV:=pJ.is;obtain⟨⟨Gh,Gz,rfl,auT⟩,⟨J9,Ki,rfl,auO⟩,⟨F7,Gr,rfl,auK⟩⟩:=xv.GY;obtain⟨dK,ha,rfl,auY⟩:=VQ.iN;obtain⟨sr,sx,rfl,auX⟩:=OS.iN;refine rg ?_;refine aM ?_;refine I V.aZ ?_;refine ns ?_;refine If (fun aci=>?_) fun aci=>?_
        ·refine aj ?_;refine ab.skip ?_;refine aj ?_;refine ab.block ?_;refine rg ?_;refine I V.ba ?_;refine I V.aG ?_;refine I V.aZ ?_;refine a6 ?_;refine fR [138,0,1,2,7,8,9,11,12] ?_;refine aj ?_;refine' ab.y2 (α:=(Nat)×(Value)×(aN)) 1 (fun(bC:(Nat)×(Value)×(aN))=>match bC with|(a4,Fk,uA)=>[]) (fun(bC:(Nat)×(Value)×(aN))=>match bC with|(a4,Fk,uA)=>(kL,.row [.int .i64 hv,.int .i64 hH,.int .i64 i0,(.slice dK ak.length ha),Fk,.slice none 0 0] 47)::(hr,.row [.int .i64 p.bZ,.int .i64 p.many,.int .i64 p.fM] 88)::(qA++(uA++iZ am ad (.slice (some ⟨yN,zK,none⟩) bU.length nI) aY s pl cY cl l (bG.cI) a4 (.slice Gh bG.vs.length Gz) (.slice J9 bG.ns.length Ki) (.slice F7 bG.is.length Gr) zF B2 zE))) (fun(bC:(Nat)×(Value)×(aN))=>match bC with|(a4,Fk,uA)=>dX) (fun(bC:(Nat)×(Value)×(aN))=>match bC with|(a4,Fk,uA)=>jG dX (qy p bG) a4 l (.slice Gh bG.vs.length Gz) (.slice J9 bG.ns.length Ki) (.slice F7 bG.is.length Gr) zF B2 zE/\Acc 3 1 Fk (qz p bG ws).length ((qz p bG ws).map (Value.int .i64)) uA) ?acZ ?ad2
         case acZ=>
          refine If (fun Gl=>?_) fun Gl=>?_
          ·have HP:=pN (l:=bG.l) (n:=3) (by omega);refine aj ?_;refine ab.draw rfl (by kernel_rfl) (bc:=[.val 0,.val 1,.val 2,.val 3,.val 4,.val 5,.bR 6,.val 7,.gk 8,.cA [7,1,0],.bR 9,.val 10,.bR 11]) (by kernel_rfl) ?_;refine al rfl V.ba ?_;refine al rfl V.aG ?_;refine cq ?_;refine al rfl V.aG ?_;refine' a8.call rfl rfl rfl rfl rfl rfl rfl rfl rfl rfl (bf:=iZ am ad _ aY s pl cY cl l _ _ _ _ _ _ _ _) (bM:=_::_::(qA++Iz)) LW trivial (XH (av.mono dp) hE xv (by decide)) ?_;rintro v m' af hle ⟨rfl,rfl,rfl⟩;refine al rfl V.bt ?_;refine a8.buildSlice rfl rfl rfl rfl rfl rfl (e0 Q g0) rfl rfl rfl fun abg=>?_;refine a8.cA eX ?_;refine' a8.fP rfl rfl (kk rfl rfl rfl rfl rfl rfl (e0 Q g0) (pZ Q g0) (fun i q=>by cases q) ?cw ?hm ?U ?cr ?ca ?av fun avk ala VF=>?_);case cw=>assumption
           case hm=>exact Re
           case U=>exact hR
           case cr=>first|rfl|(simp;done)|(simp;omega)
           case ca=>first|rfl|exact hf _
           case av=>exact cc
           obtain⟨abM,No,rfl,auw⟩:=VF.iN;refine al rfl V.ba ?_;refine kn rfl ?_;refine a8.nil ?_;refine'⟨⟨kM l a3 3,.slice abM (ws.length+1) No,ala⟩,_,?hinv,rfl,⟨rfl,rfl,rfl,rfl,rfl,rfl,rfl,rfl,trivial⟩,⟨[(abg,_)],amA⟩,rfl⟩;case hinv=>refine⟨by unfold qy;rw[aE Gl];exact xv.next 3,?_⟩;have e:qz p bG ws=ws++[1+ej bG.l 3]:=(by unfold qz;rw[aE Gl]);rw[e,dP,MY];exact VF
          ·refine aj ?_;refine ab.skip ?_;refine'⟨⟨a3,.slice sr ws.length sx,Iz⟩,_,?hinv,rfl,⟨rfl,rfl,rfl,rfl,rfl,rfl,rfl,rfl,trivial⟩,rR,rfl⟩;case hinv=>refine⟨by unfold qy;rw[an Gl];exact xv,by unfold qz;rw[an Gl];exact OS⟩
         case ad2=>
          rintro⟨a4,Fk,uA⟩ hinv;try simp only at hinv
          obtain⟨ahf,VP⟩:=hinv;obtain⟨vg,vo,rfl,ano⟩:=VP.iN;refine rg ?_;refine I V.az ?_;refine bi ?_;refine I V.az ?_;refine ns ?_;refine ab.block ?_;refine' ab.c0 (l':=[(13,(.slice none 0 0)),(14,.int .i64 ((0):Int)),(0,_),(1,_),(2,_),(7,_),(8,_),(9,_),(11,_),(12,_)]) ⟨?r9,?CK,rfl,rfl,rfl,rfl,rfl,rfl,rfl,rfl,trivial⟩ (bu _) ?_;case r9=>exact bP
          case CK=>exact bP
          refine aj ?_;refine' ab.dF (fun(bC:Nat×Value×(List Value)×aN×aH)=>match bC with|(q,uP,cells,LB,pj)=>⟨[(13,uP),(14,.int .i64 (q:Int))],LB++((kL,.row [.int .i64 hv,.int .i64 hH,.int .i64 i0,(.slice dK ak.length ha),(.slice vg (qz p bG ws).length vo),.slice none 0 0] 47)::(hr,.row [.int .i64 p.bZ,.int .i64 p.many,.int .i64 p.fM] 88)::(qA++(uA++iZ am ad (.slice (some ⟨yN,zK,none⟩) bU.length nI) aY s pl cY cl l (bG.cI) a4 (.slice Gh bG.vs.length Gz) (.slice J9 bG.ns.length Ki) (.slice F7 bG.is.length Gr) zF B2 zE))),pj,q<=seen.length/\dX.le pj/\Acc 22 1 uP q cells LB/\hp 1 (fun _=>jW pj) cells ((kD p i seen).take q),seen.length -q⟩) ⟨0,.slice none 0 0,[],[],dX⟩ ?hs ?bA
          case hs=>refine⟨cy _,aH.le.refl _,.nil,rfl,fun i x h=>by simp at h⟩
          case bA=>
           rintro⟨q,uP,cells,LB,pj⟩ hinv;try simp only at hinv
           obtain⟨c8,jZ,VO,oZ⟩:=hinv;obtain⟨J',Kj,rfl,anj⟩:=VO.iN;refine rg ?_;refine aM ?_;refine I V.aZ ?_;refine ns ?_;refine If (fun acj=>?_) fun acj=>?_
           ·obtain⟨abI,amk,ade,aeH,rfl,OC,Pm⟩:=Ed (by omega);obtain⟨Mi,vn,HV,vL,mg,abY,adC,rfl,zs⟩:=Pm q (by omega) (by omega);have sP:=mg 0 _ (by decide) rfl;rw[cx] at HV;have atJ:Mi.length<=1000:=by rw[K8 _ (cb HV)];omega
            have OC:=jZ _ _ (dp _ _ OC);obtain⟨asp,zs⟩:=zs;have zs:=(zs.mono dp).mono jZ;have auR:=zs.addr;refine c7 ?_;refine aj ?_;refine ab.block ?_;refine rg ?_;refine jK (e0 Q g0) fun a156=>?_;refine aM ?_;refine I V.aW ?_;refine I V.aG ?_;refine' W.step rfl (.of (kk rfl rfl rfl rfl rfl rfl (e0 Q g0) (pZ Q g0) (fun i q=>by cases q) ?cw ?hm ?U ?cr ?ca ?av fun avl at7 ahr=>?_));case cw=>exact Acc.kt _
            case hm=>exact .refl _
            case U=>exact zs.rd
            case cr=>exact(by simp)
            case ca=>exact hf _
            case av=>omega
            obtain⟨aq6,arn,rfl,auy⟩:=ahr.iN;refine I V.az ?_;refine a6 ?_;refine fR [0,1,2,7,8,9,11,12,13,14,15] ?_;refine aj ?_;refine' ab.hl 0 [(173,.bool (decide (((q:Int)=p.bZ\/Md p q=true))))] ?adx ?aej;case adx=>
             refine ab.region ?_;refine aM ?_;refine I V.aG ?_;refine I V.aZ ?_;refine I V.ag ?_;refine dr 166 (fun oa=>?_) fun oa=>?_
             ·refine ah ?_;refine ah ?_;refine ah ?_;refine W.oU rfl rfl rfl rfl rfl ?_;refine W.oU rfl rfl rfl rfl rfl ?_;refine ah ?_;refine I V.aU ?_;refine a6 ?_;refine'⟨⟨_,rfl,⟨?n173,rfl,rfl,rfl,rfl,rfl,rfl,rfl,rfl,rfl,rfl,rfl,trivial⟩⟩,bu _,rfl⟩;case n173=>first|exact iV rfl (by first|exact .inl oa|exact(yU (q:=q) mF.2.2.2.2.1 mF.2.2.2.2.2).trans ⟨.inr,fun h=>h.resolve_left oa⟩)|exact iT rfl (by first|exact .inl oa|exact(yU (q:=q) mF.2.2.2.2.1 mF.2.2.2.2.2).trans ⟨.inr,fun h=>h.resolve_left oa⟩)|exact iU rfl (by first|exact .inl oa|exact(yU (q:=q) mF.2.2.2.2.1 mF.2.2.2.2.2).trans ⟨.inr,fun h=>h.resolve_left oa⟩)|exact Gx rfl (by first|exact .inl oa|exact(yU (q:=q) mF.2.2.2.2.1 mF.2.2.2.2.2).trans ⟨.inr,fun h=>h.resolve_left oa⟩)
             ·refine aX V.ba ?_;refine aX V.aG ?_;refine aX V.ag ?_;refine' W.sH rfl rfl rfl (Exec.val rfl rfl (Z3 rfl rfl rfl rfl ?bw ?aa) ?_);case bw=>exact cc
              case aa=>show(q:Int)<=64;omega
              refine' W.sH rfl rfl rfl (Exec.val rfl rfl (Z3 rfl rfl rfl rfl ?bw ?aa) ?_);case bw=>exact cc
              case aa=>show(1:Int)<=64;omega
              refine aX V.aZ ?_;refine I V.aU ?_;refine a6 ?_;refine'⟨⟨_,rfl,⟨?n173,rfl,rfl,rfl,rfl,rfl,rfl,rfl,rfl,rfl,rfl,rfl,trivial⟩⟩,bu _,rfl⟩;case n173=>first|exact iV rfl (by first|exact .inl oa|exact(yU (q:=q) mF.2.2.2.2.1 mF.2.2.2.2.2).trans ⟨.inr,fun h=>h.resolve_left oa⟩)|exact iT rfl (by first|exact .inl oa|exact(yU (q:=q) mF.2.2.2.2.1 mF.2.2.2.2.2).trans ⟨.inr,fun h=>h.resolve_left oa⟩)|exact iU rfl (by first|exact .inl oa|exact(yU (q:=q) mF.2.2.2.2.1 mF.2.2.2.2.2).trans ⟨.inr,fun h=>h.resolve_left oa⟩)|exact Gx rfl (by first|exact .inl oa|exact(yU (q:=q) mF.2.2.2.2.1 mF.2.2.2.2.2).trans ⟨.inr,fun h=>h.resolve_left oa⟩)
            case aej=>
             refine fR [15,173,0,1,2,7,8,9,11,12,13,14] ?_;refine aj ?_;refine' ab.y2 (α:=(Value)×(aN)) 2 (fun(bC:(Value)×(aN))=>match bC with|(v6,EN)=>[(15,v6)]) (fun(bC:(Value)×(aN))=>match bC with|(v6,EN)=>EN++(LB++((kL,.row [.int .i64 hv,.int .i64 hH,.int .i64 i0,(.slice dK ak.length ha),(.slice vg (qz p bG ws).length vo),.slice none 0 0] 47)::(hr,.row [.int .i64 p.bZ,.int .i64 p.many,.int .i64 p.fM] 88)::(qA++(uA++iZ am ad (.slice (some ⟨yN,zK,none⟩) bU.length nI) aY s pl cY cl l (bG.cI) a4 (.slice Gh bG.vs.length Gz) (.slice J9 bG.ns.length Ki) (.slice F7 bG.is.length Gr) zF B2 zE))))) (fun(bC:(Value)×(aN))=>match bC with|(v6,EN)=>pj) (fun(bC:(Value)×(aN))=>match bC with|(v6,EN)=>Acc 3 1 v6 (Mi++[rX p i q]).length ((Mi++[rX p i q]).map (Value.int .i64)) EN) ?ac0 ?ad3
             case ac0=>
              refine If (fun Np=>?_) fun Np=>?_
              ·refine rg ?_;refine aM ?_;refine jK (e0 Q g0) fun aqR=>?_;refine' W.step rfl (.of (kk rfl rfl rfl rfl rfl rfl (e0 Q g0) (pZ Q g0) (fun i q=>by cases q) ?cw ?hm ?U ?cr ?ca ?av fun apN alb ahs=>?_));case cw=>assumption
               case hm=>exact s'
               case U=>exact hR
               case cr=>first|rfl|(simp;done)|(simp;omega)
               case ca=>first|rfl|exact hf _
               case av=>exact cc
               refine I V.az ?_;refine a6 ?_;refine'⟨⟨apN,alb⟩,_,?hinv,rfl,⟨?m15,rfl,rfl,rfl,rfl,rfl,rfl,rfl,rfl,rfl,rfl,trivial⟩,Xn ((List.Sublist.cons _ (.cons _ (.refl _))).append_left _),rfl⟩;case m15=>exact bP
               case hinv=>have e:rX p i q=(i:Int):=(by unfold rX;rw[aE Np]);rw[e];exact ahs.uL (by simp) (by simp)
              ·refine rg ?_;refine I V.ag ?_;refine jK (e0 Q g0) fun aqS=>?_;refine' W.step rfl (.of (kk rfl rfl rfl rfl rfl rfl (e0 Q g0) (pZ Q g0) (fun i q=>by cases q) ?cw ?hm ?U ?cr ?ca ?av fun apO alc aht=>?_));case cw=>assumption
               case hm=>exact s'
               case U=>exact hR
               case cr=>first|rfl|(simp;done)|(simp;omega)
               case ca=>first|rfl|exact hf _
               case av=>exact cc
               refine I V.az ?_;refine a6 ?_;refine'⟨⟨apO,alc⟩,_,?hinv,rfl,⟨?m15,rfl,rfl,rfl,rfl,rfl,rfl,rfl,rfl,rfl,rfl,trivial⟩,Xn ((List.Sublist.cons _ (.cons _ (.refl _))).append_left _),rfl⟩;case m15=>exact bP
               case hinv=>have e:rX p i q=-1:=(by unfold rX;rw[an Np]);rw[e];exact aht.uL (by simp) (by simp)
             case ad3=>
              rintro⟨v6,EN⟩ hinv;try simp only at hinv
              obtain⟨vf,qa,rfl,qH⟩:=hinv.iN;refine Acc.hQ hinv (.refl _) (fun e2 cF xS=>?_);refine rg ?_;refine aM ?_;refine jK (nt Q g0) fun a183=>?_;refine' W.step rfl (.of (kk rfl rfl rfl rfl rfl rfl (nt Q g0) (CF Q g0) (fun i q=>by cases q) ?cw ?hm ?U ?cr ?ca ?av fun apP ald ahu=>?_));case cw=>assumption
              case hm=>exact s'
              case U=>exact hR
              case cr=>first|rfl|(simp;done)|(simp;omega)
              case ca=>first|rfl|exact hf _
              case av=>exact cc
              refine I V.az ?_;refine bi ?_;refine I V.ag ?_;refine I V.bt ?_;refine I V.az ?_;refine a6 ?_;refine cB ⟨q+1,apP,cells++[.slice vf (Mi++[rX p i q]).length qa],ald,e2⟩ ?_ (hm:=(List.Sublist.cons _ (.refl _)).append_left _);refine⟨by omega,jZ.trans cF,ahu,?_⟩;rw[alE HV];exact(oZ.mono fun _ _ _ r=>r.mono cF).app ⟨_,_,rfl,_,xS⟩ rfl
           ·refine aj ?_;refine ab.exit ?_;obtain rfl:q=seen.length:=by omega
            rw[eo (by rw[B'];omega)] at oZ;refine VO.hQ (.refl _) (fun jV dU HT=>?_);have ajI:fc jV 22 1 (jW jV) (.slice J' (kD p i seen).length Kj) (kD p i seen):=⟨_,by rw[B'];exact HT,fun j x U=>(oZ.2 j x U).mono dU⟩;obtain⟨bl,bp,bQ⟩:=akG (p:=p) pJ;have hD:=Ep p kh rfl jV (kD p i seen) (qy p bG) a4 _ _ _ _ _ _ J' Kj (((av.mono dp).mono jZ).mono dU) (((O6.mono dp fun _ _ q=>q).mono jZ fun _ _ q=>q).mono dU fun _ _ q=>q) bl (by rw[bp];omega) (by rw[B'];exact lj) (QV K8) ajI ((ahf.mono jZ).mono dU);rw[B',bp] at hD;have Hq:=TI (pl:=pl) (bU:=bU) (fun p au=>⟨(kb p au).1,(kb p au).2.1,(kb p au).2.2.1,(kb p au).2.2.2.1⟩) kh (L+1) (kD p i seen) (qy p bG) xD oW bl (by rw[bp];omega) (by rw[B'];exact lj) (QV K8);have akf:(qy p bG).ns.length=bG.ns.length:=by rw[bQ]
            refine aj ?_;refine ab.draw rfl (by kernel_rfl) (bc:=[.val 0,.val 1,.val 2,.val 3,.val 4,.val 5,.bR 6,.gk 7,.cA [1,0],.bR 8,.val 9,.bR 10]) (by kernel_rfl) ?_;refine al rfl V.ba ?_;refine al rfl V.aG ?_;refine cq ?_;refine al rfl V.bt ?_;refine al rfl V.ag ?_;refine' a8.call rfl rfl rfl rfl rfl rfl rfl rfl rfl rfl (bf:=iZ am ad _ aY s pl cY cl l _ _ _ _ _ _ _ _) (bM:=_::_::(qA++uA)) LW trivial (hD) ?_;rintro v m' q1 ie ⟨_,rfl,a5,aao,X',Xi,XR,XJ,XG,rfl,ahg⟩;refine a8.buildSlice rfl rfl rfl rfl rfl rfl (e0 Q g0) rfl rfl rfl fun abi=>?_;refine a8.cA eX ?_;refine' a8.fP rfl rfl (kk rfl rfl rfl rfl rfl rfl (e0 Q g0) (pZ Q g0) (fun i q=>by cases q) ?cw ?hm ?U ?cr ?ca ?av fun avm XL VG=>?_);case cw=>assumption
            case hm=>exact Yz
            case U=>exact hR
            case cr=>first|rfl|(simp;done)|(simp;omega)
            case ca=>first|rfl|exact hf _
            case av=>exact cc
            obtain⟨Tr,TQ,rfl,auz⟩:=VG.iN;refine al rfl V.ba ?_;refine kn rfl ?_;refine a8.nil ?_;refine ab.eC (m':=(kL,.row [.int .i64 hv,.int .i64 hH,.int .i64 i0,(.slice Tr (ak.length+1) TQ),(.slice vg (qz p bG ws).length vo),.slice none 0 0] 47)::(hr,.row [.int .i64 p.bZ,.int .i64 p.many,.int .i64 p.fM] 88)::(XL++(uA++iZ am ad (.slice (some ⟨yN,zK,none⟩) bU.length nI) aY s pl cY cl l ((l4 aY pl kh (L+1) (kD p i seen) (qy p bG)).cI) a5 aao X' Xi XR XJ XG))) (h2:=[(abi,_)]) amB ?_;refine rg ?_;refine I V.ag ?_;refine I V.bt ?_;refine I V.az ?_;refine a6 ?_;refine cB ⟨i+1,l4 aY pl kh (L+1) (kD p i seen) (qy p bG),a5,aao,X',Xi,XR,XJ,XG,ak++[(bG.ns.length:Int)],qz p bG ws,.slice Tr (ak.length+1) TQ,.slice vg (qz p bG ws).length vo,XL,uA,q1⟩ ?_;refine⟨by omega,by rw[og,show(iY p L seen σ).toNat -i=((iY p L seen σ).toNat -(i+1))+1 by omega,akI],Hq.gD,by rw[Hq.cI,bp];omega,(dp.trans jZ).trans (dU.trans ie),ahg,by rw[dP,e4];rfl,akH aj6,VG.uL (by simp) (by simp[akf]),VP,by have:=Hq.lt;omega⟩
        ·refine aj ?_;refine ab.exit ?_;rw[show(iY p L seen σ).toNat -i=0 by omega] at og;refine VQ.hQ LX (fun wJ ke La=>?_);refine OS.hQ LX (fun p6 mh K'=>?_);have ma:=(xv.mono ke).mono mh;obtain⟨arN,aiP,KS⟩:=ma.n;obtain⟨bO,fn,rn,BC,rfl,ql,uh⟩:=aiP.row (by omega);injection BC with BC Wz P0
         subst BC;subst P0;refine aj ?_;refine ab.draw rfl (by kernel_rfl) (bc:=[.val 0,.val 1,.val 2,.val 3,.val 4,.val 5,.val 6,.val 7,.bR 8]) (by kernel_rfl) ?_;refine cq ?_;refine al rfl V.aG ?_;refine al rfl V.ag ?_;refine al rfl V.c9 ?_;refine al rfl V.aW ?_;refine' a8.fP rfl rfl (Ak rfl rfl rfl rfl (fQ rfl) rfl rfl rfl ?aa ?hs ?bE ?au ?_);case au=>exact YA
         case hs=>exact Cy _ _ _ (by show 0+((σ.ns.length:Int)).toNat*6+6<=fn.length;omega)
         case aa=>first|rfl|assumption
         case bE=>exact cy _
         refine a8.nil ?_;refine ab.eC (m':=iZ am ad (.slice (some ⟨yN,zK,none⟩) bU.length nI) aY s pl cY cl l bG.cI a3 (.slice Gh bG.vs.length Gz) (.slice (some ⟨bO,0,none⟩) bG.ns.length cZ) (.slice F7 bG.is.length Gr) zF [(bO,.opn (fn.take (0+((σ.ns.length:Int)).toNat*6)++[.int .i64 hv,.int .i64 hH,.int .i64 i0,.slice dK ak.length ha,.slice sr ws.length sx,.slice none 0 0]++fn.drop (0+((σ.ns.length:Int)).toNat*6+6)) 47 [] 0)] zE) (h2:=[(kL,_),(hr,_)]) amy ?_;refine rg ?_;refine aM ?_;refine ns ?_;refine ab.ret ?_;refine'⟨.inr rfl,rfl,_,_,.tmp rfl .nil,?kz,?_⟩;case kz=>first|(have c:=AM;exact q6 _ _)|exact bu _
         first
          |(have c:=AM
            have kd:=w3 (most:=aY) (pl:=pl) (p:=p) (lv:=kh) (L:=L) (seen:=seen) (σ:=σ);rw[an (show ¬ej σ.l 8=1 from rf),aE (by omega)] at kd;have xR:(vv pl σ.ns.length (jq (o7 p L seen σ) p.bZ (hg p L seen σ))).cI=σ.cI -1:=by show(jq _ _ _).cI=_;rw[Uz,Rr]
            rw[kd,xR];exact⟨ch,rfl,_,_,_,_,_,_,_,rfl,tU⟩)
          |(have c:=rf
            have kd:=w3 (most:=aY) (pl:=pl) (p:=p) (lv:=kh) (L:=L) (seen:=seen) (σ:=σ);rw[aE (show ej σ.l 8=1 from rf)] at kd;rw[kd];exact⟨ch,rfl,_,_,_,_,_,_,_,rfl,tU⟩)
          |exact⟨ch,rfl,_,_,_,_,_,_,_,rfl,tU⟩
          |(have c:=hv
            have kd:=w3 (most:=aY) (pl:=pl) (p:=p) (lv:=kh) (L:=L) (seen:=seen) (σ:=σ);rw[an (show ¬ej σ.l 8=1 from rf),an (by omega),og] at kd;have Br:l4 aY pl (p::kh) L seen σ={bG with ns:=bG.ns.set σ.ns.length (s4 p L seen σ ak ws)}:=kd;rw[Br];subst ql;have bE:0+((σ.ns.length:Int)).toNat*6=σ.ns.length*6:=by omega
            obtain⟨oO,t'⟩:∃oO:List Value,oO=(fn.take (σ.ns.length*6)++[Value.int .i64 hv,Value.int .i64 hH,Value.int .i64 i0,Value.slice dK ak.length ha,Value.slice sr ws.length sx,Value.slice none 0 0]++fn.drop (σ.ns.length*6+6)).take (bG.ns.length*6):=⟨_,rfl⟩;refine⟨(dp.trans ke).trans mh,rfl,_,_,_,_,_,_,_,rfl,ma.le,ma.qb,ma.v,⟨oO,?_,?_⟩,ma.i,ma.uJ⟩
            ·show hj _ _ _ (bG.ns.set _ _).length _ _
             rw[fz,bE,t'];exact hj.of (L3 uh zp rfl)
            ·show hp 6 _ _ (bG.ns.set _ _)
             rw[t'];refine hp.put (R':=fun _=>nC p6) KS uh (fun _ _ _ q=>q) zp rfl ?_;rw[dM];exact⟨_,_,_,_,_,_,rfl,⟨3,La.mono mh⟩,⟨3,K'⟩,⟨3,.nil⟩⟩)
end
end
end Go.Opn
