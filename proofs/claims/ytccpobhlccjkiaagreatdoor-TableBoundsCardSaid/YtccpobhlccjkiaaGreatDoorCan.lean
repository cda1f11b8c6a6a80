/- A part of the proof of TableBounds. -/
import Derived.Test.YtccpobhlccjkiaaGreatDoorCam
import Derived.Test.YtccpobhlccjkiaaGreatDoorCak
import Derived.Test.YtccpobhlccjkiaaGreatDoorCai
import Derived.Test.YtccpobhlccjkiaaGreatDoorCah
import Derived.Test.YtccpobhlccjkiaaGreatDoorCaj
set_option linter.defProp false
set_option maxRecDepth 100000
set_option maxHeartbeats 8000000
set_option linter.unusedVariables false
set_option linter.unusedSimpArgs false
namespace Go.Opn
noncomputable section
open Go.Cre Go.RowKit Go.Proofs
def LC(p:fu)(cs:List Value):Prop:=cs=[.int .i64 p.cn,.int .i64 p.many,.int .i64 p.gE]
def G2(pl:Nat)(cL:List fu):Prop:=∀p∈cL,-1<=p.cn/\p.cn<pl/\2<=p.many/\p.many<=3/\0<=p.gE/\p.gE<=15
def ajS{p:fu}{q:Nat}(aQ:0<=p.gE)(ae:p.gE<=15):IntKind.i64.wrap (BitVec.ofInt IntKind.i64.bits (p.gE.fdiv (2 ^ ((q:Int)).toNat)) &&& BitVec.ofInt IntKind.i64.bits 1).toNat=1↔Pf p q=true:=by
 obtain⟨m,hm⟩:∃m:Nat,p.gE=(m:Int):=⟨p.gE.toNat,aa⟩;unfold Pf;rw[hm,ff,Gl];have hle:m / 2 ^ q<=m:=si _ _;have e:(m:Int) / 2 ^ q=((m / 2 ^ q:Nat):Int):=by simp
 rw[e];generalize m / 2 ^ q=w at hle;rw[ajv aa aa];simp
def VT{α:Type}{x y z:α}{u v w:List α}:(x::y::z::(u++(v++w))).Perm (v++(x::y::z::(u++w))):=by
 have ae:(u++(v++w)).Perm (v++(u++w)):=by
  rw[<-j6,<-j6];exact List.perm_append_comm.append_right w
 exact(List.Perm.cons x (List.Perm.cons y (List.Perm.cons z ae))).trans ae0
def awx{α:Type}{x y z:α}{u v w:List α}:((y::z::(u++(v++w)))++[x]).Perm (v++(x::y::z::(u++w))):=
 (ia (l₂:=[x])).trans VT
def OO{α:Type}{x y:α}{u v M:List α}:(M++(x::y::(u++v))).Perm (x::y::(u++(v++M))):=by
 refine(ia (l₁:=M)).trans ?_;show(x::y::((u++v)++M)).Perm _;rw[j6]
def VU{α:Type}{x y z:α}{u v M:List α}:(z::(M++(x::y::(u++v)))).Perm (v++(z::(M++(x::y::u)))):=by
 refine List.Perm.trans (List.Perm.cons z ?_) Kp;refine(zT M (show(x::y::(u++v)).Perm (v++(x::y::u)) from ia (l₁:=x::y::u))).trans ?_;rw[<-j6,<-j6];exact List.perm_append_comm.append_right _
def awy{α:Type}{x y z:α}{u v M:List α}:((x::y::(u++(v++M)))++[z]).Perm (v++(z::(M++(x::y::u)))):=by
 refine(ia (l₂:=[z])).trans ?_;exact(List.Perm.cons z OO.symm).trans VU
def aeX{α:Type}{x y z:α}{u v M:List α}:(z::(M++(x::y::(u++v)))).Perm (u++(z::(M++(x::y::v)))):=
 (List.Perm.cons z (zT M (List.Perm.cons x (List.Perm.cons y ia)))).trans VU
def awz{α:Type}{x y z:α}{u v M:List α}:((x::y::(u++(v++M)))++[z]).Perm (u++(z::(M++(x::y::v)))):=by
 refine(ia (l₂:=[z])).trans ?_;exact(List.Perm.cons z OO.symm).trans aeX
def aeY{α:Type}{x y a b n:α}{u w:List α}:(x::y::a::b::(u++([n]++w))).Perm (n::(x::y::a::b::(u++w))):=by
 have h:(u++([n]++w)).Perm (n::(u++w)):=Bv;refine((((h.cons b).cons a).cons y).cons x).trans ?_;exact(Bv (l₁:=[x,y,a,b])).trans (.refl _)
section
variable (Q:da Tryz.prog)(g0:Nat)(am ad:Nat)(s:Bool)(aS:Int)(pl:Nat)(cV:Option Addr)(cl:Nat)(l:List Int)(cL:List fu)(tx:Option Addr)(oK:Nat)
def PW(lv:List fu)(L:Nat):Prop:=
 ∀(J:ai) (seen:List (List Int)) (σ:ez) (a:Nat) (e7 gz fM:Value) (eC ey a1:aJ) (bs:Option Addr) (cs:Nat),
  gl J (.slice cV l.length cl) l->dz J 67 3 LC (.slice tx cL.length oK) cL->kV aS L σ->1<=σ.cW->seen.length=pl->(∀x∈seen,x.length=L)->dz J 22 1 (x9 J) (.slice bs seen.length cs) seen->kv J σ a l e7 gz fM eC ey a1->
  Fn (aU Q g0) 19 [.pointer (some ⟨am,0,none⟩),.int .i64 (L:Int),.slice bs seen.length cs] (jX am ad (.slice tx cL.length oK) aS s pl cV cl l σ.cW a e7 gz fM eC ey a1) J
   (fun u m' ah=>J.le ah/\u=.int .i64 (σ.ns.length:Int)/\∃bD qh F1 p1 xz uj vF,m'=jX am ad (.slice tx cL.length oK) aS s pl cV cl l (oI aS pl lv L seen σ).cW bD qh F1 p1 xz uj vF/\kv ah (oI aS pl lv L seen σ) bD l qh F1 p1 xz uj vF)
end
section
variable {Q:da Tryz.prog}{g0:Nat}{am ad:Nat}{s:Bool}{aS:Int}{pl:Nat}{cV:Option Addr}{cl:Nat}{l:List Int}{cL:List fu}{tx:Option Addr}{oK:Nat}
def aum{J:ai}{lv e7 gz fM:Value}{eC ey a1:aJ}{jy:Int}{a:Nat}{σ:ez}{info:Nat}{cn:Int}(h:kv J σ a l e7 gz fM eC ey a1)(rQ:σ.is.length=σ.vs.length)(hi:0<=cn->info<σ.is.length)(aA:0<σ.ns.length)(cH:σ.ns.length<=100000)(tL:σ.is.length<=100000):
 Fn (aU Q g0) 51 [.pointer (some ⟨am,0,none⟩),.int .i64 (info:Int),.int .i64 cn] (jX am ad lv aS s pl cV cl l jy a e7 gz fM eC ey a1) J (fun u m' ah=>J=ah/\∃qh p1,m'=jX am ad lv aS s pl cV cl l jy a qh gz p1 eC ey a1/\kv J (kW (info:Int) cn σ) a l qh gz p1 eC ey a1):=by
 by_cases ap:cn<0
 ·refine(amF (z:=false) ap _).perm ?_
  rintro v m' ah ⟨rfl,rfl⟩;refine⟨_,.refl _,I,_,_,I,?_⟩;have e:kW (info:Int) cn σ=σ:=by unfold kW;rw[aP (.inl ap)]
  rw[e];exact h
 ·exact aun h rQ (hi aa) aA cH tL
def ZK{i p:Int}{σ:ez}:(kW i p σ).ns=σ.ns:=by unfold kW;split;rfl;split<;>rfl
def amH{i p:Int}{σ:ez}:(kW i p σ).cW=σ.cW:=by unfold kW;split;rfl;split<;>rfl
def atk{p:fu}{bL:ez}{ws:List Int}{i:Nat}(h:ws.length<=i):(rZ p bL ws).length<=i+1:=by
 unfold rZ;split
 ·rw[dv];exact Nat.succ_le_succ h
 ·omega
def aww{α:Type}{x y a b n:α}{u w:List α}:((a::b::(u++([n]++w)))++[x,y]).Perm (n::x::y::a::b::(u++w)):=
 (ia (l₂:=[x,y])).trans aeY
def axe{full new:List Value}{k n sz:Nat}(h:n*sz<=full.length)(hk:k<n)(aA:new.length=sz):n*sz<=(full.take (k*sz)++new++full.drop (k*sz+new.length)).length:=by
 have:k*sz+sz<=n*sz:=by rw[<-nf];exact hJ _ hk
 rw[dv,dv,eL,jO,gv aa];omega
def YU{lv:List fu}{L:Nat}(gY:l.length<=9223372036854775807)(dX:pl<=4)(Jd:aS<=1000)(n':G2 pl cL)(SC:cL.length<=100)(av:cL.drop L=lv)(bi:L<=cL.length)
 (Fk:∀p py,lv=p::py->PW Q g0 am ad s aS pl cV cl l cL tx oK py (L+1)):PW Q g0 am ad s aS pl cV cl l cL tx oK lv L:=by
 intro J seen σ a e7 gz fM eC ey a1 bs cs aj Ti fC T0 mZ NA acq cZ;have Jr:=fC.sum;have rQ:=fC.is;have NF:=fC.xX;obtain⟨⟨bv,alQ,rfl,afj⟩,⟨cO,aCA,rfl,C9⟩,⟨cy,akX,rfl,zw⟩⟩:=cZ.Il;obtain⟨bu,aA,l9⟩:=cZ.n;have dd:addrEq bs bs=true:=acq.addr;have aFw:addrEq tx tx=true:=Ti.addr;have iz:(mg seen σ).ns.length=σ.ns.length+1:=by show(σ.ns++_).length=_;simp
 have ab2:σ.ns.length<(mg seen σ).ns.length:=aa
 have Nq:(mg seen σ).ns.length<=100000:=aa
 obtain⟨_,pY⟩:=acq.at;obtain⟨_,aqD⟩:=Ti.at;refine Fn.b9 (b1 Tryz.func19) I I fun H=>?_;refine af 0x20a6b6c10e71c6d86a6d839c08aa6b6c1ce059 ?_;refine jG fun Qv=>?_;refine' W.step I (.of (v3 I I I I I I (ee I) (az0 Q g0) (fun i q=>by cases q) ?c1 ?hm ?U ?cH ?c7 ?aW ?aj fun aGc JZ apD=>?_));case c1=>assumption
 case hm=>exact VT
 case U=>exact lR
 case cH=>rfl
 case c7=>rfl
 case aW=>exact cJ
 case aj=>exact cJ
 have sC:=cZ.push l9 apD seen;obtain⟨_,⟨Ht,HN,rfl,aFy⟩,_⟩:=sC.Il;refine af 0x18e35b6 ?_;refine aK.fU (m':=jX am ad (.slice tx cL.length oK) aS s pl cV cl l (σ.cW -1) a (.slice bv σ.vs.length alQ) (.slice Ht (mg seen σ).ns.length HN) (.slice cy σ.is.length akX) eC JZ a1) (ki:=[(Qv,_)]) awx ?_;refine af 0x12154db0439 ?_;refine eX 48 (fun Iw=>?_) fun Iw=>?_
 ·obtain rfl:lv=[]:=by rw[<-av];exact wk aa
  have SH:=sC;refine af 0x10e757c237fdef7b ?_;refine' W.step I (Exec.call I I I I I I I (a1:=jX am ad _ aS s pl cV cl l (σ.cW -1) _ _ _ _ _ _ _) (cB:=[]) (by rw[gC]) trivial (Va aj gY SH aa ab2 Nq) ?_);rintro v m' bj a8 ⟨_,bD,uj,rfl,IS⟩;rw[gC];refine af 0x6af810738 ?_;refine'⟨.inr I,I,_,_,.tmp I .nil,?lM,?_⟩;case lM=>exact iC _
  exact⟨a8,I,_,_,_,_,_,_,_,I,IS⟩
 ·obtain⟨p,py,rfl⟩:∃p py,lv=p::py:=by
   cases lv with
   |nil=>have:=List.drop_eq_nil_iff.1 av;omega
   |cons p r=>exact⟨p,r,I⟩
  obtain⟨pT,aa4,vq⟩:=RI av;have Fj:=n' p (dq aa4);refine af 0x536c1 ?_;refine' W.Ix I I I (Exec.call I I I I I I I (a1:=jX am ad _ aS s pl cV cl l (σ.cW -1) _ _ _ _ _ _ _) (cB:=[]) (by rw[gC]) trivial (adL aj gY sC bI) ?_);rintro v m' ah hle ⟨rfl,rfl,rfl⟩;rw[gC];refine af 0xbe104 ?_;refine If (fun Ei=>?_) fun Ei=>?_
  ·have SH:=sC.next 8;refine af 0x439 ?_;refine' W.step I (Exec.call I I I I I I I (a1:=jX am ad _ aS s pl cV cl l (σ.cW -1) _ _ _ _ _ _ _) (cB:=[]) (by rw[gC]) trivial (Va aj gY SH aa ab2 Nq) ?_);rintro v m' bj a8 ⟨_,bD,uj,rfl,IS⟩;rw[gC];refine af 0x6af810738 ?_;refine'⟨.inr I,I,_,_,.tmp I .nil,?lM,?_⟩;case lM=>exact iC _
   have At:=QV (most:=aS) (pl:=pl) (p:=p) (lv:=py) (L:=L) (seen:=seen) (σ:=σ);rw[aP (show fm σ.l 8=1 from Ei)] at At;rw[At];exact⟨a8,I,_,_,_,_,_,_,_,I,IS⟩
  ·obtain⟨ayh,afW,aFL,aFM,afU,ayg,afV⟩:=ayM (p:=p) (seen:=seen) fC Fj.2.2.1 Fj.2.2.2.1;have aFN:(iu p L seen σ).ns.length=σ.ns.length+1:=by rw[ayh];simp
   have ayi:=afU.is;have aFO:=afU.xX;obtain⟨z7,AW,aCy,aC1,rfl,aDg,aqN⟩:=aqD aa;obtain⟨hQ,aCD,mA,aDI,aDZ,abv⟩:=aqN L aa aa;rw[ff] at mA;obtain rfl:p=hQ:=by rw[aa4] at mA;injection mA
   unfold LC at abv;subst abv;refine af 0x1660a9b60e757 ?_;refine eu fun gw=>?_;refine af 0x18229b9c084a6e71c ?_;refine fc [9,10,71,0,1,2,7,8] ?_;refine bp ?_;refine' aK.pP 3 (fun(b8:(Nat)×(Value)×(Value)×(aJ)×(aJ))=>match b8 with|(br,KV,NX,CM,FP)=>⟨[(9,.int .i64 (jW p L seen σ)),(10,.int .i64 (qU p L seen σ:Int))],(gw,.row [.int .i64 p.cn,.int .i64 p.many,.int .i64 p.gE] 67)::jX am ad (.slice (some ⟨z7,AW,none⟩) cL.length oK) aS s pl cV cl l (σ.cW -1) br KV (.slice Ht (mg seen σ).ns.length HN) NX CM JZ FP,J,kv J (iu p L seen σ) br l KV (.slice Ht (mg seen σ).ns.length HN) NX CM JZ FP⟩) ?ala ?amt
   case ala=>
    refine If (fun akq=>?_) fun akq=>?_
    ·have Un:iu p L seen σ=(eV p L (fN p seen) (gF seen σ)).1:=by unfold iu;rw[aG aa]
     have abM:qU p L seen σ=(eV p L (fN p seen) (gF seen σ)).2:=by unfold qU;rw[aG aa]
     obtain⟨ajF,awb,alo,am3,rfl,Sy,Tu⟩:=pY aa;obtain⟨sp,alK,kI,ap6,TB,ajW,alJ,rfl,AE⟩:=Tu p.cn aa aa;have aqX:=TB 0 _ bI I;obtain rfl:sp=fN p seen:=by
        have:=afY mZ (by omega:0<=p.cn) Fj.2.1;rw[this] at kI;injection kI with kI;exact kI.symm
     have ar2:(fN p seen).length<=1000:=by rw[NA _ (dq kI)];omega
     obtain⟨y,an,NL⟩:=afV aa;have aqS:=nk an;refine bp ?_;refine aK.draw I (by kernel_rfl) (a0:=[.val 0,.val 1,.val 2,.val 3,.val 4,.val 5,.val 6,.val 7,.val 8,.bw 9,.val 10]) (by kernel_rfl) ?_;refine af 0xa329a10a9a1 ?_;refine' bX.call I I I I I I I I I I (a1:=jX am ad _ aS s pl cV cl l (σ.cW -1) _ _ _ _ _ _ _) (cB:=[(gw,_)]) (ia (l₂:=[_])) trivial (auo (σ:=gF seen σ) (p:=p) (L:=L) aj gY (sC.next 8) rQ (by show σ.vs.length<=_;omega) AE ar2) ?_;rintro v m' ah hle ⟨rfl,rfl,br,KV,NX,CM,FP,rfl,tG⟩;refine af 0x302 ?_;refine aK.nZ (ia (l₁:=[_])) ?_;rw[<-abM];rw[<-Un] at tG;obtain⟨akY,Tx,ap1⟩:=tG.i;obtain⟨qA,Am,r5,rfl,rfl,Tl,aq5⟩:=Tx.row aa;obtain⟨lW,aCE,s0,aDJ,aqY,rfl⟩:=ap1.at Tl aqS;obtain rfl:y=lW:=by rw[an] at s0;injection s0
     have aD0:=aqY 1 _ bI I;refine af 0xc094d3054d6d839 ?_;refine iQ ⟨br,KV,(.slice (some ⟨qA,0,none⟩) (iu p L seen σ).is.length cK),CM,[(qA,.opn Am 37 r5 0)]⟩ ?_;exact tG
    ·have Un:iu p L seen σ=gF seen σ:=by unfold iu;rw[aP aa]
     have aD4:jW p L seen σ=p.many:=by unfold jW;rw[aP aa]
     have abM:qU p L seen σ=0:=by unfold qU;rw[aP aa]
     refine lu ?_;refine iQ ⟨mR l a 8,_,_,eC,a1⟩ ?_;try dsimp only
     rw[Un];exact sC.next 8
   case amt=>
    rintro⟨br,KV,NX,CM,FP⟩ hinv;try simp only at hinv
    have SK:=hinv;obtain⟨⟨YW,Zx,rfl,aFB⟩,_,⟨YL,Zk,rfl,aFt⟩⟩:=SK.Il;refine bp ?_;refine aK.draw I (by kernel_rfl) (a0:=[.val 0,.val 1,.val 2,.val 3,.val 4,.val 5,.val 6,.val 7,.val 8,.val 9,.val 10,.val 11,.val 12,.val 13]) (by kernel_rfl) ?_;refine af 0xbe08a6d82308d4db0461 ?_;refine If (fun Y0=>?_) fun Y0=>?_
    ·refine af 0xa68439 ?_;refine' W.step I (Exec.call I I I I I I I (a1:=jX am ad _ aS s pl cV cl l (σ.cW -1) _ _ _ _ _ _ _) (cB:=[(gw,_)]) (ia (l₂:=[_])) trivial (aum SK ayi (fun q=>by obtain⟨y,an,_⟩:=afV q;exact nk an) aa aa aa) ?_);rintro v m' ah hle ⟨rfl,PF,NY,rfl,vi⟩;refine af 0x8738 ?_;refine' W.step I (Exec.call I I I I I I I (a1:=jX am ad _ aS s pl cV cl l (σ.cW -1) _ _ _ _ _ _ _) (cB:=[(gw,_)]) (.refl _) trivial (Va aj gY vi aa (by rw[ZK];omega) (by rw[ZK];omega)) ?_);rintro v m' bj a8 ⟨_,bD,uj,rfl,IS⟩;refine af 0x6af810738 ?_;refine'⟨.inr I,I,_,_,.tmp I .nil,?lM,?_⟩;case lM=>(have c:=Y0;exact oB _ _)
     have At:=QV (most:=aS) (pl:=pl) (p:=p) (lv:=py) (L:=L) (seen:=seen) (σ:=σ);rw[aG (show ¬fm σ.l 8=1 from Ei),aP aa] at At;have rM:(yw pl σ.ns.length (kW (qU p L seen σ) p.cn (iu p L seen σ))).cW=σ.cW -1:=by show(kW _ _ _).cW=_;rw[amH,afW]
     rw[At,rM];exact⟨a8,I,_,_,_,_,_,_,_,I,IS⟩
    ·refine af 0x31c6d861536c10e757 ?_;rw[<-afW];refine af 0x219 ?_;refine eu fun l1=>?_;refine af 0x608a6e71c ?_;refine fc [10,126,0,1,2,7,8,9,11] ?_;refine bp ?_;refine' aK.pP 2 (fun(b8:(Int)×(Int)×(Int))=>match b8 with|(ik,hQ,i0)=>⟨[],(l1,.row [.int .i64 ik,.int .i64 hQ,.int .i64 i0,.slice none 0 0,.slice none 0 0,.slice none 0 0] 96)::(gw,.row [.int .i64 p.cn,.int .i64 p.many,.int .i64 p.gE] 67)::jX am ad (.slice (some ⟨z7,AW,none⟩) cL.length oK) aS s pl cV cl l ((iu p L seen σ).cW+jW p L seen σ) br (.slice YW (iu p L seen σ).vs.length Zx) (.slice Ht (mg seen σ).ns.length HN) (.slice YL (iu p L seen σ).is.length Zk) CM JZ FP,J,∀ao ws,zl p L seen σ ao ws=⟨ik,hQ,i0,ao,ws,[]⟩⟩) ?akZ ?amh
     case akZ=>
      refine If (fun aj9=>?_) fun aj9=>?_
      ·
        refine af 0x63900a9b9 ?_;refine iQ ⟨2,p.cn,(qU p L seen σ:Int)⟩ ?_;try dsimp only
        intro ao ws;unfold zl;rw[aG aa]
      ·
        refine lu ?_;refine iQ ⟨1,0,0⟩ ?_;try dsimp only
        intro ao ws;unfold zl;rw[aP aa]
     case amh=>
      rintro⟨ik,hQ,i0⟩ hinv;try simp only at hinv
      have eb:=hinv;refine af 0x1abe059 ?_;refine dV [(12,.int .i64 ((0):Int)),(0,_),(1,_),(2,_),(7,_),(8,_),(9,_),(11,_)] ?_;refine bp ?_;refine' aK.bK (fun(b8:Nat×ez×Nat×Value×Value×Value×aJ×aJ×aJ×(List Int)×(List Int)×Value×Value×aJ×aJ×ai)=>match b8 with|(i,bL,bG,PF,VA,NY,AP,CK,AN,ao,ws,W2,W0,hG,J4,cv)=>⟨[(12,.int .i64 (i:Int))],(l1,.row [.int .i64 ik,.int .i64 hQ,.int .i64 i0,W2,W0,.slice none 0 0] 96)::(gw,.row [.int .i64 p.cn,.int .i64 p.many,.int .i64 p.gE] 67)::(hG++(J4++jX am ad (.slice (some ⟨z7,AW,none⟩) cL.length oK) aS s pl cV cl l (bL.cW) bG PF VA NY AP CK AN)),cv,i<=(jW p L seen σ).toNat/\kids (oI aS pl py (L+1)) p seen (jW p L seen σ).toNat 0 {iu p L seen σ with cW:=(iu p L seen σ).cW+jW p L seen σ} [] []=kids (oI aS pl py (L+1)) p seen ((jW p L seen σ).toNat -i) i bL ao ws/\kV aS (L+1) bL/\(((jW p L seen σ).toNat -i:Nat):Int)<=bL.cW/\J.le cv/\kv cv bL bG l PF VA NY AP CK AN/\ao.length=i/\ws.length<=i/\Acc 3 1 W2 ao.length (ao.map (Value.int .i64)) hG/\Acc 3 1 W0 ws.length (ws.map (Value.int .i64)) J4/\σ.ns.length<bL.ns.length,(jW p L seen σ).toNat -i⟩) ⟨0,{iu p L seen σ with cW:=(iu p L seen σ).cW+jW p L seen σ},br,.slice YW (iu p L seen σ).vs.length Zx,.slice Ht (mg seen σ).ns.length HN,.slice YL (iu p L seen σ).is.length Zk,CM,JZ,FP,[],[],.slice none 0 0,.slice none 0 0,[],[],J⟩ ?hs ?bn
      case hs=>refine⟨c6 _,I,ayg aa,by show _<=(iu p L seen σ).cW+_;omega,ai.le.refl _,SK.cW _,I,b2 _,.nil,.nil,by show _<(iu p L seen σ).ns.length;omega⟩
      case bn=>
        rintro⟨i,bL,bG,PF,VA,NY,AP,CK,AN,ao,ws,W2,W0,hG,J4,cv⟩ hinv;try simp only at hinv
        obtain⟨hi,I8,qT,aEl,cr,vi,hZ,asy,abq,S0,ab8⟩:=hinv;have aEJ:=qT.sum;have aEH:=qT.is;obtain⟨⟨HA,HV,rfl,aFC⟩,⟨L0,Ml,rfl,aFz⟩,⟨Hr,HM,rfl,aFu⟩⟩:=vi.Il;obtain⟨fq,Et,rfl,aFG⟩:=abq.kC;obtain⟨pi,pj,rfl,aFF⟩:=S0.kC;refine af 0x2f820439 ?_;refine If (fun aj'=>?_) fun aj'=>?_
        ·refine af 0x18229b9d5f57 ?_;refine fc [138,0,1,2,7,8,9,11,12] ?_;refine bp ?_;refine' aK.pP 1 (fun(b8:(Nat)×(Value)×(aJ))=>match b8 with|(cD,W1,AQ)=>⟨[],(l1,.row [.int .i64 ik,.int .i64 hQ,.int .i64 i0,(.slice fq ao.length Et),W1,.slice none 0 0] 96)::(gw,.row [.int .i64 p.cn,.int .i64 p.many,.int .i64 p.gE] 67)::(hG++(AQ++jX am ad (.slice (some ⟨z7,AW,none⟩) cL.length oK) aS s pl cV cl l (bL.cW) cD (.slice HA bL.vs.length HV) (.slice L0 bL.ns.length Ml) (.slice Hr bL.is.length HM) AP CK AN)),cv,kv cv (rY p bL) cD l (.slice HA bL.vs.length HV) (.slice L0 bL.ns.length Ml) (.slice Hr bL.is.length HM) AP CK AN/\Acc 3 1 W1 (rZ p bL ws).length ((rZ p bL ws).map (Value.int .i64)) AQ⟩) ?ak0 ?ami
         case ak0=>
          refine If (fun HC=>?_) fun HC=>?_
          ·have xi:=qX (l:=bL.l) (n:=3) aa;refine bp ?_;refine aK.draw I (by kernel_rfl) (a0:=[.val 0,.val 1,.val 2,.val 3,.val 4,.val 5,.bw 6,.val 7,.iF 8,.b6 [7,1,0],.bw 9,.val 10,.bw 11]) (by kernel_rfl) ?_;refine af 0x14db054d ?_;refine' bX.call I I I I I I I I I I (a1:=jX am ad _ aS s pl cV cl l _ _ _ _ _ _ _ _) (cB:=_::_::(hG++J4)) OO trivial (adL (aj.mono cr) gY vi bI) ?_;rintro v m' ah hle ⟨rfl,rfl,rfl⟩;refine GK I V.n0 ?_;refine bX.buildSlice I I I I I I (ee I) I I I fun ai5=>?_;refine bX.b6 eN ?_;refine' bX.nP I I (zK I I I I I I (ee I) (Dp Q g0) (fun i q=>by cases q) ?c1 ?hm ?U ?cH ?c7 ?aj fun aF5 aup abf=>?_);case c1=>assumption
           case hm=>exact VU
           case U=>exact lR
           case cH=>rfl
           case c7=>rfl
           case aj=>exact cJ
           obtain⟨ajK,aka,rfl,aFl⟩:=abf.kC;refine af 0x638d ?_;refine iQ ⟨mR l bG 3,.slice ajK (ws.length+1) aka,aup⟩ ?_ (hm:=⟨[(ai5,_)],awy⟩);try dsimp only
           refine⟨by unfold rY;rw[aP HC];exact vi.next 3,?_⟩;have e:rZ p bL ws=ws++[1+fm bL.l 3]:=(by unfold rZ;rw[aP HC]);rw[e,dv,zW];exact abf
          ·refine lu ?_;refine iQ ⟨bG,.slice pi ws.length pj,J4⟩ ?_;try dsimp only
           refine⟨by unfold rY;rw[aG HC];exact vi,by unfold rZ;rw[aG HC];exact S0⟩
         case ami=>
          rintro⟨cD,W1,AQ⟩ hinv;try simp only at hinv
          obtain⟨SG,abp⟩:=hinv;obtain⟨L6,Mp,rfl,aFE⟩:=abp.kC;refine af 0xd5f02ce059 ?_;refine dV [(13,(.slice none 0 0)),(14,.int .i64 ((0):Int)),(0,_),(1,_),(2,_),(7,_),(8,_),(9,_),(11,_),(12,_)] ?_;refine bp ?_;refine' aK.bK (fun(b8:Nat×Value×(List Value)×aJ×ai)=>match b8 with|(q,xX,cells,Ok,hU)=>⟨[(13,xX),(14,.int .i64 (q:Int))],Ok++((l1,.row [.int .i64 ik,.int .i64 hQ,.int .i64 i0,(.slice fq ao.length Et),(.slice L6 (rZ p bL ws).length Mp),.slice none 0 0] 96)::(gw,.row [.int .i64 p.cn,.int .i64 p.many,.int .i64 p.gE] 67)::(hG++(AQ++jX am ad (.slice (some ⟨z7,AW,none⟩) cL.length oK) aS s pl cV cl l (bL.cW) cD (.slice HA bL.vs.length HV) (.slice L0 bL.ns.length Ml) (.slice Hr bL.is.length HM) AP CK AN))),hU,q<=seen.length/\cv.le hU/\Acc 22 1 xX q cells Ok/\et 1 (fun _=>x9 hU) cells ((mF p i seen).take q),seen.length -q⟩) ⟨0,.slice none 0 0,[],[],cv⟩ ?hs ?bn
          case hs=>refine⟨c6 _,ai.le.refl _,.nil,I,fun i x h=>by simp at h⟩
          case bn=>
           rintro⟨q,xX,cells,Ok,hU⟩ hinv;try simp only at hinv
           obtain⟨b3,h5,abo,fj⟩:=hinv;obtain⟨L1,Mm,rfl,axl⟩:=abo.kC;refine af 0x5f0428439 ?_;refine If (fun akb=>?_) fun akb=>?_
           ·obtain⟨ajF,awb,alo,am3,rfl,Sy,Tu⟩:=pY aa;obtain⟨Pn,alK,Ul,ap6,TB,ajW,alJ,rfl,AE⟩:=Tu q aa aa;have aqX:=TB 0 _ bI I;rw[ff] at Ul;have aEv:Pn.length<=1000:=by rw[NA _ (dq Ul)];omega
            have Sy:=h5 _ _ (cr _ _ Sy);obtain⟨aC4,AE⟩:=AE;have AE:=(AE.mono cr).mono h5;have aFA:=AE.addr;refine af 0x19d5f57 ?_;refine jG fun aBF=>?_;refine af 0x51821 ?_;refine' W.step I (.of (zK I I I I I I (ee I) (Dp Q g0) (fun i q=>by cases q) ?c1 ?hm ?U ?cH ?c7 ?aj fun aF6 aE8 apy=>?_));case c1=>exact Acc.kA _
            case hm=>exact .refl _
            case U=>exact AE.rd
            case cH=>exact(by simp)
            case c7=>exact asZ _
            case aj=>omega
            obtain⟨aB1,Y2,rfl,aFm⟩:=apy.kC;refine af 0x302 ?_;refine fc [0,1,2,7,8,9,11,12,13,14,15] ?_;refine bp ?_;refine' aK.hp 0 [(173,.bool (decide (((q:Int)=p.cn\/Pf p q=true))))] ?Rr ?RG;case Rr=>
             refine af 0x245343a ?_;refine eX 166 (fun Si=>?_) fun Si=>?_
             ·refine af 0xc237ffef7b ?_;refine ho (hC ?_);exact .inl Si
             ·refine af 0x54d ?_;refine' W.Ix I I I (Exec.val I I (ag9 I I I ?aQ ?ae) ?_);case aQ=>exact cJ
              case ae=>show(q:Int)<=64;omega
              refine' W.Ix I I I (Exec.val I I (ag3 I I I) ?_);refine af 0x6104 ?_;refine ho (hC ?_);exact(ajS (q:=q) Fj.2.2.2.2.1 Fj.2.2.2.2.2).trans ⟨.inr,fun h=>h.resolve_left Si⟩
            case RG=>
             refine fc [15,173,0,1,2,7,8,9,11,12,13,14] ?_;refine bp ?_;refine' aK.pP 2 (fun(b8:(Value)×(aJ))=>match b8 with|(v6,Ve)=>⟨[(15,v6)],Ve++(Ok++((l1,.row [.int .i64 ik,.int .i64 hQ,.int .i64 i0,(.slice fq ao.length Et),(.slice L6 (rZ p bL ws).length Mp),.slice none 0 0] 96)::(gw,.row [.int .i64 p.cn,.int .i64 p.many,.int .i64 p.gE] 67)::(hG++(AQ++jX am ad (.slice (some ⟨z7,AW,none⟩) cL.length oK) aS s pl cV cl l (bL.cW) cD (.slice HA bL.vs.length HV) (.slice L0 bL.ns.length Ml) (.slice Hr bL.is.length HM) AP CK AN)))),hU,Acc 3 1 v6 (Pn++[xF p i q]).length ((Pn++[xF p i q]).map (Value.int .i64)) Ve⟩) ?ak1 ?amj
             case ak1=>
              refine If (fun QY=>?_) fun QY=>?_
              ·refine af 0x439 ?_;refine jG fun aBG=>?_;refine' W.step I (.of (zK I I I I I I (ee I) (Dp Q g0) (fun i q=>by cases q) ?c1 ?hm ?U ?cH ?c7 ?aj fun aAJ auq apz=>?_));case c1=>assumption
               case hm=>exact Kr
               case U=>exact lR
               case cH=>rfl
               case c7=>rfl
               case aj=>exact cJ
               refine af 0x302 ?_;refine iQ ⟨aAJ,auq⟩ ?_ (hm:=ac3 ((List.Sublist.cons _ (.cons _ (.refl _))).append_left _));try dsimp only
               have e:xF p i q=(i:Int):=(by unfold xF;rw[aP QY]);rw[e];exact apz.Dj (by simp) (by simp)
              ·refine af 0x39 ?_;refine jG fun aBH=>?_;refine' W.step I (.of (zK I I I I I I (ee I) (Dp Q g0) (fun i q=>by cases q) ?c1 ?hm ?U ?cH ?c7 ?aj fun aAK aur apA=>?_));case c1=>assumption
               case hm=>exact Kr
               case U=>exact lR
               case cH=>rfl
               case c7=>rfl
               case aj=>exact cJ
               refine af 0x302 ?_;refine iQ ⟨aAK,aur⟩ ?_ (hm:=ac3 ((List.Sublist.cons _ (.cons _ (.refl _))).append_left _));try dsimp only
               have e:xF p i q=-1:=(by unfold xF;rw[aG QY]);rw[e];exact apA.Dj (by simp) (by simp)
             case amj=>
              rintro⟨v6,Ve⟩ hinv;try simp only at hinv
              obtain⟨ev,dJ,rfl,hS⟩:=hinv.kC;refine Acc.k7 hinv (.refl _) (fun c3 bN arY=>?_);refine af 0x439 ?_;refine jG fun aBI=>?_;refine' W.step I (.of (zK I I I I I I (ee I) (agY Q g0) (fun i q=>by cases q) ?c1 ?hm ?U ?cH ?c7 ?aj fun aAL aus apB=>?_));case c1=>assumption
              case hm=>exact Kr
              case U=>exact lR
              case cH=>rfl
              case c7=>rfl
              case aj=>exact cJ
              refine af 0x60430e702 ?_;refine eS ⟨q+1,aAL,cells++[.slice ev (Pn++[xF p i q]).length dJ],aus,c3⟩ ?_ (hm:=(List.Sublist.cons _ (.refl _)).append_left _);refine⟨aa,h5.trans bN,apB,?_⟩;rw[au7 Ul];exact(fj.mono fun _ _ _ r=>r.mono bN).app ⟨_,_,I,_,arY⟩ I
           ·refine af 0x357 ?_;obtain rfl:q=seen.length:=aa
            rw[ft (by rw[FY];omega)] at fj;refine abo.k7 (.refl _) (fun e3 cQ arZ=>?_);have arV:dz e3 22 1 (x9 e3) (.slice L1 (mF p i seen).length Mm) (mF p i seen):=⟨_,by rw[FY];exact arZ,fun j x U=>(fj.2 j x U).mono cQ⟩;obtain⟨aX,aT,bd⟩:=atj (p:=p) qT;have gT:=Fk p py I e3 (mF p i seen) (rY p bL) cD _ _ _ _ _ _ L1 Mm (((aj.mono cr).mono h5).mono cQ) (((Ti.mono cr fun _ _ q=>q).mono h5 fun _ _ q=>q).mono cQ fun _ _ q=>q) aX (by rw[aT];omega) (by rw[FY];exact mZ) (Vv NA) arV ((SG.mono h5).mono cQ);rw[FY,aT] at gT;have Ch:=YV (pl:=pl) (cL:=cL) (fun p ap=>⟨(n' p ap).1,(n' p ap).2.1,(n' p ap).2.2.1,(n' p ap).2.2.2.1⟩) py (L+1) (mF p i seen) (rY p bL) vq pT aX (by rw[aT];omega) (by rw[FY];exact mZ) (Vv NA);have asL:(rY p bL).ns.length=bL.ns.length:=by rw[bd]
            refine bp ?_;refine aK.draw I (by kernel_rfl) (a0:=[.val 0,.val 1,.val 2,.val 3,.val 4,.val 5,.bw 6,.iF 7,.b6 [1,0],.bw 8,.val 9,.bw 10]) (by kernel_rfl) ?_;refine af 0x230854d ?_;refine' bX.call I I I I I I I I I I (a1:=jX am ad _ aS s pl cV cl l _ _ _ _ _ _ _ _) (cB:=_::_::(hG++AQ)) OO trivial (gT) ?_;rintro v m' lx fa ⟨_,rfl,cN,ahv,aet,acY,ad1,adO,adG,rfl,apg⟩;refine bX.buildSlice I I I I I I (ee I) I I I fun ai6=>?_;refine bX.b6 eN ?_;refine' bX.nP I I (zK I I I I I I (ee I) (Dp Q g0) (fun i q=>by cases q) ?c1 ?hm ?U ?cH ?c7 ?aj fun aF8 adQ abg=>?_);case c1=>assumption
            case hm=>exact aeX
            case U=>exact lR
            case cH=>rfl
            case c7=>rfl
            case aj=>exact cJ
            obtain⟨YI,Y4,rfl,aFn⟩:=abg.kC;refine af 0x638d ?_;refine aK.fU (m':=(l1,.row [.int .i64 ik,.int .i64 hQ,.int .i64 i0,(.slice YI (ao.length+1) Y4),(.slice L6 (rZ p bL ws).length Mp),.slice none 0 0] 96)::(gw,.row [.int .i64 p.cn,.int .i64 p.many,.int .i64 p.gE] 67)::(adQ++(AQ++jX am ad (.slice (some ⟨z7,AW,none⟩) cL.length oK) aS s pl cV cl l ((oI aS pl py (L+1) (mF p i seen) (rY p bL)).cW) cN ahv aet acY ad1 adO adG))) (ki:=[(ai6,_)]) awz ?_;refine af 0x1810c39 ?_;refine eS ⟨i+1,oI aS pl py (L+1) (mF p i seen) (rY p bL),cN,ahv,aet,acY,ad1,adO,adG,ao++[(bL.ns.length:Int)],rZ p bL ws,.slice YI (ao.length+1) Y4,.slice L6 (rZ p bL ws).length Mp,adQ,AQ,lx⟩ ?_;refine⟨aa,by rw[I8,show(jW p L seen σ).toNat -i=((jW p L seen σ).toNat -(i+1))+1 by omega,atl],Ch.ir,by rw[Ch.cW,aT];omega,(cr.trans h5).trans (cQ.trans fa),apg,by rw[dv,hZ];rfl,atk asy,abg.Dj (by simp) (by simp[asL]),abp,by have:=Ch.lt;omega⟩
        ·refine af 0x357 ?_;rw[show(jW p L seen σ).toNat -i=0 by omega] at I8;refine abq.k7 OP (fun nJ fk ar1=>?_);refine S0.k7 OP (fun wj ij ar0=>?_);have EU:=(vi.mono fk).mono ij;obtain⟨aCz,Fe,ap2⟩:=EU.n;obtain⟨dx,fn,rn,jU,rfl,tI,rJ⟩:=Fe.row aa;injection jU with jU lq arE
         subst jU;subst arE;refine bp ?_;refine aK.draw I (by kernel_rfl) (a0:=[.val 0,.val 1,.val 2,.val 3,.val 4,.val 5,.val 6,.val 7,.bw 8]) (by kernel_rfl) ?_;refine af 0x32c2a6b6c1 ?_;refine' bX.nP I I (GA I I I I (o6 I) I I I ?ae ?hs ?aR ?ap ?_);case ap=>exact aeY
         case hs=>exact xT _ _ _ (by show 0+((σ.ns.length:Int)).toNat*6+6<=fn.length;omega)
         case ae=>rfl
         case aR=>exact c6 _
         refine bX.nil ?_;refine aK.fU (m':=jX am ad (.slice (some ⟨z7,AW,none⟩) cL.length oK) aS s pl cV cl l bL.cW bG (.slice HA bL.vs.length HV) (.slice (some ⟨dx,0,none⟩) bL.ns.length cK) (.slice Hr bL.is.length HM) AP [(dx,.opn (fn.take (0+((σ.ns.length:Int)).toNat*6)++[.int .i64 ik,.int .i64 hQ,.int .i64 i0,.slice fq ao.length Et,.slice pi ws.length pj,.slice none 0 0]++fn.drop (0+((σ.ns.length:Int)).toNat*6+6)) 96 [] 0)] AN) (ki:=[(l1,_),(gw,_)]) aww ?_;refine af 0x357c0839 ?_;refine'⟨.inr I,I,_,_,.tmp I .nil,?lM,?_⟩;case lM=>exact iC _
         have At:=QV (most:=aS) (pl:=pl) (p:=p) (lv:=py) (L:=L) (seen:=seen) (σ:=σ);rw[aG (show ¬fm σ.l 8=1 from Ei),aG aa,I8] at At;have apO:oI aS pl (p::py) L seen σ={bL with ns:=bL.ns.set σ.ns.length (zl p L seen σ ao ws)}:=At;rw[apO];subst tI;have aR:0+((σ.ns.length:Int)).toNat*6=σ.ns.length*6:=aa
         obtain⟨Ra,Nb⟩:∃Ra:List Value,Ra=(fn.take (σ.ns.length*6)++[Value.int .i64 ik,Value.int .i64 hQ,Value.int .i64 i0,Value.slice fq ao.length Et,Value.slice pi ws.length pj,Value.slice none 0 0]++fn.drop (σ.ns.length*6+6)).take (bL.ns.length*6):=⟨_,I⟩;refine⟨(cr.trans fk).trans ij,I,_,_,_,_,_,_,_,I,EU.le,EU.ja,EU.v,⟨Ra,?_,?_⟩,EU.i,EU.Ba⟩
         ·show dY _ _ _ (bL.ns.set _ _).length _ _
          rw[hy,aR,Nb];exact dY.of (axe rJ ab8 I)
         ·show et 6 _ _ (bL.ns.set _ _)
          rw[Nb];refine et.put (R':=fun _=>qt wj) ap2 rJ (fun _ _ _ q=>q) ab8 I ?_;rw[eb];exact⟨_,_,_,_,_,_,I,⟨3,ar1.mono ij⟩,⟨3,ar0⟩,⟨3,.nil⟩⟩
end
def aoN{i:Int}{x:dn}:∀{l:List dn} {n a:Nat},l[a]?=some x->x.k=2/\x.i=i->((n+a:Nat):Int)∈ls i n l:=by
 intro l;induction l with
 |nil=>intro n a h;cases h
 |cons y r aC=>
  intro n a h hk;cases a with
  |zero=>
   simp at h;subst h;unfold ls;rw[aP hk];exact .head _
  |succ a=>
   have:=aC (n:=n+1) (a:=a) (by simpa using h) hk;rw[show n+1+a=n+(a+1) by omega] at this;unfold ls;split
   ·exact .tail _ this
   ·exact this
def aaE{i:Int}:∀{l:List dn} {n:Nat} {x:Int},x∈ls i n l->∃(c:Nat) (y:dn),x=((n+c:Nat):Int)/\l[c]?=some y/\y.k=2/\y.i=i:=by
 intro l;induction l with
 |nil=>intro n x h;cases h
 |cons y r aC=>
  intro n x h;unfold ls at h;have tl:x∈ls i (n+1) r->∃(c:Nat) (z:dn),x=((n+c:Nat):Int)/\(y::r)[c]?=some z/\z.k=2/\z.i=i:=fun q=>by
   obtain⟨c,z,ae,ag,aE⟩:=aC q;exact⟨c+1,z,by rw[ae];congr 1;omega,by simpa using ag,aE⟩
  split at h
  ·rename_i q;rcases fs.1 h with dc|dc
   ·exact⟨0,y,by rw[dc];rfl,I,q.1,q.2⟩
   ·exact tl dc
  ·exact tl h
def aoM{i:Int}:∀{l:List dn} {n:Nat} {y:Int},y∈ls i n l->sL (ls i n l)<=y:=by
 intro l;induction l with
 |nil=>intro n y h;cases h
 |cons x r aC=>
  intro n y h;unfold ls at h ⊢;split
  ·rename_i q;rw[aP q] at h;rcases fs.1 h with dc|dc
   ·rw[dc];exact Lc _
   ·have:=af4 dc;show(n:Int)<=y;omega
  ·rename_i q;rw[aG q] at h;exact aC h
def aqc{s:List Int}(h:s≠[]):sL s∈s:=by
 cases s with
 |nil=>exact absurd I h
 |cons x r=>exact .head _
def azQ{ns:List dn}:∀(f:Nat) (p d:Int) (n bH:Nat) (e:List iv) (g:Nat),gq ns f p d n=some (bH,e)->bH -n<g->gq ns g p d n=some (bH,e):=by
 intro f;induction f with
 |zero=>intro p d n bH e g h;cases h
 |succ f aC=>
  intro p d n bH e g h aB;have aj:=uz _ _ _ _ _ _ h;obtain⟨g,rfl⟩:∃MH,g=MH+1:=⟨g -1,aa⟩;unfold gq at h ⊢;split at h
  ·cases h
  ·rename_i x U;split at h
   ·cases h
   ·rename_i c2 es ag;simp only[cb,c8] at h;obtain⟨rfl,rfl⟩:=h;have cI:=(dO.1 U).1;have key:∀{cs:List Int} {m cz:Nat} {e:List iv},hc (gq ns f n (d+1)) cs m=some (cz,e)->m<=ns.length->cz -m<g->hc (gq ns g n (d+1)) cs m=some (cz,e):=by
     intro cs;induction cs with
     |nil=>intro m cz e h _ _;exact h
     |cons c cs UK=>
      intro m cz e h hm ak;rw[Ad] at h ⊢;split at h
      ·cases h
      ·rename_i ax;rw[aG ax];split at h
       ·cases h
       ·rename_i cX aV b7;have Ap:=uz _ _ _ _ _ _ b7;split at h
        ·cases h
        ·rename_i lO cj cw;simp only[cb,c8] at h;obtain⟨rfl,rfl⟩:=h;have aat:=Ej (fun a b c q=>uz _ _ _ a b c q) cw Ap.2.1;rw[aC _ _ _ _ _ _ b7 aa];simp only
         rw[UK cw Ap.2.1 aa]
    rw[key ag aa aa]
def al0{b:Int}(ak:0<=b){es:List iv}(h:∀e∈es,e.2.1<=b):yu es<=b:=by
 unfold yu;have key:∀(l:List iv) (m:Int),(∀e∈l,e.2.1<=b)->m<=b->l.foldl (fun m e=>max m e.2.1) m<=b:=by
  intro l;induction l with
  |nil=>intro m _ hm;exact hm
  |cons e r aC=>
   intro m aj hm;exact aC _ (fun x U=>aj x (.tail _ U)) (Int.max_le.2 ⟨hm,aj e (.head _)⟩)
 exact key es 0 h ak
def au4{g:cM}:∀{l:List dn},(∀x∈l,g1 g x=0)->p5 g l=0:=by
 intro l;induction l with
 |nil=>intro _;rfl
 |cons x r aC=>
  intro h;show(if g1 g x≠0 then g1 g x else p5 g r)=0;rw[aG (fun q=>q (h x (.head _)))];exact aC fun y an=>h y (.tail _ an)
def KC(l:List Int):ez:=⟨l,1,[],[],[],[]⟩
def Io (most:Int)(pl:Nat)(cL:List fu)(l:List Int):ez:=oI most pl cL 0 (List.replicate pl []) (KC l)
def yE (most:Int)(pl:Nat)(cL:List fu)(l:List Int):cM:=⟨pl,(Io most pl cL l).ns,(Io most pl cL l).is⟩
section
variable {most:Int}{pl:Nat}{cL:List fu}{l:List Int}
def aax(n':FM pl cL)(hm:1<=most):DE most pl cL 0 (List.replicate pl []) (KC l) (Io most pl cL l):=by
 refine YV n' cL 0 _ _ (by simp) (c6 _) ⟨I,I,(fun x U=>by cases U),(fun k v h=>by cases h),(fun k v y h=>by cases h),by show((0:Nat):Int)+1<=most;omega,b2 _⟩ (by show(1:Int)<=1;omega) (by simp) (fun s hs=>by rw[DS hs];rfl)
def au0{σ:ez}{g:cM}{c:Nat}{x:dn}{hv:List (List Int)}{L:Nat}(h:Bs pl cL σ c x hv L)(ap:g.pl=pl)(hi:g.is=σ.is)(n':FM pl cL):g1 g x=0:=by
 unfold g1;rcases h.tM with⟨ae,ag,aE,a6,dK,ga,mx⟩|⟨ae,ag,aE,a6,dK,ga,mx,yF,_⟩|⟨ae,ag,aE,a6,dK,P,s,k,dc,c9,fI,iL,q4,A3,uu⟩
 ·have aF:x.ao.length=0:=by rw[a6];rfl
  have aV:x.ws.length=0:=by rw[dK];rfl
  rw[aG aa,aG aa,aP ae,aG aa,aG (by rintro⟨w,hw,q⟩;have:=mx w hw;omega)]
 ·have aF:x.im.length=0:=by rw[a6];rfl
  rw[aP ae,aG aa,aG (by rintro⟨w,hw,q⟩;have:=yF w hw;omega)]
 ·have cZ:=n' P (dq dc);have hk:=nk uu;have aF:x.im.length=0:=by rw[ag];rfl
  have aV:x.ws.length=0:=by rw[aE];rfl
  have cj:g.is.length=σ.is.length:=by rw[hi]
  rw[aG aa,aP ae,aG aa,aG aa]
def aok(n':FM pl cL)(hm:1<=most)(Fc:most<=200)(mX:1<=pl)(tS:pl<=4)(aj:cL.length<=40):iG (yE most pl cL l)=0:=by
 have du:=aax (l:=l) n' hm;generalize fC:Io most pl cL l=σ at du;have aB:yE most pl cL l=⟨pl,σ.ns,σ.is⟩:=by unfold yE;rw[fC]
 rw[aB];have cI:0<σ.ns.length:=du.lt;have arC:σ.cW=0:=by rw[du.cW];rfl
 have Jr:=du.ir.sum;have NF:=du.ir.xX;have tM:=du.ir.is;have abJ:∀(c:Nat) (x:dn),σ.ns[c]?=some x->∃hv L,Bs pl cL σ c x hv L:=fun c x U=>by
  obtain⟨y,hv,L,h⟩:=du.rD c (c6 _) (nk U);have:=h.U;rw[U] at this;injection this with this;subst this
  exact⟨hv,L,h⟩
 obtain⟨es,t1,t2⟩:=du.agP (cL.length+1) (-1) 0 aa;have WH:=azQ _ _ _ _ _ _ (σ.ns.length+1) t1 (by show σ.ns.length -0<_;omega);have WH:gq σ.ns (σ.ns.length+1) (-1) 0 0=some (σ.ns.length,es):=WH;have aDM:yu es<=40:=al0 aa fun e he=>by have:=t2 e he;omega
 obtain⟨F,bC⟩:=du.fst;have Ss:∀k,k<σ.is.length->(F k:Int)∈ls (k:Int) 0 σ.ns/\∀y∈ls (k:Int) 0 σ.ns,(F k:Int)<=y:=fun k hk=>by
  obtain⟨dj,ht,⟨x,jx,m3,q0⟩,p7⟩:=bC.at_ k (c6 _) aa;refine⟨?_,fun y an=>?_⟩
  ·have:=aoN (n:=0) jx ⟨m3,q0⟩;rwa [j8] at this
  ·obtain⟨c,z,aN,aH,bo,db⟩:=aaE an;have:=p7 c z (c6 _) aH bo db;rw[aN];omega
 have Wo:∀{i:Nat} {s:List Int},(q7 ⟨(pl:Int),σ.ns,σ.is⟩)[i]?=some s->i<σ.is.length/\s=ls (i:Int) 0 σ.ns:=fun{i s} h=>by
  have hi:i<σ.is.length:=by have:=nk h;rw[Wm] at this;exact this
  rw[A9 hi] at h;injection h with h
  exact⟨hi,h.symm⟩
 unfold iG;rw[aG (by show ¬((pl:Int)<1\/4<(pl:Int)\/σ.ns.length<1\/2000<σ.ns.length\/200<σ.is.length);omega)];rw[aG (fun q=>q (au4 (g:=⟨(pl:Int),σ.ns,σ.is⟩) fun x U=>by
  obtain⟨c,ax⟩:=nK.1 U;obtain⟨hv,L,h⟩:=abJ c x ax;exact au0 h I I n'))]
 simp only
 rw[WH];simp only
 rw[aG (by simp),aG aa,aG (by
  rintro⟨x,U,hk,q⟩;obtain⟨c,ax⟩:=nK.1 U;obtain⟨hv,L,h⟩:=abJ c x ax;rcases h.tM with⟨ae,_⟩|⟨ae,_⟩|⟨ae,ag,aE,a6,dK,P,s,k,dc,c9,fI,iL,q4,A3,uu⟩
  ·omega
  ·omega
  ·apply q
   rw[iL,ff,uu,fI]),aG (by
  rintro⟨s,hs,q⟩;obtain⟨i,hi⟩:=nK.1 hs;obtain⟨ae,ag⟩:=Wo hi;have:=(Ss i ae).1;rw[<-ag,q] at this;cases this),aG (by
  rintro⟨i,s,t,ae,ag,q⟩;obtain⟨ba,br⟩:=Wo ae;obtain⟨bc,bl⟩:=Wo ag;obtain⟨f1,f2⟩:=Ss i ba;obtain⟨ca,b7⟩:=Ss (i+1) bc;have fK:=aoM f1;have aM:t≠[]:=fun q=>by rw[bl] at q;rw[q] at ca;cases ca
  have iO:=b7 (sL t) (by rw[<-bl];exact aqc aM);have mj:=bC.up i (i+1) (c6 _) aa aa;rw[<-br] at fK;omega)]
end
def xw(pl:Nat):Nat->List Int->List fu×List Int
 |0,l=>([],l)
 |k+1,l=>(⟨fm l (pl+1) -1,2+fm (hj l (pl+1)) 2,fm (hj (hj l (pl+1)) 2) 16⟩::(xw pl k (hj (hj (hj l (pl+1)) 2) 16)).1,(xw pl k (hj (hj (hj l (pl+1)) 2) 16)).2)
def adu{pl:Nat}:∀{k:Nat} {l:List Int},G2 pl (xw pl k l).1/\(xw pl k l).1.length=k:=by
 intro k;induction k with
 |zero=>intro l;exact⟨fun p h=>(by cases h),I⟩
 |succ k aC=>
  intro l;obtain⟨ae,ag⟩:=@aC (hj (hj (hj l (pl+1)) 2) 16);refine⟨fun p ap=>?_,by show _+1=_;rw[ag]⟩;rcases fs.1 ap with rfl|ap
  ·have ba:=qX (l:=l) (n:=(pl:Int)+1) aa
   have br:=qX (l:=hj l (pl+1)) (n:=2) aa;have bG:=qX (l:=hj (hj l (pl+1)) 2) (n:=16) aa;exact⟨by show -1<=fm l (pl+1) -1;omega,by show fm l (pl+1) -1<_;omega,by show 2<=2+fm _ _;omega,by show 2+fm _ _<=3;omega,bG.1,by show fm _ _<=15;omega⟩
  ·exact ae p ap
def FL(pl:Nat)(l:List Int):List fu:=(xw pl (1+fm l 5).toNat (hj l 5)).1
def yD (aS:Int)(pl:Nat)(l:List Int):cM:=yE aS pl (FL pl l) (xw pl (1+fm l 5).toNat (hj l 5)).2
def amX{J:ai}{a n:Nat}(h:J a=some (List.replicate n (Value.slice none 0 0),22))(aA:n<=100):dz J 22 1 (x9 J) (.slice (some ⟨a,0,none⟩) (List.replicate n ([]:List Int)).length n) (List.replicate n []):=by
 refine⟨List.replicate n (Value.slice none 0 0),?_,fun i x U=>?_⟩
 ·rw[kU]
  exact .row h (by rw[iD,ft (by simp)]) (by simp) (fun _=>⟨b2 _,jg aA bI⟩) (fun _=>rfl)
 ·have hi:=nk U
  rw[kU] at hi;have fl:=dq U;rw[List.mem_replicate] at fl;obtain rfl:=fl.2;rw[List.drop_replicate,List.take_replicate,gv aa];exact⟨none,0,I,3,.nil⟩
section
variable {Q:da Tryz.prog}{g0:Nat}{am ad:Nat}{s:Bool}{aS:Int}{pl:Nat}{cV:Option Addr}{cl:Nat}{l:List Int}{cL:List fu}{tx:Option Addr}{oK:Nat}
def aj2(gY:l.length<=9223372036854775807)(dX:pl<=4)(Jd:aS<=1000)(n':G2 pl cL)(SC:cL.length<=100):∀(lv:List fu) (L:Nat),cL.drop L=lv->L<=cL.length->PW Q g0 am ad s aS pl cV cl l cL tx oK lv L:=by
 intro lv;induction lv with
 |nil=>intro L av bi;exact YU gY dX Jd n' SC av bi fun p py q=>by cases q
 |cons p r aC=>
  intro L av bi;refine YU gY dX Jd n' SC av bi fun iK py q=>?_;injection q with aN aH;subst aH
  obtain⟨ae,_,aE⟩:=RI av;exact aC (L+1) aE ae
def aeg{J:ai}{F:List uH}{n:Int}{a:Nat}(bC:∀x∈F,∃(bD:Nat) (kM:Int),x=⟨8,[.pointer (some ⟨ad,0,none⟩),.int .i64 kM],[hq ad cV cl l bD],J,fun u m' ah=>u=.int .i64 (fm (l.drop bD) kM)/\m'=[hq ad cV cl l (mR l bD kM)]/\J=ah,false⟩):
 ∀x∈F,x.f=8->x.bP=[.pointer (some ⟨ad,0,none⟩),.int .i64 n]->(x.a1=[hq ad cV cl l a]/\x.J=J/\x.dI=fun u m' ah=>u=.int .i64 (fm (l.drop a) n)/\m'=[hq ad cV cl l (mR l a n)]/\J=ah)\/(∀H,Inv (aU Q g0).g0 (iJ x.a1 H x.J) x.J x.a1 H->Inv (aU Q g0).g0 (iJ [hq ad cV cl l a] H J) J [hq ad cV cl l a] H->False)\/x.new=true:=by
 intro x U _ aA;obtain⟨bD,kM,rfl⟩:=bC x U;injection aA with _ aA
 injection aA with aA _
 injection aA with _ aA
 subst aA;by_cases h:bD=a
 ·subst h;exact .inl ⟨I,I,I⟩
 ·refine .inr (.inl fun H ae ag=>h ?_)
  have:=as1 ae ag;injection this with _ this
  injection this with this _
  injection this with _ this
  omega
def aeZ{α:Type}{x y z u:α}{v:List α}:(x::y::z::u::v).Perm (v++[x,y,z,u]):=(ia (l₁:=[x,y,z,u]))
def awA{α:Type}{x y z u:α}{v:List α}:((z::y::u::v)++[x]).Perm (v++[x,y,z,u]):=by
 refine(ia (l₂:=[x])).trans ?_;exact((List.Perm.swap y z _).cons x).trans aeZ
def awB{α:Type}{x y z:α}{v:List α}:(x::y::z::v).Perm (v++[x,y,z]):=(ia (l₁:=[x,y,z]))
def Qw{e:TypeId}{sz:Nat}:dY e sz (.slice none 0 0) 0 [] []:=.inl ⟨.nil,(fun _ _ _ _ _ h=>by cases h),(fun _ _ _ h=>by cases h)⟩
def awC{α:Type}{x y z:α}{u v w:List α}:((x::y::(u++(v++w)))++[z]).Perm (v++(z::x::y::(u++w))):=
 (ia (l₂:=[z])).trans VT
def awD{α:Type}{x y z:α}{u w:List α}:(z::x::y::(u++w)).Perm (w++(z::x::y::u)):=ia (l₁:=z::x::y::u)
def aom{J:ai}(aj:gl J (.slice cV l.length cl) l)(gY:l.length<=9223372036854775807)(mX:1<=pl)(dX:pl<=4)(Cq:1<=aS)(Jd:aS<=1000):
 Fn (aU Q g0) 4 [.slice cV l.length cl,.int .i64 (pl:Int),.int .i64 aS,.bool false] [] J (fun u m' ah=>J.le ah/\m'=[]/\∃cO bu cy ci,u=Ao (yD aS pl l) cO bu cy ci/\r' ah (yD aS pl l) cO bu cy ci):=by
 have aEr:=qX (l:=l) (n:=5) aa;refine Fn.b9 (b1 Tryz.func4) I I fun H=>?_;refine rg ?_;refine eu fun gw=>?_;refine af 0x80738 ?_;refine fq fun wH=>?_;refine af 0x4021 ?_;refine fq fun LH=>?_;refine af 0x29b60e71c6b6c10e702 ?_;refine' W.step I (Exec.call I I I I I I I (a1:=[hq _ cV cl l 0]) (cB:=[_,_]) (List.Perm.swap _ _ _) trivial (CN aj gY (c6 _) bI) ?_);rintro v m' ah hle ⟨rfl,rfl,rfl⟩;rw[iD];refine af 0x2fabe043 ?_;refine aK.nZ (List.Perm.swap _ _ _) ?_;refine dV [(10,.int .i64 (((1+fm l 5).toNat):Int)),(1,_),(8,_),(9,_)] ?_;refine bp ?_;refine' aK.bK (fun(b8:Nat×(List fu)×Nat×Value×(List Value)×aJ)=>match b8 with|(k,cL,a,h1,cells,FR)=>⟨[(10,.int .i64 (k:Int))],(LH,.row (xy wH h1 (.slice none 0 0) aS 1 false false pl (.slice none 0 0) (.slice none 0 0)) 65)::hq wH cV cl l a::(gw,.row [.int .i64 0,.slice none 0 0,.slice none 0 0] 26)::FR,J,k<=5/\xw pl (1+fm l 5).toNat (hj l 5)=(cL++(xw pl k (l.drop a)).1,(xw pl k (l.drop a)).2)/\a<=l.length/\cL.length+k<=5/\Acc 67 3 h1 cL.length cells FR/\et 3 (fun _=>LC) cells cL,k⟩) ⟨(1+fm l 5).toNat,[],mR l 0 5,.slice none 0 0,[],[]⟩ ?hs ?bn
 case hs=>refine⟨by show(1+fm l 5).toNat<=5;omega,by rw[z9];rfl,wK (c6 _),by show 0+(1+fm l 5).toNat<=5;omega,.nil,I,fun i x h=>by cases h⟩
 case bn=>
  rintro⟨k,cL,a,h1,cells,FR⟩ hinv;try simp only at hinv
  obtain⟨hk,oU,aI,aaW,c1,fj⟩:=hinv;obtain⟨bv,i',rfl,afj⟩:=c1.kC;refine af 0x17c1039 ?_;refine If (fun ym=>?_) fun ym=>?_
  ·refine af 0x17d5f57 ?_;refine aK.draw I (by kernel_rfl) (a0:=[.val 0,.val 1,.val 2,.val 3,.val 4,.val 5,.val 6,.val 7,.val 8,.val 9,.val 10,.val 13,.val 14,.val 15,.val 16,.val 19,.val 20,.val 21,.val 22,.bw 11,.val 12,.b6 [22,21,20,19,16,15,14,13,4,3,2,1,0],.bw 17,.val 18,.b6 [22,21,20,19,12,4,3,2,1,0],.bw 23,.val 24,.iF 25,.b6 [24,18,12,4,3,2,1,0],.bw 26,.val 27,.val 28,.b6 [0],.bw 29]) (by kernel_rfl) ?_;refine af 0xf29b60a9b608c2a6d82a6d821 ?_;refine' bB.call I I I I I I I I I (fun x U=>absurd U Lr) (a1:=[hq _ cV cl l a]) (cB:=_::_::FR) (List.Perm.swap _ _ _) trivial (CN aj gY aI aa) ?_;rintro v m' ah hle ⟨rfl,rfl,rfl⟩;refine af 0x3a3 ?_;refine' bB.call I I I I I I I I I (aeg (fun x U=>by rcases fs.1 U with rfl|U;exact⟨_,_,I⟩;cases U)) (a1:=[hq _ cV cl l _]) (cB:=_::_::FR) (.refl _) trivial (CN aj gY (wK aI) aa) ?_;rintro v m' ah hle ⟨rfl,rfl,rfl⟩;refine af 0x3a3 ?_;refine' bB.call I I I I I I I I I (aeg (fun x U=>by rcases fs.1 U with rfl|U;exact⟨_,_,I⟩;rcases fs.1 U with rfl|U;exact⟨_,_,I⟩;cases U)) (a1:=[hq _ cV cl l _]) (cB:=_::_::FR) (.refl _) trivial (CN aj gY (wK (wK aI)) aa) ?_;rintro v m' ah hle ⟨rfl,rfl,rfl⟩;refine af 0x21e ?_;refine bX.buildSlice I I I I I I (ee I) I I I fun ai9=>?_;refine bX.b6 eN ?_;refine' bX.nP I I (zK I I I I I I (ee I) (az3 Q g0) (fun i q=>by cases q) ?c1 ?hm ?U ?cH ?c7 ?aj fun aGg adW M6=>?_);case c1=>assumption
   case hm=>exact aeZ
   case U=>exact lR
   case cH=>rfl
   case c7=>rfl
   case aj=>exact cJ
   obtain⟨YK,Y7,rfl,aFq⟩:=M6.kC;refine af 0x18e75b6 ?_;refine aK.fU (m':=(LH,.row (xy wH (.slice YK (cL.length+1) Y7) (.slice none 0 0) aS 1 false false pl (.slice none 0 0) (.slice none 0 0)) 65)::hq wH cV cl l (mR l (mR l (mR l a (pl+1)) 2) 16)::(gw,.row [.int .i64 0,.slice none 0 0,.slice none 0 0] 26)::adW) (ki:=[(ai9,_)]) awA ?_;refine af 0x1810c39 ?_;refine eS ⟨k -1,cL++[⟨fm (l.drop a) (pl+1) -1,2+fm (hj (l.drop a) (pl+1)) 2,fm (hj (hj (l.drop a) (pl+1)) 2) 16⟩],mR l (mR l (mR l a (pl+1)) 2) 16,.slice YK (cL.length+1) Y7,cells++[.int .i64 (fm (l.drop a) (pl+1) -1),.int .i64 (2+fm (hj (l.drop a) (pl+1)) 2),.int .i64 (fm (hj (hj (l.drop a) (pl+1)) 2) 16)],adW⟩ ?_;obtain⟨k,rfl⟩:∃fT,k=fT+1:=⟨k -1,aa⟩;have ba:=qX (l:=l.drop a) (n:=(pl:Int)+1) aa;have br:=qX (l:=hj (l.drop a) (pl+1)) (n:=2) aa;have aF:IntKind.i64.wrap (fm (l.drop a) (pl+1) -1)=fm (l.drop a) (pl+1) -1:=wrap_i64 aa aa;have aV:IntKind.i64.wrap (2+fm (hj (l.drop a) (pl+1)) 2)=2+fm (hj (l.drop a) (pl+1)) 2:=wrap_i64 aa aa;simp only[z9] at M6;rw[aF,aV] at M6;refine⟨aa,by rw[oU,z9,z9,z9,j6];rfl,wK (wK (wK aI)),by rw[dv];show cL.length+1+_<=5;omega,M6.Dj (by simp) I,fj.app I I⟩
  ·refine af 0x357 ?_;refine Acc.k7 c1 awB (fun c3 bN mZ=>?_);obtain rfl:k=0:=aa
   have ab4:FL pl l=cL:=by unfold FL;rw[oU];exact gC _
   have ji:G2 pl cL:=by rw[<-ab4];exact adu.1
   have vw:(xw pl (1+fm l 5).toNat (hj l 5)).2=l.drop a:=by rw[oU];rfl
   refine af 0x439 ?_;refine' W.step I (.of (ti I I I I I (ee I) ?aQ ?ae ?ag fun ai'=>?_));case aQ=>exact cJ
   case ae=>exact cJ
   case ag=>exact cJ
   rw[Xm,ff];refine W.eG (x:=(List.replicate pl (Value.slice none 0 0),22)) I fun cQ ao6=>?_;have gT:=aj2 (Q:=Q) (g0:=g0) (am:=LH) (ad:=wH) (s:=false) (cV:=cV) (cl:=cl) (aS:=aS) (oK:=i') (tx:=bv) gY dX Jd ji aa cL 0 I (c6 _) _ (List.replicate pl []) (KC (l.drop a)) a (.slice none 0 0) (.slice none 0 0) (.slice none 0 0) [] [] [] (some ⟨ai',0,none⟩) pl ((aj.mono bN).mono cQ) ((⟨_,mZ,fun j x U=>fj.2 j x U⟩:dz c3 67 3 LC (.slice bv cL.length i') cL).mono cQ fun _ _ q=>q) ⟨I,I,(fun x U=>by cases U),(fun k v h=>by cases h),(fun k v y h=>by cases h),by show((0:Nat):Int)+1<=aS;omega,b2 _⟩ (by show(1:Int)<=1;omega) (by simp) (fun s hs=>by rw[DS hs];rfl) (amX ao6 aa) ⟨aI,I,⟨[],Qw,I,fun i x h=>by cases h⟩,⟨[],Qw,I,fun i x h=>by cases h⟩,⟨[],Qw,I,fun i x h=>by cases h⟩,fun x U=>by cases U⟩;rw[kU] at gT;refine' W.step I (Exec.call I I I I I I I (a1:=jX LH wH _ aS false pl cV cl l 1 a _ _ _ [] [] []) (cB:=[_]) (.refl _) trivial (gT) ?_);rintro v m' lx fa ⟨_,rfl,bD,qh,F1,p1,xz,uj,vF,rfl,cZ⟩;obtain⟨⟨aB8,aCG,rfl,aFD⟩,⟨L1,Mm,rfl,axl⟩,⟨ajQ,akW,rfl,aFv⟩⟩:=cZ.Il;refine af 0xc716db0738 ?_;obtain⟨bu,aA,l9⟩:=cZ.n;obtain⟨ci,hi,yO⟩:=cZ.i;refine dY.k7 aA awC (fun nJ fk Fp=>?_);refine dY.k7 hi awD (fun wj ij arX=>?_);have Cm:yD aS pl l=⟨(pl:Int),(oI aS pl cL 0 (List.replicate pl []) (KC (l.drop a))).ns,(oI aS pl cL 0 (List.replicate pl []) (KC (l.drop a))).is⟩:=by unfold yD;rw[ab4,vw];rfl
   refine af 0x357 ?_;refine mP ?_;rw[Cm];exact⟨(ai.le.trans bN cQ).trans ((fa.trans fk).trans ij),I,L1,Mm,ajQ,akW,I,⟨_,Fp.mono ij,fun j x U=>(l9.2 j x U).mono (fk.trans ij)⟩,⟨_,arX,fun j x U=>yO.2 j x U⟩⟩
end
open Classical
section
variable {K:dW}{B:dN}{ops rest:List Oper}{o:Oper}{n:Nat}{ds:er}{l:List (Nat×Value)}{d:Nat}{m m':aJ}{J:ai}{bq:Option (List PanicEntry)->bY->aJ->ai->Prop}{cp:Exit->bY->aJ->ai->Prop}
def W.ahN{c:Call}{x:Operand}{bK:Nat}{args:List Value}{a1 cB:aJ}{hW:Value->aJ->ai->Prop}{fX:List PanicEntry->aJ->ai->Prop}
 (aB:o.guard=none)(al:o.op=.call c)(av:o.dst=some d)(aA:Nat.blt d n=true)(ax:c.callee=.value x)(U:bS l x=some (.func (.yield bK) #[] #[]))(aI:jH l c.args.toList=some args)
 (ap:(a1++cB).Perm m)(bC:uU K bK args a1 J hW fX)(h:∀v m' ah,J.le ah->hW v m' ah->W K B ops rest ⟨n,ds,(d,v)::l⟩ (m'++cB) ah bq)
 (b3:∀bx m' ah,J.le ah->fX bx m' ah->bq (some bx) ⟨n,ds,l⟩ (m'++cB) ah):W K B ops (o::rest) ⟨n,ds,l⟩ m J bq:=by
 intro S H au aD;obtain⟨H',ah,m',gg,cg,aT,bd⟩:=bC H (aD.enter ap trivial);obtain⟨cm,fz⟩:=aD.leave ap aT;rcases bd with⟨v,aX,bd⟩|⟨bx,aX,bd⟩
 ·obtain⟨a3,s1,s2⟩:=au.put (dst:=some d) aA v;obtain⟨p,aL,oz,E',ki,pa,dc,c9,fI,iL⟩:=h v m' ah fz bd a3 H' s2 cm;refine⟨p,aL,oz,E',ki,pa,.cons gg cg ?_ dc,c9,fI,iL⟩;rw[CW aB,ahO au al ax U aI,aX,av];show oq H' (S.put (some d) v)=_;rw[s1];rfl
 ·refine⟨some bx,S,H',⟨n,ds,l⟩,m'++cB,ah,.gN gg cg ?_,au,cm,b3 bx m' ah fz bd⟩;rw[CW aB,ahO au al ax U aI,aX];rfl
def aK.V9{f:Operand}{params:Array Tmp}{assign body:Code}{g:FuncId}{first cap:Array Value}(vy:ds.cx=none)(ay:bS l f=some (.func (.func g) first cap))
 (h:∀ja bK (r:qj),we r n params.toList assign body bK l->∃a1 cB dI fX,(a1++cB).Perm ((bK,.loop r)::(ja,.g6)::m)/\AR a1/\
  mO K g ((first.toList++[.func (.yield bK) #[] #[]])++cap.toList) a1 J dI fX/\(∀bx m' ah,J.le ah->fX bx m' ah->cp (.panic bx) ⟨n,ds.plus ja,l⟩ (m'++cB) ah)/\∀v m' ah,J.le ah->dI v m' ah->∃cu ki,fY (m'++cB) bK (.loop cu) (.loop {cu with state:=.exhausted}) ki/\cu.state≠.busy/\aeR cp ⟨n,ds.plus ja,l⟩ ki ah cu.pending):
 aK K B (.rangeFunc f params assign body) ⟨n,ds,l⟩ m J cp:=
 aK.axu vy ay fun ja bK T cq=>h ja bK ⟨.ready,none,T,n,params.toList,assign,body,ja⟩ ⟨I,I,I,I,I,I,cq⟩
def uU.VC{bK:Nat}{r:qj}{params:List Tmp}{assign body:Code}{args:List Value}{a1:aJ}{hW:Value->aJ->ai->Prop}{fX:List PanicEntry->aJ->ai->Prop}(ar:we r n params assign body bK l)(Cp:(bK,.loop r)∈a1)(Nt:wI n params=true)(hlen:params.length=args.length)
 (h:∀H,aK K (iJ a1 H J) assign ⟨n,BR bK,PS params args l⟩ a1 J fun e E m bj=>e=.normal/\∃cz,fY m bK (.loop r) (.loop {r with state:=.busy}) cz/\
  aK K (iJ a1 H J) body E cz bj fun e E m c3=>(∃j c9 cX lO,FF e=some j/\fY m bK (.loop c9) (.loop {c9 with state:=if j.isNone then .ready else .done,pending:=j}) cX/\lO.Sublist cX/\hW (.bool j.isNone) lO c3)\/
   ∃bx lO,e=.panic bx/\E.ds.ds=[]/\lO.Sublist m/\fX bx lO c3):uU K bK args a1 J hW fX:=by
 obtain⟨ae,rfl,rfl,rfl,rfl,_,ga⟩:=ar;exact uU.of ae Cp ga Nt hlen h
def mO.OD{f:FuncId}{fn:Func}{c:Code}{args:List Value}{a1:aJ}{hW:Value->aJ->ai->Prop}{fX:List PanicEntry->aJ->ai->Prop}(ay:K.fR.get f=some fn)(ak:fn.body=some c)(aj:Nat.ble args.length fn.ntmps=true)
 (h:∀H,aK K (iJ a1 H J) c ⟨fn.ntmps,Ag,uX args 0⟩ a1 J fun e E m ah=>∃u cz,J1 e=some u/\By E.ds.ds m cz/\Ends K fn E cz ah u hW fX):mO K f args a1 J hW fX:=by
 intro H aD;obtain⟨T,ba,br⟩:=QG (e0:=Ag) aj;have au:=br false .run I;obtain⟨e,aL,H',E',cz,ah,aX,aT,bd,u,cX,cm,fz,kh⟩:=h H _ H au aD;obtain⟨bT,aN,aH⟩:=fz.afP (adY cm) (E':=ql K.Q (lE c ⟨T,fn.ntmps,[],false,.run,none⟩ H (e,aL,H')) xD) (fn:=fn) (T:=aL.T) bd;obtain⟨m',ae,ag⟩:=kh.Ai (V:=ql K.Q (lE c ⟨T,fn.ntmps,[],false,.run,none⟩ H (e,aL,H')) xD) aT aN;refine⟨bT,ah,m',ae,?_⟩;rcases ag with⟨v,ag,aE⟩|⟨bx,ag,aE⟩
 ·refine .inl ⟨v,j5.Gg K.cZ xD ay ak ba aX (bg:=aL.bg) ?_,aE⟩;rw[Ed cm,aT.ds,aH _ ag];rfl
 ·refine .inr ⟨bx,j5.Gg K.cZ xD ay ak ba aX (bg:=aL.bg) ?_,aE⟩;rw[Ed cm,aT.ds,aH _ ag];rfl
def N1 (ops:List Oper)(l:List (Nat×Value)):List (Nat×Value):=l.filter fun x=>xE ops x.1
def atP{t:Nat}{v:Value}:∀{l:List (Nat×Value)},look (N1 ops l) t=some v->xE ops t=true/\look l t=some v:=by
 intro l;induction l with
 |nil=>intro h;cases h
 |cons x l aC=>
  obtain⟨u,y⟩:=x;intro h;have h:look (List.filter (fun x=>xE ops x.1) ((u,y)::l)) t=some v:=h;rw[List.filter_cons] at h;show _/\(bif Nat.beq t u then some y else look l t)=some v;split at h
  ·rename_i ap;have h:(bif Nat.beq t u then some y else look (N1 ops l) t)=some v:=h;cases ak:Nat.beq t u with
   |true=>
    rw[ak,cd] at h;have e:=eM ak;exact⟨e▸ap,h⟩
   |false=>rw[ak,dQ] at h;exact aC h
  ·rename_i ap;obtain⟨aN,aH⟩:=aC h;cases ak:Nat.beq t u with
   |true=>
    obtain rfl:=eM ak;exact absurd aN ap
   |false=>exact⟨aN,aH⟩
def Sat.gone{S:aY}(h:Sat ⟨n,ds,l⟩ S):Sat ⟨0,ds,N1 ops l⟩ (S.gone (xE ops)):=
 ⟨I,h.ds,h.bQ,h.bg,h.cx,fun t q=>absurd q (D2 _),fun t v q=>by
  obtain⟨aN,aH⟩:=atP q;show(S.T.fU (xE ops)).get t=some v;rw[aZ.Ip,aN];exact h.get t v aH⟩
def WP(K:dW)(B:dN)(ops:List Oper)(a0:List jM)(F:List (FuncId×List Value))(E:bY)(m:aJ)(J:ai)(cp:Exit->bY->aJ->ai->Prop):Prop:=
 ∀S H,Sat E S->Inv K.g0 B J m H->∃cg:eW,(∀f args H r,cg f args H=some r->(f,args)∉F)/\∃cf e aL H' E' m' ah,
  (∀eh:eW,(∀f args H r,cg f args H=some r->eh f args H=some r)->dA K.P (hY K.Q eh) (fW K.Q g7 eh).aO ops a0 S H=some cf)/\r4 (some cf)=some (e,aL,H')/\Sat E' aL/\Inv K.g0 B ah m' H'/\cp e E' m' ah
variable {a0:List jM}{F:List (FuncId×List Value)}{E:bY}{i:Nat}
def aK.amD{id:Nat}{a:Array Oper}(aj:JS a.toList=none)(cG:Ex a.toList=true)(ap:Kq a.toList=a0)(h:WP K B a.toList a0 [] E m J cp):aK K B (.region id a true) E m J cp:=by
 intro S H au aD;obtain⟨cg,_,cf,e,aL,H',E',m',ah,ae,aQ,ag,aE,a6⟩:=h S H au aD;refine⟨e,aL,H',E',m',ah,dR.xH K.cZ.r1 g7 cg ?_,ag,aE,a6⟩;show r4 (wW K.P (fW K.Q g7 cg).call (fW K.Q g7 cg).aO a.toList S H)=_;rw[K'];unfold wW;rw[aj];show r4 (yy K.P (hY K.Q cg) (fW K.Q g7 cg).aO a.toList S H)=_;unfold yy;rw[cG,cd,ap,ae cg (fun _ _ _ _ q=>q)];exact aQ
def WP.OC(h:bX K B ops a0 F E m J fun E m J=>cp .normal E m J):WP K B ops a0 F E m J cp:=fun S H au aD=>by
 obtain⟨cg,dj,aL,H',E',m',ah,ae,ag,aE,a6⟩:=h S H au aD;exact⟨cg,dj,_,_,aL,H',E',m',ah,ae,I,ag,aE,a6⟩
def WP.val{v:Value}(hi:nth ops i=some o)(az:dr K B o n ds l m J v)(h:WP K B ops a0 F ⟨n,ds,(d,v)::l⟩ m J cp)(aB:o.guard=none:=by exact I) (av:o.dst=some d:=by exact I) (aA:Nat.blt d n=true:=by exact I):WP K B ops (.val i::a0) F ⟨n,ds,l⟩ m J cp:=by
 intro S H au aD;obtain⟨a3,s1,s2⟩:=au.put (dst:=some d) aA v;obtain⟨cg,dj,cf,e,aL,H',E',m',ah,ae,aQ,ag,aE,a6⟩:=h a3 H s2 aD;refine⟨cg,dj,cf,e,aL,H',E',m',ah,fun eh q=>?_,aQ,ag,aE,a6⟩;show jl ops i (mM K.P _ _ ops S H (dA K.P _ _ ops a0))=_;unfold jl;rw[hi];show mM K.P _ _ ops S H (dA K.P _ _ ops a0) o=_;unfold mM gK;rw[aB];show Du S H o.dst (dA K.P _ _ ops a0) (cA K.P _ _ S H o)=_;rw[az _ _ S H au aD,av];show(bif Nat.beq H.ao H.ao then qe (dA K.P _ _ ops a0) H (S.put (some d) v) else none)=_;rw[ix,cd,s1];exact ae eh q
def WP.Mg{c:Call}{x:Operand}{f:FuncId}{first cap:Array Value}{args bP:List Value}{a1 cB:aJ}{hW:Value->aJ->ai->Prop}{fX:List PanicEntry->aJ->ai->Prop}
 (hi:nth ops i=some o)(aB:o.guard=none)(al:o.op=.call c)(av:o.dst=some d)(aA:Nat.blt d n=true)(ax:c.callee=.value x)(U:bS l x=some (.func (.func f) first cap))(aI:jH l c.args.toList=some args)(has:(first.toList++args)++cap.toList=bP)
 (ay:F.all (fun g=>!Nat.beq g.1 f)=true)(ap:(a1++cB).Perm m)(bC:mO K f bP a1 J hW fX)(h:∀v m' ah,J.le ah->hW v m' ah->WP K B ops a0 ((f,bP)::F) ⟨n,ds,(d,v)::l⟩ (m'++cB) ah cp)
 (b3:∀bx m' ah,J.le ah->fX bx m' ah->cp (.panic bx) ⟨0,ds,N1 ops l⟩ (m'++cB) ah):WP K B ops (.bw i::a0) F ⟨n,ds,l⟩ m J cp:=by
 intro S H au aD;have ay:(f,bP)∉F:=fun q=>by
  rw[sf] at ay;have:=ay (f,bP) q;simp at this
 obtain⟨H',ah,m',aT,US⟩:=bC H (aD.enter ap trivial);obtain⟨cm,fz⟩:=aD.leave ap aT;have key:∀(eh:eW) (e:Ending),j5 K.Q f bP H e H'->eh f bP H=some (e,H')->jl ops i (fun o=>jS ops (dA K.P (hY K.Q eh) (fW K.Q g7 eh).aO ops a0) (one K.P (hY K.Q eh) (fW K.Q g7 eh).aO ops S H o))=jS ops (dA K.P (hY K.Q eh) (fW K.Q g7 eh).aO ops a0) (o2 S H (some d) (oL (some (e,H')))):=fun eh e aX gT=>by
  unfold jl;rw[hi];show jS ops (dA K.P _ _ ops a0) (one K.P _ _ ops S H o)=_;unfold one gK;rw[aB];show jS ops (dA K.P _ _ ops a0) (o2 S H o.dst (cA K.P _ _ S H o))=_;have he:cA K.P (hY K.Q eh) (fW K.Q g7 eh).aO S H o=oL (some (e,H')):=by
   unfold cA fi;simp only[al];show kN K.P _ c=_;unfold kN;rw[ax];show nj K.P _ _ S.T H c=_;unfold nj;rw[pQ au H aI];simp only[ax];rw[dw au H U];simp only
   show(match kY K.P H (.func f) (first.toList++args) cap.toList with|some (f,bP)=>oL (hY K.Q _ f bP H)|none=>none)=_
   unfold kY;simp only
   rw[has,Ac aX gT]
  rw[he,av]
 rcases US with⟨v,aX,bd⟩|⟨bx,aX,bd⟩
 ·obtain⟨a3,s1,s2⟩:=au.put (dst:=some d) aA v;obtain⟨cg,dj,cf,e,aL,oz,E',ki,pa,ae,aQ,ag,aE,a6⟩:=h v m' ah fz bd a3 H' s2 cm;refine⟨fun ck bV H1=>if ck=f/\bV=bP then lD f bP H (.returned v,H') ck bV H1 else cg ck bV H1,fun ck bV H1 r q=>?_,cf,e,aL,oz,E',ki,pa,fun eh q=>?_,aQ,ag,aE,a6⟩
  ·simp only at q;split at q
   ·rename_i e;rw[e.1,e.2];exact ay
   ·exact fun cu=>dj ck bV H1 r q (XW _ cu)
  ·have gT:eh f bP H=some (.returned v,H'):=q f bP H _ (by simp only[LQ,aP];unfold lD;rw[aP ⟨I,I,I⟩]);have vw:∀ck bV H1 r,cg ck bV H1=some r->eh ck bV H1=some r:=fun ck bV H1 r ar=>q ck bV H1 r (by
    simp only
    rw[aG (fun e=>dj ck bV H1 r ar (by rw[e.1,e.2];exact List.mem_cons_self))];exact ar)
   refine(key eh _ aX gT).trans ?_;show jS ops (dA K.P _ _ ops a0) (oq H' (S.put (some d) v))=_;rw[s1];exact ae eh vw
 ·refine⟨lD f bP H (.panicked bx,H'),fun ck bV H1 r q=>?_,.gN bx (S.gone (xE ops)) H',.panic bx,_,H',_,m'++cB,ah,fun eh q=>?_,I,au.gone,cm,b3 bx m' ah fz bd⟩
  ·unfold lD at q;split at q
   ·rename_i e;rw[e.1,e.2.1];exact ay
   ·cases q
  ·exact key eh _ aX (q f bP H _ (by unfold lD;rw[aP ⟨I,I,I⟩]))
end
abbrev e8{α:Type}(R:α->Value->Prop):α->List Value->Prop:=fun x cs=>∃v,cs=[v]/\R x v
def dz.eg{α:Type}{J:ai}{e:TypeId}{n c:Nat}{b:Option Addr}{R:α->Value->Prop}{xs:List α}(h:dz J e 1 (e8 R) (.slice b n c) xs):0<n->∃mr off cells e,b=some ⟨mr,off,none⟩/\J mr=some (cells,e)/\∀i:Nat,i<n->∃v,nth cells (off+(i:Int).toNat*1)=some v/\∃x,xs[i]?=some x/\R x v:=fun ap=>by
 obtain⟨ae,ag⟩:=h.at;obtain⟨a,off,cells,bA,aX,aT,bd⟩:=ag aa;refine⟨a,off,cells,bA,aX,aT,fun i hi=>?_⟩;obtain⟨x,cs,aN,aH,bo,v,rfl,fH⟩:=bd i aa aa;rw[ff] at aN;exact⟨v,bo 0 v bI I,x,aN,fH⟩
abbrev afx(pM:Nat->aJ->ai->Prop)(wB:aJ->ai->Prop)(i:Nat):Value->aJ->ai->Prop:=fun w m' ah=>∃t,w=.bool t/\(t=true->pM (i+1) m' ah)/\(t=false->wB m' ah)
section
variable {Q:da Tryz.prog}{g0:Nat}{J:ai}
def LE{fn:Func}{e:Exit}{E:bY}{m m':aJ}{vs:List Value}{hW:Value->aJ->ai->Prop}{fX:List PanicEntry->aJ->ai->Prop}(ap:hW (p6 vs) m' J)(he:J1 e=some .returning:=by exact I) (av:E.ds.ds=[]:=by exact I) (ar:nN (aU Q g0).P E m J fn.results.toList vs:=by first|exact .nil|exact .tmp I .nil|exact pE .nil) (hs:m'.Sublist m:=by first|exact .refl _|exact kt _):Leaves (aU Q g0) fn e E m J hW fX:=⟨.returning,he,.inl ⟨av,.inl ⟨I,vs,m',ar,hs,ap⟩⟩⟩
def afL{pM:Nat->aJ->ai->Prop}{wB:aJ->ai->Prop}{fX:List PanicEntry->aJ->ai->Prop}{G:Nat->Value->Prop}{bK ba n c:Nat}{b:Option Addr}{zh:aJ}(aA:n<9223372036854775807)
 (eg:0<n->∃mr off cells e,b=some ⟨mr,off,none⟩/\J mr=some (cells,e)/\∀i:Nat,i<n->∃v,nth cells (off+(i:Int).toNat*1)=some v/\G i v)(aQ:pM 0 zh J)
 (kD:∀i v m cv,i<n->G i v->J.le cv->pM i m cv->uU (aU Q g0) bK [v] m cv (afx pM wB i) fX):
 mO (aU Q g0) 60 [.func (.yield bK) #[] #[],.pointer (some ⟨ba,0,none⟩)] ((ba,.row [.slice b n c] 38)::zh) J (fun w m' ah=>J.le ah/\(pM n m' ah\/wB m' ah)) (fun bx m' ah=>J.le ah/\fX bx m' ah):=by
 refine mO.b9 (b1 Tryz.func60) I I fun H=>?_;refine af 0xbeaf809539 ?_;refine aK.nZ (m':=zh++[(ba,.row [.slice b n c] 38)]) (wm _ _) ?_;refine dV [(7,.int .i64 ((0):Int)),(0,_),(5,_),(6,_)] ?_;refine bp ?_;refine' aK.bK (fun(b8:Nat×aJ×ai)=>match b8 with|(i,eB,cv)=>⟨[(7,.int .i64 (i:Int))],eB++[(ba,.row [.slice b n c] 38)],cv,i<=n/\J.le cv/\pM i eB cv,n -i⟩) ⟨0,zh,J⟩ ?hs ?bn
 case hs=>exact⟨c6 _,ai.le.refl _,aQ⟩
 case bn=>
  rintro⟨i,eB,cv⟩ hinv;try simp only at hinv
  obtain⟨hi,cr,cZ⟩:=hinv;refine af 0xbe099 ?_;refine If (fun gm=>?_) fun gm=>?_
  ·obtain⟨mr,off,cells,e,rfl,gX,jJ⟩:=eg aa;obtain⟨v,az,cS⟩:=jJ i aa;have gX:=cr _ _ gX;refine af 0x8738124d9d5f57 ?_;refine W.ahN I I I I I I I (a1:=eB) (cB:=[_]) (.refl _) (kD i v eB cv aa cS cr cZ) ?_ ?_
   rotate_left 1
   ·exact fun bx m' e3 cQ ap=>⟨_,I,.inl ⟨I,.inr ⟨_,_,I,oB _ _,cr.trans cQ,ap⟩⟩⟩
   rintro w cX c3 bN ⟨t,rfl,tG,vj⟩;refine af 0x5f11 ?_;refine If (fun fE=>?_) fun fE=>?_
   ·refine af 0x357 ?_
    exact LE (m':=cX) ⟨cr.trans bN,.inr (vj (by simpa using fE))⟩ (hs:=oB _ _)
   ·refine af 0x3011e757 ?_;refine eS ⟨i+1,cX,c3⟩ ?_;exact⟨aa,cr.trans bN,tG (by simpa using fE)⟩
  ·obtain rfl:i=n:=aa
   refine af 0x357 ?_
   exact LE (m':=eB) ⟨cr,.inl cZ⟩ (hs:=oB _ _)
def afM{b:Option Addr}{n c:Nat}(oo:addrEq b b=true):
 Fn (aU Q g0) 26 [.slice b n c] [] J (fun w m' ah=>∃ba,w=.func (.func 60) #[] #[.pointer (some ⟨ba,0,none⟩)]/\m'=[(ba,.row [.slice b n c] 38)]/\J=ah):=by
 refine Fn.b9 (b1 Tryz.func26) I I fun H=>?_;refine rg ?_;refine fq fun ba=>?_;refine af 0xd5f0296702 ?_;refine iw ?_;exact⟨ba,I,I,I⟩
def ax2{pM:Nat->aJ->ai->Prop}{wB:aJ->ai->Prop}{fX:List PanicEntry->aJ->ai->Prop}{G:Nat->Value->Prop}{bK ba n c:Nat}{b:Option Addr}{zh:aJ}(aA:n<9223372036854775807)
 (eg:0<n->∃mr off cells e,b=some ⟨mr,off,none⟩/\J mr=some (cells,e)/\∀i:Nat,i<n->∃v,nth cells (off+(i:Int).toNat*1)=some v/\G i v)(aQ:pM 0 zh J)
 (kD:∀i v m cv,i<n->G i v->J.le cv->pM i m cv->uU (aU Q g0) bK [v] m cv (afx pM wB i) fX):
 mO (aU Q g0) 83 [.func (.yield bK) #[] #[],.pointer (some ⟨ba,0,none⟩)] ((ba,.row [.slice b n c] 32)::zh) J (fun w m' ah=>J.le ah/\(pM n m' ah\/wB m' ah)) (fun bx m' ah=>J.le ah/\fX bx m' ah):=by
 refine mO.b9 (b1 Tryz.func83) I I fun H=>?_;refine af 0xbeaf809539 ?_;refine aK.nZ (m':=zh++[(ba,.row [.slice b n c] 32)]) (wm _ _) ?_;refine dV [(7,.int .i64 ((0):Int)),(0,_),(5,_),(6,_)] ?_;refine bp ?_;refine' aK.bK (fun(b8:Nat×aJ×ai)=>match b8 with|(i,eB,cv)=>⟨[(7,.int .i64 (i:Int))],eB++[(ba,.row [.slice b n c] 32)],cv,i<=n/\J.le cv/\pM i eB cv,n -i⟩) ⟨0,zh,J⟩ ?hs ?bn
 case hs=>exact⟨c6 _,ai.le.refl _,aQ⟩
 case bn=>
  rintro⟨i,eB,cv⟩ hinv;try simp only at hinv
  obtain⟨hi,cr,cZ⟩:=hinv;refine af 0xbe099 ?_;refine If (fun gm=>?_) fun gm=>?_
  ·obtain⟨mr,off,cells,e,rfl,gX,jJ⟩:=eg aa;obtain⟨v,az,cS⟩:=jJ i aa;have gX:=cr _ _ gX;refine af 0x8738124d9d5f57 ?_;refine W.ahN I I I I I I I (a1:=eB) (cB:=[_]) (.refl _) (kD i v eB cv aa cS cr cZ) ?_ ?_
   rotate_left 1
   ·exact fun bx m' e3 cQ ap=>⟨_,I,.inl ⟨I,.inr ⟨_,_,I,oB _ _,cr.trans cQ,ap⟩⟩⟩
   rintro w cX c3 bN ⟨t,rfl,tG,vj⟩;refine af 0x5f11 ?_;refine If (fun fE=>?_) fun fE=>?_
   ·refine af 0x357 ?_
    exact LE (m':=cX) ⟨cr.trans bN,.inr (vj (by simpa using fE))⟩ (hs:=oB _ _)
   ·refine af 0x3011e757 ?_;refine eS ⟨i+1,cX,c3⟩ ?_;exact⟨aa,cr.trans bN,tG (by simpa using fE)⟩
  ·obtain rfl:i=n:=aa
   refine af 0x357 ?_
   exact LE (m':=eB) ⟨cr,.inl cZ⟩ (hs:=oB _ _)
def ax3{b:Option Addr}{n c:Nat}(oo:addrEq b b=true):
 Fn (aU Q g0) 52 [.slice b n c] [] J (fun w m' ah=>∃ba,w=.func (.func 83) #[] #[.pointer (some ⟨ba,0,none⟩)]/\m'=[(ba,.row [.slice b n c] 32)]/\J=ah):=by
 refine Fn.b9 (b1 Tryz.func52) I I fun H=>?_;refine rg ?_;refine fq fun ba=>?_;refine af 0xd5f0296702 ?_;refine iw ?_;exact⟨ba,I,I,I⟩
def Kf:1<cK:=by decide
def avD{x:Nat}:[x].length<=200000:=by rw[x8];decide
def VP{v w:Value}{x y:Nat}(ae:ei J v x)(ag:ei J w y)(aj:(aq x).length<=200000):Fn (aU Q g0) 39 [v,w] [] J (fun u m' ah=>u=.int .i64 (j' x y)/\m'=[]/\J=ah):=by
 have ae:dZ .u32 J v (aq x):=ae;have ag:dZ .u32 J w (aq y):=ag;obtain⟨bc,bb,rfl⟩:=ae.form;obtain⟨bl,bt,rfl⟩:=ag.form;refine Fn.b9 (b1 Tryz.func39) I I fun H=>?_;refine af 0x5f04284a1ce059 ?_;refine If (fun dt=>?_) fun dt=>?_
 ·refine af 0xbe08509439 ?_;refine If (fun gh=>?_) fun gh=>?_
  ·refine af 0x1abe059 ?_;refine b4 ?_
   exact⟨by rw[Em (UY aa)];rfl,I,I⟩
  ·refine af 0x6af816757 ?_;refine b4 ?_
   exact⟨by rw[En (UY aa)];rfl,I,I⟩
 ·refine af 0x357c08650e757 ?_;refine dV [(5,.int .i64 ((((aq x).length):Int) -1)),(0,_),(1,_)] ?_;refine bp ?_;refine' aK.og (fun(k:Nat)=>⟨[(5,.int .i64 ((k:Int) -1))],k<=(aq x).length/\(aq x).drop k=(aq y).drop k,k⟩) ((aq x).length) ?hs ?bn;case hs=>exact⟨b2 _,by rw[to aa,to aa]⟩
  case bn=>
   rintro k hinv;try simp only at hinv
   obtain⟨hk,av⟩:=hinv;refine af 0x17c1039 ?_;refine If (fun nO=>?_) fun nO=>?_
   ·obtain⟨a,o,cl,e,rfl,gX,az⟩:=ae.at aa;obtain⟨bD,o',El,bA,rfl,IJ,vz⟩:=ag.at aa;obtain⟨p,ap,lp⟩:=az (k -1) aa;obtain⟨q,b3,Cr⟩:=vz (k -1) aa;have lp:nth cl (o+((k:Int) -1).toNat*1)=some (.int .u32 (p:Int)):=by rw[show((k:Int) -1).toNat=k -1 by omega];exact lp
    have Cr:nth El (o'+((k:Int) -1).toNat*1)=some (.int .u32 (q:Int)):=by rw[show((k:Int) -1).toNat=k -1 by omega];exact Cr
    refine af 0x17d5f57 ?_;refine aK.draw I (by kernel_rfl) (a0:=[.val 0,.val 1,.val 2,.val 3,.val 4,.val 5,.val 6,.val 7,.val 8]) (by kernel_rfl) ?_;refine af 0x5f044982149821 ?_;refine If (fun yn=>?_) fun yn=>?_
    ·refine af 0x1abe059 ?_;refine b4 ?_
     exact⟨by rw[Em (adj ap b3 (by rw[show k -1+1=k by omega];exact av) aa)];rfl,I,I⟩
    ·refine af 0x5f57 ?_;refine aK.draw I (by kernel_rfl) (a0:=[.val 0,.val 1,.val 2,.val 3,.val 4,.val 5,.val 6,.val 7,.val 8]) (by kernel_rfl) ?_;refine af 0x5f044982149821 ?_;refine If (fun u0=>?_) fun u0=>?_
     ·refine af 0x1abe059 ?_;refine b4 ?_
      exact⟨by rw[En (adj b3 ap (by rw[show k -1+1=k by omega];exact av.symm) aa)];rfl,I,I⟩
     ·refine af 0x60430e757 ?_;refine om (k -1) ?_;exact⟨aa,by rw[drop_cons (i:=k -1) ap,drop_cons (i:=k -1) b3,show k -1+1=k by omega,av];congr 1;omega⟩
   ·refine af 0x6af816757 ?_;refine b4 ?_
    exact⟨by
     obtain rfl:k=0:=aa
     rw[Mk (show x=y by rw[<-h0 x,<-h0 y];exact dh bf av)];rfl,I,I⟩
def Wt{x:Nat}(U:x<1000000000):Fn (aU Q g0) 110 [.int .u32 (x:Int)] [] J (qv J x):=by
 refine Fn.b9 (b1 Tryz.func110) I I fun H=>?_;refine af 0x1ce059 ?_;refine jG fun cD=>?_;refine W.eG I fun a8 w5=>?_;refine cl (G:=KH (l:=[x]) (.row w5 I I (fun _=>⟨b2 _,Kf⟩) (fun q=>absurd q (Ha Kf))) (fun z aR=>by rw[Bu.1 aR];exact U) avD) (h:=?_);rintro v' m' ah hle ⟨rfl,rfl,bi⟩;rw[KQ] at bi;refine af 0xd5f02 ?_;refine b4 ?_;exact⟨a8,I,bi⟩
def al8{x y i b b' d:Nat}{out:List Nat}(aj:out.length=i)(h:bf ((aq x).take i)+1000000000 ^ i*b=bf out+bf ((aq y).take i))(av:d+b+(aq y).getD i 0=(aq x).getD i 0+1000000000*b'):bf ((aq x).take (i+1))+1000000000 ^ (i+1)*b'=bf (out++[d])+bf ((aq y).take (i+1)):=by
 rw[ahe,PB,PB,aj];have e:1000000000 ^ i*d+1000000000 ^ i*b+1000000000 ^ i*(aq y).getD i 0=1000000000 ^ i*(aq x).getD i 0+1000000000 ^ (i+1)*b':=by
  rw[lz,lY,<-hV,<-hV,<-hV,av]
 omega
def al7{x y b:Nat}{out:List Nat}(eU:y<=x)(cG:hh out)(aj:out.length=(aq x).length)(h:bf ((aq x).take (aq x).length)+1000000000 ^ (aq x).length*b=bf out+bf ((aq y).take (aq x).length))(ak:b<2):bf out=x -y:=by
 have hlen:(aq y).length<=(aq x).length:=by
  rcases ha (aq x).length (aq y).length with q|q
  ·have:=ud (x:=x) (b2 _)
   have ae:=ahd (k5 x) (wO y) q;rw[h0,h0] at ae;omega
  ·exact q
 rw[Gt (b2 _),Gt hlen,h0,h0] at h;have ag:=uB cG;rw[aj] at ag;rcases(show b=0\/b=1 by omega) with rfl|rfl
 ·rw[sj] at h;omega
 ·rw[jr] at h;omega
def azU{v:Value}{l:List Nat}{aS:aJ}(h:dY 92 1 v l.length (cc .u32 l) aS)(al:hh l)(aj:l.length<=200000):Fn (aU Q g0) 74 [v] aS J (fun u m' ah=>m'=aS/\J=ah/\dY 92 1 u (aq (bf l)).length (cc .u32 (aq (bf l))) aS):=by
 have aqx:∃b c,v=.slice b l.length c:=by
  rcases h.form with⟨b,aN,aH,_⟩|⟨a,full,rest,aN,_⟩
  ·exact⟨_,_,by rw[aH];exact aN⟩
  ·exact⟨_,_,aN⟩
 obtain⟨b,c,rfl⟩:=aqx;have mb:=h.row;refine Fn.b9 (b1 Tryz.func74) I I fun H=>?_;refine af 0x1abe059 ?_;refine dV [(0,.slice b (l.length) c)] ?_;refine bp ?_;refine' aK.og (fun(k:Nat)=>⟨[(0,.slice b k c)],k<=l.length/\∀j y,k<=j->l[j]?=some y->y=0,k⟩) (l.length) ?hs ?bn;case hs=>exact⟨b2 _,fun j y ae ag=>by have:=(dO.1 ag).1;omega⟩
 case bn=>
  rintro k hinv;try simp only at hinv
  obtain⟨hk,aR⟩:=hinv;refine af 0x121439 ?_;refine eX 6 (fun jT=>?_) fun jT=>?_
  ·obtain⟨x,U⟩:∃x,l[k -1]?=some x:=⟨_,cU aa⟩;obtain⟨a,full,rest,bE,rfl,jd,tI⟩:=mb aa;injection bE with bE _ gP
   subst bE;subst gP;have aA:nth full (0+((k:Int) -1).toNat*1)=some (.int .u32 (x:Int)):=by
    rw[Vx jd aa];exact uo U aa
   refine af 0x2f84114619421 ?_;refine If (fun fE=>?_) fun fE=>?_
   ·refine af 0x328439d5f57 ?_;refine' W.step I (Exec.val I I (KP I I I (ee I) ?hm ?aQ ?ae) ?_);case hm=>repeat first|exact .head _|refine j7 _ ?_
    case aQ=>exact cJ
    case ae=>exact cJ
    refine af 0x302 ?_;rw[show((k:Int) -1).toNat=k -1 by omega];refine om (k -1) ?_;exact⟨aa,fun j y ae ag=>by
     by_cases q:k<=j
     ·exact aR j y q ag
     ·obtain rfl:j=k -1:=aa
      rw[U] at ag;injection ag with ag;omega⟩
   ·refine af 0xd5f020e757 ?_;refine iw ?_
    exact⟨I,I,by
      rw[<-Pv al hk aR fun y ae ag=>by rw[U] at ag;injection ag with ag;omega];rw[eL,gv hk];obtain⟨_,_,_,bE,ct,sE⟩:=h.cut hk aa;injection bE with bE
      injection bE with bE
      injection bE with bE
      subst bE;have e:(cc IntKind.u32 l).take (k*1)=cc .u32 (l.take k):=by rw[jr];unfold cc;rw[GY]
      rw[<-e];exact sE⟩
  ·refine af 0x6af81073abeaf846f7bdef7b ?_;refine iw ?_
   exact⟨I,I,by
      have Ni:k=0:=aa
      subst Ni;rw[<-Pv al hk aR fun y ae ag=>by omega];rw[ku];rcases oC l.length with q|q
      ·have e:l=[]:=mQ q
       subst e;exact h
      ·obtain⟨a,full,rest,bE,ct,sE⟩:=h.cut hk q
       injection bE with bE _ gP
       subst bE;subst gP;exact sE⟩
def adH{v w:Value}{x y:Nat}(ae:ei J v x)(ag:ei J w y)(eU:y<=x)(aj:(aq x).length<=200000)(pZ:(aq y).length<=200000):Fn (aU Q g0) 40 [v,w] [] J (fun u m' ah=>J=ah/\dY 92 1 u (aq (x -y)).length (cc .u32 (aq (x -y))) m'):=by
 have ae:dZ .u32 J v (aq x):=ae;have ag:dZ .u32 J w (aq y):=ag;obtain⟨bc,bb,rfl⟩:=ae.form;obtain⟨bl,bt,rfl⟩:=ag.form;refine Fn.b9 (b1 Tryz.func40) I I fun H=>?_;refine af 0x357c0b3816702ce059 ?_;refine dV [(7,.int .i64 ((0):Int)),(6,.int .i64 ((0):Int)),(5,(.slice none 0 0)),(0,_),(1,_)] ?_;refine bp ?_;refine' aK.bK (fun(b8:Nat×Nat×(List Nat)×Value×aJ)=>match b8 with|(i,b,out,ov,aS)=>⟨[(7,.int .i64 (i:Int)),(6,.int .i64 (b:Int)),(5,ov)],aS,J,i<=(aq x).length/\out.length=i/\b<2/\hh out/\bf ((aq x).take i)+1000000000 ^ i*b=bf out+bf ((aq y).take i)/\dY 92 1 ov out.length (cc .u32 out) aS,(aq x).length -i⟩) ⟨0,0,[],.slice none 0 0,[]⟩ ?hs ?bn
 case hs=>exact⟨c6 _,I,by decide,aex,by rw[ku,ku];rfl,.inl ⟨.nil,xZ,xA⟩⟩
 case bn=>
  rintro⟨i,b,out,ov,aS⟩ hinv;try simp only at hinv
  obtain⟨hi,ji,ax,cG,az,c1⟩:=hinv;refine af 0x5f0428439 ?_;refine If (fun ms=>?_) fun ms=>?_
  ·obtain⟨a,o,cl,e,rfl,gX,y4⟩:=ae.at aa;obtain⟨p,ap,lp⟩:=y4 i aa;have aN:=vc ap;have aH:=Sb (k5 y) i;have bo:=uq (k5 x) ap;obtain⟨b',d,yL,yK,av⟩:∃b' d:Nat,d+b+(aq y).getD i 0=p+1000000000*b'/\b'<2/\d<1000000000:=by
    by_cases q:p<b+(aq y).getD i 0
    ·exact⟨1,p+1000000000 -b -(aq y).getD i 0,aa,by decide,aa⟩
    ·exact⟨0,p -b -(aq y).getD i 0,aa,by decide,aa⟩
   refine af 0xc10a10e702185c930439d5f57 ?_;refine fc [8,25,0,1,5,7] ?_;refine bp ?_;refine' aK.hp 2 [(8,.int .i64 ((p:Int) -b -((aq y).getD i 0:Nat)))] ?Rf ?RC;case Rf=>
    refine If (fun uY=>?_) fun uY=>?_
    ·obtain⟨bD,o',El,bA,rfl,IJ,Uz⟩:=ag.at aa;obtain⟨iK,Fi,aEe⟩:=Uz i aa;have db:=vc Fi;have fH:=uq (k5 y) Fi;refine af 0x3021b92608439 ?_;refine'⟨⟨_,I,⟨?o1,I,I,I,I,trivial⟩⟩,iC _,I⟩;case o1=>(exact dh some (dh (Value.int .i64) (by have q:=vc Fi;omega)))
    ·refine lu ?_;refine'⟨⟨_,I,⟨?o1,I,I,I,I,trivial⟩⟩,iC _,I⟩;case o1=>(exact dh some (dh (Value.int .i64) (by have q:=B1 (l:=aq y) (i:=i) aa;omega)))
   case RC=>
    refine af 0x6081ce059 ?_;refine fc [6,8,34,0,1,5,7] ?_;refine bp ?_;refine' aK.hp 3 [(6,.int .i64 (b':Int)),(8,.int .i64 (d:Int))] ?ak6 ?amo;case ak6=>
     refine If (fun uZ=>?_) fun uZ=>?_
     ·refine af 0x30210c39 ?_;refine'⟨⟨_,I,⟨?e2,?o1,I,I,I,I,trivial⟩⟩,iC _,I⟩;case e2=>exact dh some (dh (Value.int .i64) aa)
      case o1=>exact dh some (dh (Value.int .i64) aa)
     ·refine lu ?_;refine'⟨⟨_,I,⟨?e2,?o1,I,I,I,I,trivial⟩⟩,iC _,I⟩;case e2=>exact dh some (dh (Value.int .i64) aa)
      case o1=>exact dh some (dh (Value.int .i64) aa)
    case amo=>
     refine af 0x70439 ?_;refine jG fun aBN=>?_;refine' W.step I (.of (v3 I I I I I I (ee I) (zG Q g0) (fun i q=>by cases q) ?c1 ?hm ?U ?cH ?c7 ?aW ?aj fun W3 Vb apE=>?_));case c1=>exact c1
     case hm=>exact(wm _ aS).symm
     case U=>exact lR
     case cH=>rfl
     case c7=>rfl
     case aW=>exact Nat.one_pos
     case aj=>exact(show out.length+1<=1000000 by omega)
     refine af 0x302 ?_;have SU:dY 92 1 W3 (out++[d]).length (cc .u32 (out++[d])) Vb:=by
        rw[zn,dv];exact apE
     have bn:i+1<=(aq x).length/\(out++[d]).length=i+1/\b'<2/\hh (out++[d])/\bf ((aq x).take (i+1))+1000000000 ^ (i+1)*b'=bf (out++[d])+bf ((aq y).take (i+1))/\dY 92 1 W3 (out++[d]).length (cc .u32 (out++[d])) Vb:=
        ⟨aa,by rw[dv,ji];rfl,yK,VD cG fun z aR=>by rw[Bu.1 aR];exact av,al8 ji az (by rw[aN];exact yL),SU⟩
     refine af 0x1810c39 ?_;refine eS ⟨i+1,b',out++[d],W3,Vb⟩ ?_ (hm:=oB _ _);exact bn
  ·obtain rfl:i=(aq x).length:=aa
   have asp:=al7 eU cG ji az ax;refine af 0xe757 ?_;refine' W.step I (Exec.call I I I I I I I (a1:=aS) (cB:=[]) (.of_eq (gC aS)) trivial (azU c1 cG aa) ?_);rintro v' m' ah hle ⟨rfl,rfl,sE⟩;rw[asp] at sE;refine af 0xd5f02 ?_;refine iw ?_;exact⟨I,by rw[gC];exact sE⟩
def auD{V c i j p R Y q ed T aeL:Nat}(cq:T=c+ed+p*q)(h:V+1000000000 ^ (i+j)*c=R+1000000000 ^ i*(p*Y))(hs:aeL+1000000000 ^ (i+j)*ed=V+1000000000 ^ (i+j)*(T % 1000000000)):aeL+1000000000 ^ (i+(j+1))*(T / 1000000000)=R+1000000000 ^ i*(p*(Y+1000000000 ^ j*q)):=by
 have e:1000000000 ^ (i+j)*T=1000000000 ^ (i+j)*(T % 1000000000)+1000000000 ^ (i+(j+1))*(T / 1000000000):=by
  conv=>lhs;rw[<-G' T 1000000000]
  rw[hV,<-DW i j 1,lz,lY]
 have aV:1000000000 ^ (i+j)*T=1000000000 ^ (i+j)*c+1000000000 ^ (i+j)*ed+1000000000 ^ (i+j)*(p*q):=by rw[cq,hV,hV]
 have cj:1000000000 ^ i*(p*(Y+1000000000 ^ j*q))=1000000000 ^ i*(p*Y)+1000000000 ^ (i+j)*(p*q):=by
  rw[hV,hV,sk,lY,D1 p]
 omega
def af7{l:List Nat}{i n v:Nat}(h:∀j z:Nat,n<=j->l[j]?=some z->z=0)(hi:i<n):∀j z:Nat,n<=j->(l.set i v)[j]?=some z->z=0:=fun j z ae ag=>by
 rw[GV aa] at ag;exact h j z ae ag
def Of{n:Nat}(h:n<1000000):n<cK:=Bz h bI
def zD{v w:Value}{x y:Nat}(ae:ei J v x)(ag:ei J w y)(tO:(aq x).length<=100000)(pZ:(aq y).length<=100000):Fn (aU Q g0) 36 [v,w] [] J (qv J (x*y)):=by
 have ae:dZ .u32 J v (aq x):=ae;have ag:dZ .u32 J w (aq y):=ag;obtain⟨bc,bb,rfl⟩:=ae.form;obtain⟨bl,bt,rfl⟩:=ag.form;refine Fn.b9 (b1 Tryz.func36) I I fun H=>?_;refine af 0x3284a1ce059 ?_;refine' W.step I (.of (ti I I I I I (ee I) ?aQ ?ae ?ag fun uV=>?_));case aQ=>exact cJ
 case ae=>exact cJ
 case ag=>exact cJ
 refine af 0x302 ?_;rw[show(((aq x).length:Int)+(aq y).length).toNat=(aq x).length+(aq y).length by omega,zero_num];refine af 0x1abe059 ?_;refine dV [(6,.int .i64 ((0):Int)),(0,_),(1,_),(5,_)] ?_;refine bp ?_;refine' aK.bK (fun(b8:Nat×(List Nat))=>match b8 with|(i,out)=>⟨[(6,.int .i64 (i:Int))],[pF .u32 92 uV out],J,i<=(aq x).length/\out.length=(aq x).length+(aq y).length/\hh out/\(∀j z:Nat,i+(aq y).length<=j->out[j]?=some z->z=0)/\bf out=bf ((aq x).take i)*y,(aq x).length -i⟩) ⟨0,List.replicate ((aq x).length+(aq y).length) 0⟩ ?hs ?bn
 case hs=>exact⟨c6 _,kU,aey,fun j z _ aR=>DS (dq aR),by rw[ahf,ku];show 0=0*y;omega⟩
 case bn=>
  rintro⟨i,out⟩ hinv;try simp only at hinv
  obtain⟨hi,ji,cG,aR,az⟩:=hinv;refine af 0x5f0428439 ?_;refine If (fun jt=>?_) fun jt=>?_
  ·obtain⟨a,o,cl,e,rfl,gX,y4⟩:=ae.at aa;obtain⟨p,ap,lp⟩:=y4 i aa;have bo:=uq (k5 x) ap;refine af 0xd5f02ce059d5f57 ?_;refine dV [(8,.int .i64 ((0):Int)),(7,.int .u64 ((0):Int)),(0,_),(1,_),(5,_),(6,_)] ?_;refine bp ?_;refine' aK.bK (fun(b8:Nat×Nat×(List Nat))=>match b8 with|(j,ie,nB)=>⟨[(8,.int .i64 (j:Int)),(7,.int .u64 (ie:Int))],[pF .u32 92 uV nB],J,j<=(aq y).length/\ie<1000000000/\nB.length=(aq x).length+(aq y).length/\hh nB/\(∀j z:Nat,i+(aq y).length<=j->nB[j]?=some z->z=0)/\bf nB+1000000000 ^ (i+j)*ie=bf ((aq x).take i)*y+1000000000 ^ i*(p*bf ((aq y).take j)),(aq y).length -j⟩) ⟨0,0,out⟩ ?hs ?bn
   case hs=>exact⟨c6 _,by decide,ji,cG,aR,by rw[ku];show _=_+1000000000 ^ i*(p*0);rw[az,sj,sj,sj]⟩
   case bn=>
    rintro⟨j,ie,nB⟩ hinv;try simp only at hinv
    obtain⟨aW,yM,abZ,Cs,jj,y5⟩:=hinv;refine af 0x5f0428439 ?_;refine If (fun yl=>?_) fun yl=>?_
    ·obtain⟨bD,o',El,bA,rfl,IJ,Uz⟩:=ag.at aa;obtain⟨q,b3,Cr⟩:=Uz j aa;have db:=uq (k5 y) b3;obtain⟨ed,hold⟩:∃ed,nB[i+j]?=some ed:=⟨_,cU aa⟩;have fH:=uq Cs hold;have fB:nth (cc .u32 nB) (0+((i:Int)+(j:Int)).toNat*1)=some (.int .u32 (ed:Int)):=uo hold aa;have nV:p*q<=999999999*999999999:=zY aa aa;obtain⟨s,hs⟩:∃s,s=ie+ed+p*q:=⟨_,I⟩;have Uh:(ie:Int)+(ed:Int)+(p:Int)*(q:Int)=(s:Int):=by rw[hs,wh,wh,iX]
     refine af 0x17d5f57 ?_;refine aK.draw I (by kernel_rfl) (a0:=[.val 0,.val 1,.val 2,.val 3,.val 4,.val 5,.val 6,.val 7,.val 8,.val 9,.val 10,.val 11,.val 12,.val 13,.val 14,.val 15,.val 16,.val 17,.val 18,.val 19,.val 20,.bw 21]) (by kernel_rfl) ?_;refine af 0x60431b926085c930423724c308421 ?_;rw[Uh];refine af 0x3c2308439 ?_;rw[show((s:Int).tmod 1000000000)=((s % 1000000000:Nat):Int) from(DN s 1000000000).symm];refine af 0xce ?_;refine' n4 ?hs ?_;case hs=>exact s7 (l:=nB) (x:=s % 1000000000) (i+j) aa aa
     refine af 0x30278738 ?_;rw[show((s:Int).tdiv 1000000000)=((s / 1000000000:Nat):Int) from(uK s 1000000000).symm,show IntKind.u64.wrap ((s / 1000000000:Nat):Int)=((s / 1000000000:Nat):Int) from wrap_u64 aa aa];have NF:=auD (p:=p) (R:=bf ((aq x).take i)*y) hs y5 (ahc (y:=s % 1000000000) hold);rw[<-KR b3] at NF;have ar6:j+1<=(aq y).length/\s / 1000000000<1000000000/\(nB.set (i+j) (s % 1000000000)).length=(aq x).length+(aq y).length/\hh (nB.set (i+j) (s % 1000000000))/\(∀k z:Nat,i+(aq y).length<=k->(nB.set (i+j) (s % 1000000000))[k]?=some z->z=0)/\bf (nB.set (i+j) (s % 1000000000))+1000000000 ^ (i+(j+1))*(s / 1000000000)=bf ((aq x).take i)*y+1000000000 ^ i*(p*bf ((aq y).take (j+1))):=⟨aa,aa,by rw[hy];exact abZ,OF Cs (lh _ bI),af7 jj aa,NF⟩;refine af 0x1810c39 ?_;refine eS ⟨j+1,s / 1000000000,nB.set (i+j) (s % 1000000000)⟩ ?_;exact ar6
    ·obtain rfl:j=(aq y).length:=aa
     obtain⟨ed,hold⟩:∃ed,nB[i+(aq y).length]?=some ed:=⟨_,cU aa⟩;obtain rfl:=jj _ _ (b2 _) hold;have bn:i+1<=(aq x).length/\(nB.set (i+(aq y).length) ie).length=(aq x).length+(aq y).length/\hh (nB.set (i+(aq y).length) ie)/\(∀k z:Nat,i+1+(aq y).length<=k->(nB.set (i+(aq y).length) ie)[k]?=some z->z=0)/\bf (nB.set (i+(aq y).length) ie)=bf ((aq x).take (i+1))*y:=⟨aa,by rw[hy];exact abZ,OF Cs yM,af7 (fun k z aX aT=>jj k z aa aT) aa,by
      have aX:=ahc (y:=ie) hold;rw[Gt (b2 _),h0] at y5;rw[KR ap,g',lY];omega⟩
     refine af 0x19c1194210e757 ?_;refine' n4 ?hs ?_;case hs=>exact s7 (l:=nB) (x:=ie) (i+(aq y).length) aa aa
     refine af 0x30218738 ?_;refine eS ⟨i+1,nB.set (i+(aq y).length) ie⟩ ?_;exact bn
  ·obtain rfl:i=(aq x).length:=aa
   rw[Gt (b2 _),h0] at az;have au:∀ah,ah uV=some (cc .u32 out,92)->fg ah 92 1 (.slice (some ⟨uV,0,none⟩) ((aq x).length+(aq y).length) ((aq x).length+(aq y).length)) out.length (cc .u32 out):=fun ah IJ=>by
    rw[<-ji];exact .row IJ (by rw[iD,jr];exact ft (by rw[vL];exact b2 _)) (by rw[vL,jr]) (fun _=>⟨b2 _,Of aa⟩) (fun q=>absurd q (Ha (Of aa)))
   refine af 0xe757 ?_;refine W.eG I fun a8 w5=>?_;refine cl (G:=KH (l:=out) (au _ w5) cG aa) (h:=?_);rintro v' m' ah hle ⟨rfl,rfl,bi⟩;rw[az] at bi;refine af 0xd5f02 ?_;refine b4 ?_;exact⟨a8,I,bi⟩
end
def amd{A D l:Nat}(dS:0<D):(l+1000000000*A) / D=(l+1000000000*(A % D)) / D+1000000000*(A / D)/\(l+1000000000*A) % D=(l+1000000000*(A % D)) % D:=by
 have e:l+1000000000*A=(l+1000000000*(A % D))+D*(1000000000*(A / D)):=by
  conv=>lhs;rw[<-G' A D]
  rw[hV,<-DW,D1 1000000000 D]
 rw[e];exact⟨aiB _ _ dS,Nat.add_mul_mod_self_left _ _ _⟩
def amb{D l c:Nat}(aj:l<1000000000)(ax:c<D):(l+1000000000*c) / D<1000000000:=by
 rw[wo aa];omega
def agj(l:List Nat)(i:Nat):bf l=bf (l.take i)+1000000000 ^ i*bf (l.drop i):=by
 rcases ha l.length i with h|h
 ·rw[ft aa,to aa];rfl
 ·exact Gu l i h
def azB{l:List Nat}(h:hh l)(i:Nat):bf (l.take i)<1000000000 ^ i:=by
 have ae:=uB (VF (i:=i) h);exact kw ae (nd bI (by rw[eL];omega))
def abK{V i:Nat}:bf ((aq V).drop i)=V / 1000000000 ^ i:=by
 have ae:=agj (aq V) i;rw[h0] at ae;have ag:=azB (k5 V) i;have ap:0<1000000000 ^ i:=wy bI;have:V / 1000000000 ^ i=(bf ((aq V).take i)+1000000000 ^ i*bf ((aq V).drop i)) / 1000000000 ^ i:=by rw[<-ae]
 rw[this,aiB _ _ ap,G4 ag,j8]
def agL{Y n T:Nat}(aA:(aq Y)[n]?=some T):T*1000000000 ^ n<=Y:=by
 have ae:=agj (aq Y) n;rw[h0,Gs aA,hV] at ae;rw[hn];omega
def am5{V Y n T:Nat}(aA:(aq Y)[n]?=some T)(cq:0<T)(iH:V<1000000000*Y):V / Y<=Nat.min (bf ((aq V).drop n) / T) 999999999:=by
 have kD:0<Y:=by
  have ae:=agL aA;have ag:0<T*1000000000 ^ n:=ib cq (wy bI);omega
 have ae:V / Y<1000000000:=by rw[wo kD];exact iH
 refine Nat.le_min.2 ⟨?_,aa⟩;rw[abK,Lw cq,Lw (wy bI),lY];exact dT (DZ _ (agL aA)) (Nat.div_mul_le_self V Y)
def abL{V Y n:Nat}(aA:(aq Y).length=n+1)(iH:V<1000000000*Y)(j:Nat)(aW:n<=j):bf ((aq V).drop j)<1000000000000000000:=by
 have ae:=ud (x:=Y) (k:=n+1) aa;rw[abK];have ap:0<1000000000 ^ j:=wy bI;rw[wo ap];have ag:1000000000*Y<1000000000 ^ (n+2):=by rw[lz 1000000000 (n+1),hn];exact Yb ae bI
 have aE:1000000000 ^ (n+2)=1000000000000000000*1000000000 ^ n:=by rw[sk,hn]
 have a6:1000000000 ^ n<=1000000000 ^ j:=nd bI aW;omega
def amK{Y k m:Nat}{l:List Nat}(aj:hh l)(hk:l.length -k<=m)(aA:(aq Y).length=m+1):bf (l.drop k)<Y:=by
 have ae:=uB (VE (i:=k) aj);have ag:=WT (wO Y) (fun q=>by rw[q] at aA;cases aA);rw[h0,aA,zX] at ag;have aE:1000000000 ^ (l.drop k).length<=1000000000 ^ m:=nd bI (by rw[jO];exact hk);omega
def Zr:∀{k:Nat} {l:List Nat},kQ l->kQ (l.drop k)
 |0,_,h=>h
 |k+1,[],h=>by rw[List.drop_nil];exact h
 |k+1,x::l,h=>by rw[List.drop_succ_cons];exact Zr (Ri h)
def drop_set{l:List Nat}{i v:Nat}(h:i<l.length):(l.set i v).drop i=v::l.drop (i+1):=by
 rw[amI (l:=l.set i v) (x:=v) (by rw[qp,aP I,aP h]),P4 aa]
where
 amI {l:List Nat} {i x:Nat} (h:l[i]?=some x):l.drop i=x::l.drop (i+1):=by
  have hi:=(dO.1 h).1;have U:l[i]=x:=by rw[cU hi] at h;injection h
  rw[tn hi,U]
def afi{L d:List Nat}{i a Y R V:Nat}(kD:0<Y)(aI:L[i]?=some a)(av:i<d.length)(dU:R=bf (L.drop (i+1)) % Y)(hf:bf (d.drop (i+1))=bf (L.drop (i+1)) / Y)(iH:V=a+1000000000*R):bf ((d.set i (V / Y)).drop i)=bf (L.drop i) / Y/\V % Y=bf (L.drop i) % Y:=by
 have h:=amd (A:=bf (L.drop (i+1))) (l:=a) kD;rw[drop_set av,Gs aI];show V / Y+1000000000*bf (d.drop (i+1))=_/\_;rw[hf,h.1,h.2,iH,dU];exact⟨I,I⟩
end
end Go.Opn
