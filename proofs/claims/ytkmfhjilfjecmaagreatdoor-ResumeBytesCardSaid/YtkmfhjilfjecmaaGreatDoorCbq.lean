/- A part of the proof of ResumeBytes. -/
import Derived.Test.YtkmfhjilfjecmaaGreatDoorCbp
import Derived.Test.YtkmfhjilfjecmaaGreatDoorCbl
import Derived.Test.YtkmfhjilfjecmaaGreatDoorCbn
set_option maxRecDepth 100000
set_option maxHeartbeats 4000000
set_option linter.unusedVariables false
set_option linter.unusedSimpArgs false
namespace Go.Opn
noncomputable section
open Go.Cre Go.RowKit Go.Proofs
section
variable {Q:dD Tryz.prog}{g0:Nat}{J:aH}
theorem YY{g:bq}{aT aK:Option Addr}{aQ ci:Nat}(aq:fH J g aT aQ aK ci):
 Fn (bd Q g0) 32 [hb g aT aQ aK ci] [] J (tr (.int .i64 (kj g)) J):=by
 have fX:addrEq aK aK=true:=aq.i.addr;have gq:addrEq aT aT=true:=aq.n.addr;refine Fn.cH (cM Tryz.func32) rfl rfl fun H=>?_;refine rg ?_;refine dK fun bm=>?_;refine I V.az ?_;refine bi ?_;refine I V.c9 ?_;refine cl (G:=anL aq) (h:=?_);rintro v m' dO ch ⟨rfl,rfl,_⟩;refine I V.az ?_;refine bi ?_;refine I V.ag ?_;refine I V.aZ ?_;refine ns ?_;refine If (fun dG=>?_) fun dG=>?_
 ·have au:kj g=h8 g:=by unfold kj;rw[aE dG]
  refine rg ?_;refine aM ?_;refine ns ?_;refine ab.ret ?_;refine c5 ?_;first
   |(have c:=w;exact⟨rfl,rfl,ch.trans cF⟩)
   |(rw[au];exact⟨rfl,rfl,ch⟩)
 ·refine aj ?_;refine ab.skip ?_;refine rg ?_;refine I V.c9 ?_;refine cl (G:=anS (aq.mono ch) (gQ.1 dG)) (h:=?_);rintro v m' e2 cF ⟨w,rfl,rfl,_⟩;refine aM ?_;refine bi ?_;refine aM ?_;refine ns ?_;refine ab.ret ?_;refine c5 ?_;first
   |(have c:=w;exact⟨rfl,rfl,ch.trans cF⟩)
   |(rw[au];exact⟨rfl,rfl,ch⟩)
theorem Y0{g:bq}{aT aK:Option Addr}{aQ ci:Nat}{l:List (List Int)}{b:Option Addr}{c:Nat}{cm:Int}(aq:fH J g aT aQ aK ci)(av:fc J 22 1 (jW J) (.slice b l.length c) l)(aa:l.length<=1000)(ae:∀r∈l,r.length<=1000):
 Fn (bd Q g0) 78 [hb g aT aQ aK ci,.slice b l.length c,.int .i64 cm] [] J (fun u m' af=>u=.int .i64 (nk g l cm)/\m'=[]/\J=af):=by
 have fX:addrEq aK aK=true:=aq.i.addr;have gq:addrEq aT aT=true:=aq.n.addr;obtain⟨_,kx⟩:=aq.i.at;obtain⟨_,qn⟩:=av.at;refine Fn.cH (cM Tryz.func78) rfl rfl fun H=>?_;refine rg ?_;refine dK fun a3=>?_;refine I V.az ?_;refine bi ?_;refine aM ?_;refine I V.aG ?_;refine I V.bL ?_;refine I V.aZ ?_;refine ns ?_;refine If (fun lF=>?_) fun lF=>?_
 ·refine rg ?_;refine I V.az ?_;refine ns ?_;refine ab.ret ?_;refine c5 ?_;refine⟨cD (Value.int .i64) ?_,rfl,rfl⟩;unfold nk;first
   |(have c:=fV;rw[an (by omega),fV,zX (by omega)])
   |rw[aE (by omega)]
 ·refine aj ?_;refine ab.skip ?_;refine rg ?_;refine I V.az ?_;refine ns ?_;refine ab.block ?_;refine' ab.c0 (l':=[(7,.int .i64 ((0):Int)),(1,_),(2,_),(3,_)]) ⟨?yq,rfl,rfl,rfl,trivial⟩ (bu _) ?_;case yq=>exact bP
  refine aj ?_;refine' ab.dF (fun(i:Nat)=>⟨[(7,.int .i64 (i:Int))],[(a3,.row (iw g aT aQ aK ci) 27)],J,i<=l.length/\r3 cm l g.is=r3 cm (l.drop i) (g.is.drop i),l.length -i⟩) (0) ?hs ?bA;case hs=>exact⟨cy _,rfl⟩
  case bA=>
   rintro i hinv;try simp only at hinv
   obtain⟨ao,fV⟩:=hinv;refine rg ?_;refine aM ?_;refine I V.aZ ?_;refine ns ?_;refine If (fun tx=>?_) fun tx=>?_
   ·obtain⟨FY,IH,Gt,GH,rfl,l9,uf⟩:=qn (by omega);obtain⟨r,vn,aw,vL,mg,jn,ks,rfl,oi⟩:=uf i (by omega) (by omega);have sP:=mg 0 _ (by decide) rfl;obtain⟨g',jx,vl,vu,rfl,mD,me⟩:=kx (by omega);obtain⟨y,xa,ai,ub,mf,rfl⟩:=me i (by omega) (by omega);have V':=mf 1 _ (by decide) rfl;rw[cx] at aw ai;have pH:=ae r (cb aw);have kf:=oi.iH [];refine c7 ?_;refine aj ?_;refine ab.block ?_;refine aj ?_;refine ab.draw rfl (by kernel_rfl) (bc:=[.val 0,.val 1,.val 2,.val 3,.val 4,.val 5,.val 6,.val 7,.val 8,.val 9,.val 10,.val 11]) (by kernel_rfl) ?_;refine cq ?_;refine al rfl V.aW ?_;refine al rfl V.aG ?_;refine cq ?_;refine al rfl V.aG ?_;refine al rfl V.ag ?_;refine al rfl V.aW ?_;refine al rfl V.ba ?_;refine al rfl V.aG ?_;refine al rfl V.aZ ?_;refine a8.nil ?_;refine aj ?_;refine If (fun mV=>?_) fun mV=>?_
    ·refine rg ?_;refine I V.az ?_;refine ns ?_;refine ab.ret ?_;refine c5 ?_;refine⟨cD (Value.int .i64) ?_,rfl,rfl⟩;unfold nk;first
       |(have c:=mV;rw[an (by omega),fV,zW aw ai,aE mV])
       |(have c:=fV;rw[an (by omega),fV,zX (by omega)])
       |rw[aE (by omega)]
    ·refine aj ?_;refine ab.skip ?_;refine rg ?_;refine I V.az ?_;refine ns ?_;refine ab.block ?_;refine' ab.c0 (l':=[(8,.int .i64 ((0):Int)),(1,_),(2,_),(3,_),(7,_)]) ⟨?jC,rfl,rfl,rfl,rfl,trivial⟩ (bu _) ?_;case jC=>exact bP
     refine aj ?_;refine' ab.dF (fun(k:Nat)=>⟨[(8,.int .i64 (k:Int))],[(a3,.row (iw g aT aQ (some ⟨g',jx,none⟩) ci) 27)],J,k<=r.length/\(r.take k).any (hG cm 70368744177664)=false,r.length -k⟩) (0) ?hs ?bA;case hs=>exact⟨cy _,rfl⟩
     case bA=>
      rintro k hinv;try simp only at hinv
      obtain⟨aO,ry⟩:=hinv;refine rg ?_;refine aM ?_;refine I V.aW ?_;refine I V.aG ?_;refine I V.bL ?_;refine I V.aZ ?_;refine ns ?_;refine If (fun k7=>?_) fun k7=>?_
      ·obtain⟨mw,i',oP,rfl,BH,ic⟩:=kf (by omega);obtain⟨ex,rs⟩:=BH.L0;obtain⟨x,U,e4⟩:=ic k (by omega) (by omega);refine c7 ?_;refine aj ?_;refine ab.block ?_;refine fR [1,2,3,7,8] ?_;refine aj ?_;refine' ab.hl 0 [(60,.bool (decide ((x<cm\/70368744177664<x))))] ?NJ ?NS;case NJ=>
        refine ab.region ?_;refine aM ?_;refine I V.aW ?_;refine I V.aG ?_;refine I V.ag ?_;refine I V.aW ?_;refine I V.aG ?_;refine I V.ag ?_;refine I V.aZ ?_;refine I V.ag ?_;refine dr 51 (fun aga=>?_) fun aga=>?_
        ·refine ah ?_;refine ah ?_;refine ah ?_;refine ah ?_;refine ah ?_;refine ah ?_;refine ah ?_;refine ah ?_;refine I V.aU ?_;refine a6 ?_;exact ce
        ·refine aX V.ag ?_;refine aX V.ag ?_;refine aX V.aW ?_;refine aX V.aG ?_;refine aX V.ag ?_;refine aX V.aW ?_;refine aX V.aG ?_;refine aX V.aZ ?_;refine I V.aU ?_;refine a6 ?_;exact ce
       case NS=>
        refine aj ?_;refine If (fun Dj=>?_) fun Dj=>?_
        ·refine rg ?_;refine I V.az ?_;refine ns ?_;refine ab.ret ?_;refine c5 ?_;refine⟨cD (Value.int .i64) ?_,rfl,rfl⟩;unfold nk;first
          |(have c:=Dj;rw[an (by omega),fV,zW aw ai,an mV,aE (J4 U (by simp[hG];omega))])
          |(have c:=mV;rw[an (by omega),fV,zW aw ai,aE mV])
          |(have c:=fV;rw[an (by omega),fV,zX (by omega)])
          |rw[aE (by omega)]
        ·refine aj ?_;refine ab.skip ?_;refine rg ?_;refine I V.ag ?_;refine I V.bt ?_;refine I V.az ?_;refine a6 ?_;refine cB (k+1) ?_;exact⟨by omega,Na U ry (by simp[hG];omega)⟩
      ·refine aj ?_;refine ab.exit ?_;refine rg ?_;refine I V.ag ?_;refine I V.bt ?_;refine I V.az ?_;refine a6 ?_;refine cB (i+1) ?_;refine⟨by omega,?_⟩;rw[fV,zW aw ai,an mV,an (by rw[eo (by omega)] at ry;rw[ry];exact CU)]
   ·refine aj ?_;refine ab.exit ?_;refine rg ?_;refine I V.az ?_;refine ns ?_;refine ab.ret ?_;refine c5 ?_;refine⟨cD (Value.int .i64) ?_,rfl,rfl⟩;unfold nk;first
     |(have c:=fV;rw[an (by omega),fV,zX (by omega)])
     |rw[aE (by omega)]
theorem RV{g:bq}{aT aK:Option Addr}{aQ ci:Nat}{t:gI}{bs ct:Option Addr}{cs cE:Nat}(aq:fH J g aT aQ aK ci)(aB:jj J t bs cs ct cE)(aa:t.sum.length<=1000)(ae:∀r∈t.sum,r.length<=1000)(aF:t.pl.length<=1000)(bo:∀r∈t.pl,r.length<=1000):
 Fn (bd Q g0) 55 [hb g aT aQ aK ci,nu t bs cs ct cE] [] J (tr (.int .i64 (r8 g t)) J):=by
 have fX:addrEq aK aK=true:=aq.i.addr;have gq:addrEq aT aT=true:=aq.n.addr;refine Fn.cH (cM Tryz.func55) rfl rfl fun H=>?_;refine rg ?_;refine dK fun a2=>?_;refine dK fun a3=>?_;refine I V.az ?_;refine a6 ?_;refine fR [2,3] ?_;refine aj ?_;refine' ab.hl 0 [(23,.bool (decide ((t.r<0\/1000000<t.r\/t.s<0\/2147483646<t.s))))] ?mW ?n7;case mW=>
  refine ab.region ?_;refine I V.ba ?_;refine I V.aG ?_;refine I V.aZ ?_;refine I V.ag ?_;refine dr 9 (fun n'=>?_) fun n'=>?_
  ·refine ah ?_;refine ah ?_;refine ah ?_;refine I V.aU ?_;refine I V.ag ?_;refine ah ?_;refine ah ?_;refine ah ?_;refine I V.aU ?_;refine I V.ag ?_;refine ah ?_;refine ah ?_;refine ah ?_;refine I V.aU ?_;refine a6 ?_;exact ce
  ·refine aX V.ba ?_;refine aX V.aG ?_;refine aX V.aZ ?_;refine I V.aU ?_;refine I V.ag ?_;refine dr 14 (fun xn=>?_) fun xn=>?_
   ·refine ah ?_;refine ah ?_;refine ah ?_;refine I V.aU ?_;refine I V.ag ?_;refine ah ?_;refine ah ?_;refine ah ?_;refine I V.aU ?_;refine a6 ?_;exact ce
   ·refine aX V.ba ?_;refine aX V.aG ?_;refine aX V.aZ ?_;refine I V.aU ?_;refine I V.ag ?_;refine dr 19 (fun agp=>?_) fun agp=>?_
    ·refine ah ?_;refine ah ?_;refine ah ?_;refine I V.aU ?_;refine a6 ?_;exact ce
    ·refine aX V.ba ?_;refine aX V.aG ?_;refine aX V.aZ ?_;refine I V.aU ?_;refine a6 ?_;exact ce
 case n7=>
  refine aj ?_;refine If (fun vi=>?_) fun vi=>?_
  ·refine rg ?_;refine I V.az ?_;refine ns ?_;refine ab.ret ?_;refine c5 ?_;refine⟨cD (Value.int .i64) ?_,rfl,aH.le.refl _⟩;unfold r8;first
    |rw[aE vi]
  ·refine aj ?_;refine ab.skip ?_;refine rg ?_;refine I V.c9 ?_;refine I V.ba ?_;refine I V.aG ?_;refine cl (G:=Y0 aq aB.s aa ae) (h:=?_);rintro v m' e2 cF ⟨rfl,rfl,rfl⟩;refine I V.az ?_;refine bi ?_;refine I V.ag ?_;refine I V.aZ ?_;refine ns ?_;refine If (fun w7=>?_) fun w7=>?_
   ·refine rg ?_;refine aM ?_;refine ns ?_;refine ab.ret ?_;refine c5 ?_;refine⟨cD (Value.int .i64) ?_,rfl,aH.le.refl _⟩;unfold r8;first
      |(have c:=w7
        first
           |rw[an vi,aE w7]
           |rw[an vi,an w7])
      |rw[aE vi]
   ·refine aj ?_;refine ab.skip ?_;refine rg ?_;refine I V.c9 ?_;refine I V.ba ?_;refine I V.aG ?_;refine cl (G:=Y0 aq aB.p aF bo) (h:=?_);rintro v m' jV dU ⟨rfl,rfl,rfl⟩;refine I V.az ?_;refine ns ?_;refine ab.ret ?_;refine c5 ?_;refine⟨cD (Value.int .i64) ?_,rfl,aH.le.refl _⟩;unfold r8;first
      |(have c:=w7
        first
           |rw[an vi,aE w7]
           |rw[an vi,an w7])
      |rw[aE vi]
theorem YV{g:bq}{aT aK:Option Addr}{aQ ci:Nat}{t:gI}{bs ct:Option Addr}{cs cE:Nat}(aq:fH J g aT aQ aK ci)(aB:jj J t bs cs ct cE)(aa:t.sum.length<=1000)(ae:∀r∈t.sum,r.length<=1000)(aF:t.pl.length<=1000)(bo:∀r∈t.pl,r.length<=1000):
 Fn (bd Q g0) 34 [hb g aT aQ aK ci,nu t bs cs ct cE] [] J (tr (.int .i64 (nH g t)) J):=by
 have fX:addrEq aK aK=true:=aq.i.addr;have gq:addrEq aT aT=true:=aq.n.addr;refine Fn.cH (cM Tryz.func34) rfl rfl fun H=>?_;refine rg ?_;refine dK fun a2=>?_;refine dK fun a3=>?_;refine I V.az ?_;refine bi ?_;refine I V.c9 ?_;refine cl (G:=YY aq) (h:=?_);rintro v m' dO ch ⟨rfl,rfl,_⟩;refine I V.az ?_;refine bi ?_;refine I V.ag ?_;refine I V.aZ ?_;refine ns ?_;refine If (fun dG=>?_) fun dG=>?_
 ·refine rg ?_;refine aM ?_;refine ns ?_;refine ab.ret ?_;refine c5 ?_;first
   |(have c:=cF
     refine⟨cD (Value.int .i64) ?_,rfl,ch.trans cF⟩;unfold nH;rw[an dG])
   |(refine⟨cD (Value.int .i64) ?_,rfl,ch⟩
     unfold nH;rw[aE dG])
 ·refine aj ?_;refine ab.skip ?_;refine rg ?_;refine I V.c9 ?_;refine I V.c9 ?_;refine cl (G:=RV (aq.mono ch) (aB.mono ch) aa ae aF bo) (h:=?_);rintro v m' e2 cF ⟨rfl,rfl,_⟩;refine I V.az ?_;refine ns ?_;refine ab.ret ?_;refine c5 ?_;first
   |(have c:=cF
     refine⟨cD (Value.int .i64) ?_,rfl,ch.trans cF⟩;unfold nH;rw[an dG])
   |(refine⟨cD (Value.int .i64) ?_,rfl,ch⟩
     unfold nH;rw[aE dG])
end
end
end Go.Opn
namespace Go.Opn
noncomputable section
open Go.Cre Go.RowKit
section
variable {K:eE}{B:dV}{o:Oper}{n:Nat}{ds:e7}{l:List (Nat×Value)}{m m':aN}{J:aH}{ey:cf->aN->aH->Prop}{d:Nat}
theorem ME{c:Call}{t hh e:TypeId}{sz j a off Us:Nat}{gi cells cells' new:List Value}{bz:TypeId}{x:Value}(ar:o.op=.call c)(aC:c.callee=.builtin .copy)(aV:o.dst=some d)(aP:Nat.blt d n=true)(a1:hY l c.args.toList=some [.slice (some ⟨a,off,none⟩) j Us,x])(o6:c.argTypes.toList=[t,hh])(aB:j2 K.P t=some (e,sz,gi))
 (U:mR K.g0 B J m sz x j new)(ca:new.all eM=true)(xP:new≠[])(hs:gg off cells new=some cells')(au:cQ m a (.row cells bz) (.row cells' bz) m')
 (h:ey ⟨n,ds,(d,.int .i64 j)::l⟩ m' J):hq K B o ⟨n,ds,l⟩ m J ey:=by
 obtain⟨hu,eV,fO,z,ia,bE,b1,rfl,b2,b3,b4⟩:=yj aB;refine hq.wD aV aP fun S H ax aJ=>?_;obtain⟨gF,iP⟩:=U H aJ;obtain⟨H1,aL,bk⟩:=aJ.store au;obtain⟨bl,bp,bQ,cU⟩:=aJ.own _ _ au.mem;have bl:H.mem.get a=some (.row cells bz false 0 0 false):=bl;refine⟨.int .i64 j,H1,m',J,fun call aR=>?_,bk,h⟩;rw[y7 ar aC];unfold pw;rw[n8 ax H a1,o6];show mq (GM K.P H t (.slice (some ⟨a,off,none⟩) j Us) x)=_;unfold GM;simp only[hu,gF,eV];rw[show Nat.ble j j=true from j8 (cW _),b7,iP];simp only[ca,lY,dT];unfold rl;cases new with
 |nil=>exact absurd rfl xP
 |cons v0 vs=>
  simp only
  have aq:Nat.blt a H.bW=false:=by
   cases q:Nat.blt a H.bW
   ·rfl
   ·have:a<H.bW:=by simpa[Nat.blt,u0] using q
    have:=aJ.bW;omega
  rw[aq,dT,bl];simp only[show Nat.ble 0 off=true from j8 (cy _),Fy,ca,b7,hs,aL,dT];rfl
end
theorem amI{α:Type}{bs:List α}{i:Nat}{x:α}(h:bs[i]?=some x):bs.Perm (x::bs.eraseIdx i):=by
 induction bs generalizing i with
 |nil=>cases h
 |cons b bs aI=>
  cases i with
  |zero=>simp at h;subst h;exact .refl _
  |succ i=>simp at h;exact((aI h).cons b).trans (.swap _ _ _)
theorem amG{α:Type}{bs:List α}{i:Nat}{x:α}(h:bs[i]?=some x)(y:α):(y::bs.eraseIdx i).Perm (bs.set i y):=by
 induction bs generalizing i with
 |nil=>cases h
 |cons b bs aI=>
  cases i with
  |zero=>exact .refl _
  |succ i=>simp at h;exact(List.Perm.swap _ _ _).trans ((aI h).cons b)
def eQ(ir:List Int->Value->Nat×cC->Prop)(J:aH)(e:TypeId)(v:Value)(bL:List (List Int))(bs:aN):Prop:=
 ∃vs,hL J e 1 v bL.length vs/\bs.length=bL.length/\∀(i:Nat) l w x,bL[i]?=some l->vs[i]?=some w->bs[i]?=some x->ir l w x
def iK(l:List Int)(w:Value)(x:Nat×cC):Prop:=∃a,w=.slice (some ⟨a,0,none⟩) l.length l.length/\l.length<cZ/\x=(a,.row (l.map (Value.int .i64)) 3)
def nx(l:List Int)(w:Value)(x:Nat×cC):Prop:=∃a r,w=.slice (some ⟨a,0,none⟩) l.length cZ/\x=(a,.opn (l.map (Value.int .i64)) 3 r 0)
section
variable {ir:List Int->Value->Nat×cC->Prop}{J af:aH}{e:TypeId}{v:Value}{bL:List (List Int)}{bs:aN}
theorem eQ.mono(hle:J.le af)(h:eQ ir J e v bL bs):eQ ir af e v bL bs:=by
 obtain⟨vs,aa,ae⟩:=h;exact⟨vs,aa.mono hle,ae⟩
theorem eQ.at(h:eQ ir J e v bL bs):∃b c,v=.slice b bL.length c/\(0<bL.length->∃a off cells bz,b=some ⟨a,off,none⟩/\J a=some (cells,bz)/\∀i:Nat,i<bL.length->∃l w x,bL[i]?=some l/\nth cells (off+i*1)=some w/\bs[i]?=some x/\ir l w x/\∀l' dR,ir l' w dR->eQ ir J e v (bL.set i l') (bs.set i dR)):=by
 obtain⟨vs,aa,ae,aF⟩:=h;obtain⟨b,c,rfl,bl,bp,bQ⟩:=aa.inv;refine⟨b,c,rfl,fun au=>?_⟩;obtain⟨a,off,cells,bz,rfl,cU,gb⟩:=bQ au;refine⟨a,off,cells,bz,rfl,cU,fun i ao=>?_⟩;have bb:=dj (l:=bL) (i:=i) ao;have a7:=dj (l:=vs) (i:=i) (by omega);have b8:=dj (l:=bs) (i:=i) (by omega);refine⟨_,_,_,bb,by rw[yE,gb i (by omega)];exact a7,b8,aF _ _ _ _ bb a7 b8,fun l' dR ait=>⟨vs,by rw[fz];exact aa,by rw[fz,fz];exact ae,fun k l w x g1 g2 g3=>?_⟩⟩;rw[kJ] at g1 g3;split at g1
 ·rename_i q;subst q;rw[aE rfl] at g3;rw[aE (by omega)] at g3;injection g1 with g1;injection g3 with g3;subst g1;subst g3
  rw[a7] at g2;injection g2 with g2;subst g2
  exact ait
 ·rename_i q;rw[an q] at g3;exact aF _ _ _ _ g1 g2 g3
theorem eQ.snoc{vs:List Value}(aa:hL J e 1 v bL.length vs)(ae:∀(i:Nat) l w x,bL[i]?=some l->vs[i]?=some w->bs[i]?=some x->ir l w x)(aF:bs.length=bL.length):eQ ir J e v bL bs:=⟨vs,aa,aF,ae⟩
theorem eQ.rows(h:eQ ir J e v bL bs){af:aH}(hle:J.le af)(dq:∀l w x,ir l w x->∃y,x.2.rowOf=some y/\∀J:aH,J x.1=some y->dI J w l)(ajr:∀x∈bs,∀y,x.2.rowOf=some y->af x.1=some y):fc af e 1 (jW af) v bL:=by
 obtain⟨vs,aa,ae,aF⟩:=h;refine⟨vs,aa.mono hle,fun i s hs=>?_⟩;have av:=aa.len;have ao:i<bL.length:=(dY.1 hs).1;have a7:=dj (l:=vs) (i:=i) (by omega);have b8:=dj (l:=bs) (i:=i) (by omega);obtain⟨y,bl,bp⟩:=dq _ _ _ (aF _ _ _ _ hs a7 b8);have bQ:=bp af (ajr _ (cb b8) _ bl);have aL:(vs.drop (i*1)).take 1=[vs[i]]:=by rw[yE,ny (by omega)];rfl
 rw[aL];obtain⟨b,c,ap,_⟩:=bQ.inv;rw[ap] at bQ ⊢;exact⟨b,c,rfl,bQ⟩
theorem iK.row{l:List Int}{w:Value}{x:Nat×cC}(h:iK l w x):∃a,w=.slice (some ⟨a,0,none⟩) l.length l.length/\x=(a,.row (l.map (Value.int .i64)) 3)/\∀l':List Int,l'.length=l.length->iK l' w (a,.row (l'.map (Value.int .i64)) 3):=by
 obtain⟨a,rfl,aa,rfl⟩:=h;exact⟨a,rfl,rfl,fun l' q=>⟨a,by rw[q],by omega,rfl⟩⟩
theorem nx.row{l:List Int}{w:Value}{x:Nat×cC}(h:nx l w x):∃a r,w=.slice (some ⟨a,0,none⟩) l.length cZ/\x=(a,.opn (l.map (Value.int .i64)) 3 r 0)/\∀l':List Int,l'.length=l.length->nx l' w (a,.opn (l'.map (Value.int .i64)) 3 [] 0):=by
 obtain⟨a,r,rfl,rfl⟩:=h;exact⟨a,r,rfl,rfl,fun l' q=>⟨a,[],by rw[q],rfl⟩⟩
theorem iK.ok{l:List Int}{w:Value}{x:Nat×cC}(h:iK l w x):∃y,x.2.rowOf=some y/\∀J:aH,J x.1=some y->dI J w l:=by
 obtain⟨a,rfl,aa,rfl⟩:=h;exact⟨_,rfl,fun J mC=>dI.lit aa mC⟩
end
theorem am'{bs:aN}{i a:Nat}{b:cC}(b':cC)(h:bs[i]?=some (a,b)):cQ bs a b b' (bs.set i (a,b')):=by
 induction bs generalizing i with
 |nil=>cases h
 |cons x bs aI=>
  cases i with
  |zero=>simp at h;subst h;exact .head _ _ _ _
  |succ i=>simp at h;exact .tail _ (aI h)
theorem cQ.left{m m' R:aN}{a:Nat}{b b':cC}(h:cQ m a b b' m'):cQ (m++R) a b b' (m'++R):=by
 induction h with
 |head a b b' m=>exact .head _ _ _ _
 |tail x _ aI=>exact .tail _ aI
theorem eQ.aW{J:aH}{e:TypeId}{b:Option Addr}{n c i:Nat}{bL:List (List Int)}{bs:aN}(h:eQ iK J e (.slice b n c) bL bs)(ao:i<bL.length):∃a off cells bz ad l,b=some ⟨a,off,none⟩/\J a=some (cells,bz)/\bL[i]?=some l/\nth cells (off+i*1)=some (.slice (some ⟨ad,0,none⟩) l.length l.length)/\(ad,cC.row (l.map (Value.int .i64)) 3)∈bs/\
 ∀l':List Int,l'.length=l.length->eQ iK J e (.slice b n c) (bL.set i l') (bs.set i (ad,.row (l'.map (Value.int .i64)) 3))/\cQ bs ad (.row (l.map (Value.int .i64)) 3) (.row (l'.map (Value.int .i64)) 3) (bs.set i (ad,.row (l'.map (Value.int .i64)) 3)):=by
 obtain⟨b',cd,ay,ae⟩:=h.at;injection ay with zu BK HY
 subst zu;subst BK;subst HY;obtain⟨a,off,cells,bz,rfl,bl,bp⟩:=ae (by omega);obtain⟨l,w,x,bb,a7,b8,fl,jb⟩:=bp i ao;obtain⟨ad,rfl,rfl,qH⟩:=fl.row;exact⟨a,off,cells,bz,ad,l,rfl,bl,bb,a7,cb b8,fun l' c6=>⟨jb _ _ (qH l' c6),am' _ b8⟩⟩
theorem Mh{l r:List Value}(h:l.length=r.length):gg 0 l r=some r:=by
 rw[Cy _ _ _ (by omega),JP,k2,lC,Av (by omega),gj]
theorem LK{α:Type}{f:α->Value}{L:List α}{off:Nat}{x:α}(i:Nat)(h:L[i]?=some x)(ar:off=i:=by omega):nth (L.map f) off=some (f x):=by subst ar;rw[kE,oF,h];rfl
theorem Fe{α:Type}{f:α->Value}{L:List α}{off:Nat}{x:α}(i:Nat)(h:i<L.length)(ar:off=i:=by omega):gg off (L.map f) [f x]=some ((L.set i x).map f):=by subst ar;exact RD h
section
variable {K:eE}{B:dV}{E:cf}{cX:Exit->cf->aN->aH->Prop}
theorem ab.am6{c:Code}:∀{bs m m0:aN} {J:aH},m.Perm (bs++m0)->(∀x∈bs,∃y,x.2.rowOf=some y)->
 (∀af,J.le af->(∀x∈bs,∀y,x.2.rowOf=some y->af x.1=some y)->ab K B c E m0 af cX)->ab K B c E m J cX:=by
 intro bs;induction bs with
 |nil=>intro m m0 J hm _ aO;exact ab.gN hm.symm (aO J (aH.le.refl _) (fun x U=>by cases U))
 |cons b bs aI=>
  intro m m0 J hm ar aO;refine ab.gN hm.symm ?_;obtain⟨y,ai⟩:=ar b (.head _);refine ab.mJ (a:=b.1) (b:=b.2) ai fun hle=>aI (.refl _) (fun x U=>ar x (.tail _ U)) fun af Wc bx=>?_;refine aO af (hle.trans Wc) fun x U z bE=>?_;rcases e3.1 U with rfl|U
  ·rw[ai] at bE;injection bE with bE;subst bE
   exact Wc _ _ (aH.oL _ _ _)
  ·exact bx x U z bE
theorem nx.ok{l:List Int}{w:Value}{x:Nat×cC}(h:nx l w x):∃y,x.2.rowOf=some y/\∀J:aH,J x.1=some y->dI J w l:=by
 obtain⟨a,r,rfl,rfl⟩:=h;refine⟨_,rfl,fun J mC=>⟨3,?_⟩⟩;exact .row mC (by rw[mr,eo (by simp)]) (by simp) (fun q=>absurd rfl q) (fun _=>rfl)
theorem eQ.hQ{c:Code}{ir:List Int->Value->Nat×cC->Prop}{J:aH}{e:TypeId}{v:Value}{bL:List (List Int)}{bs m m0:aN}(h:eQ ir J e v bL bs)(dq:∀l w x,ir l w x->∃y,x.2.rowOf=some y/\∀J:aH,J x.1=some y->dI J w l)(hm:m.Perm (bs++m0))(aO:∀af,J.le af->fc af e 1 (jW af) v bL->ab K B c E m0 af cX):ab K B c E m J cX:=by
 refine ab.am6 hm (fun x U=>?_) fun af hle bx=>aO af hle (h.rows hle dq bx);obtain⟨vs,aa,ae,aF⟩:=h;obtain⟨i,ao⟩:=kp.1 U;have cV:=(dY.1 ao).1;have av:=aa.len;obtain⟨y,bl,_⟩:=dq _ _ _ (aF i _ _ _ (dj (by omega)) (dj (by omega)) ao);exact⟨y,bl⟩
end
end
end Go.Opn
set_option maxHeartbeats 8000000
namespace Go.Opn
noncomputable section
open Go.Cre Go.RowKit Go.Proofs
section
variable {Q:dD Tryz.prog}{g0:Nat}{J:aH}
theorem dI.ja{b:Option Addr}{n c:Nat}{l:List Int}(h:dI J (.slice b n c) l):0<l.length->∃a off cells e,b=some ⟨a,off,none⟩/\J a=some (cells,e)/\∀i:Nat,i<l.length->∃x,l[i]?=some x/\nth cells (off+i*1)=some (.int .i64 x):=fun au=>by
 obtain⟨_,_,aF⟩:=h.get;obtain⟨a,off,cells,e,bo,eB,ht⟩:=aF au;refine⟨a,off,cells,e,bo,eB,fun i ao=>?_⟩;have:=ht i (by omega) (by omega);rwa [cx] at this
theorem ZU{l:List Int}{b:Option Addr}{c:Nat}(av:dI J (.slice b l.length c) l)(bw:∀v∈l,0<=v)(aa:l.sum<=1000000000)(ae:l.length<=1000):
 Fn (bd Q g0) 80 [.slice b l.length c] [] J (fun u m' af=>u=.int .i64 l.sum/\m'=[]/\J=af):=by
 have kf:=av.ja;refine Fn.cH (cM Tryz.func80) rfl rfl fun H=>?_;refine rg ?_;refine I V.az ?_;refine bi ?_;refine I V.az ?_;refine bi ?_;refine I V.az ?_;refine ns ?_;refine ab.block ?_;refine' ab.c0 (l':=[(3,.int .i64 (0)),(4,.int .i64 ((0):Int)),(0,_)]) ⟨?jf,?j4,rfl,trivial⟩ (bu _) ?_;case jf=>exact bP
 case j4=>exact bP
 refine aj ?_;refine' ab.rT (α:=(Nat)×(Int)) (fun(bC:(Nat)×(Int))=>match bC with|(i,n)=>[(3,.int .i64 n),(4,.int .i64 (i:Int))]) (fun(bC:(Nat)×(Int))=>match bC with|(i,n)=>i<=l.length/\n=(l.take i).sum) (fun(bC:(Nat)×(Int))=>match bC with|(i,n)=>l.length -i) ⟨0,0⟩ ?hs ?bA
 case hs=>exact⟨cy _,rfl⟩
 case bA=>
  rintro⟨i,n⟩ hinv;try simp only at hinv
  obtain⟨ao,aP⟩:=hinv;refine rg ?_;refine aM ?_;refine I V.aZ ?_;refine ns ?_;refine If (fun my=>?_) fun my=>?_
  ·obtain⟨mw,i',oP,e,rfl,rs,ic⟩:=kf (by omega);obtain⟨x,U,e4⟩:=ic i (by omega);have ig:=Fg U;have jN:=r6 bw i;have BI:=r6 bw (i+1);refine c7 ?_;refine aj ?_;refine ab.block ?_;refine rg ?_;refine aM ?_;refine I V.aW ?_;refine I V.aG ?_;refine I V.bt ?_;refine I V.az ?_;refine bi ?_;refine I V.ag ?_;refine I V.bt ?_;refine I V.az ?_;refine a6 ?_;refine'⟨⟨i+1,n+x⟩,_,?hinv,?ky,rfl,⟨?m3,?m4,rfl,trivial⟩,bu _,rfl⟩;case m3=>exact bP
   case m4=>exact bP
   case ky=>exact cc
   case hinv=>exact⟨by omega,by omega⟩
  ·refine aj ?_;refine ab.exit ?_;refine rg ?_;refine aM ?_;refine ns ?_;refine ab.ret ?_;refine c5 ?_;refine⟨cD (Value.int .i64) ?_,rfl,rfl⟩;rw[aP,eo (by omega)]
theorem aoX{l:List Int}{b:Option Addr}{c:Nat}(av:dI J (.slice b l.length c) l)(bw:∀v∈l,0<=v)(aa:l.sum<=1000000000)(ae:l.length<=1000):
 Fn (bd Q g0) 61 [.slice b l.length c] [] J (fun u m' af=>u=.int .i64 l.sum/\m'=[]/\J=af):=by
 have kf:=av.ja;refine Fn.cH (cM Tryz.func61) rfl rfl fun H=>?_;refine rg ?_;refine I V.az ?_;refine bi ?_;refine I V.az ?_;refine bi ?_;refine I V.az ?_;refine ns ?_;refine ab.block ?_;refine' ab.c0 (l':=[(3,.int .i64 (0)),(4,.int .i64 ((0):Int)),(0,_)]) ⟨?jf,?j4,rfl,trivial⟩ (bu _) ?_;case jf=>exact bP
 case j4=>exact bP
 refine aj ?_;refine' ab.rT (α:=(Nat)×(Int)) (fun(bC:(Nat)×(Int))=>match bC with|(i,n)=>[(3,.int .i64 n),(4,.int .i64 (i:Int))]) (fun(bC:(Nat)×(Int))=>match bC with|(i,n)=>i<=l.length/\n=(l.take i).sum) (fun(bC:(Nat)×(Int))=>match bC with|(i,n)=>l.length -i) ⟨0,0⟩ ?hs ?bA
 case hs=>exact⟨cy _,rfl⟩
 case bA=>
  rintro⟨i,n⟩ hinv;try simp only at hinv
  obtain⟨ao,aP⟩:=hinv;refine rg ?_;refine aM ?_;refine I V.aZ ?_;refine ns ?_;refine If (fun my=>?_) fun my=>?_
  ·obtain⟨mw,i',oP,e,rfl,rs,ic⟩:=kf (by omega);obtain⟨x,U,e4⟩:=ic i (by omega);have ig:=Fg U;have jN:=r6 bw i;have BI:=r6 bw (i+1);refine c7 ?_;refine aj ?_;refine ab.block ?_;refine rg ?_;refine aM ?_;refine I V.aW ?_;refine I V.aG ?_;refine I V.bt ?_;refine I V.az ?_;refine bi ?_;refine I V.ag ?_;refine I V.bt ?_;refine I V.az ?_;refine a6 ?_;refine'⟨⟨i+1,n+x⟩,_,?hinv,?ky,rfl,⟨?m3,?m4,rfl,trivial⟩,bu _,rfl⟩;case m3=>exact bP
   case m4=>exact bP
   case ky=>exact cc
   case hinv=>exact⟨by omega,by omega⟩
  ·refine aj ?_;refine ab.exit ?_;refine rg ?_;refine aM ?_;refine ns ?_;refine ab.ret ?_;refine c5 ?_;refine⟨cD (Value.int .i64) ?_,rfl,rfl⟩;rw[aP,eo (by omega)]
def JX(Z:List (List Int))(i:Nat)(cells:List Value)(bs:aN):Prop:=cells.length=i/\bs.length=i/\∀(j:Nat) l w x,Z[j]?=some l->cells[j]?=some w->bs[j]?=some x->iK l w x
theorem vD{α:Type}{l:List α}{x y:α}{j:Nat}(h:(l++[x])[j]?=some y):l[j]?=some y\/(j=l.length/\y=x):=by
 by_cases q:j<l.length
 ·rw[k1 q] at h;exact .inl h
 ·have a':=eU h
  rw[dP,tl] at a';have:j=l.length:=by omega
  subst this;rw[qh] at h;injection h with h
  exact .inr ⟨rfl,h.symm⟩
theorem JX.app{Z:List (List Int)}{i:Nat}{cells:List Value}{bs:aN}{l:List Int}{w:Value}{x:Nat×cC}(h:JX Z i cells bs)(av:Z[i]?=some l)(U:iK l w x):JX Z (i+1) (cells++[w]) (bs++[x]):=by
 obtain⟨aa,ae,aF⟩:=h;refine⟨by simp[aa],by simp[ae],fun j l' br dR g1 g2 g3=>?_⟩;rcases vD g2 with q|⟨bb,a7⟩
 ·rcases vD g3 with r|⟨cO,ed⟩
  ·exact aF j l' br dR g1 q r
  ·have:=eU q;omega
 ·rcases vD g3 with r|⟨cO,ed⟩
  ·have:=eU r;omega
  ·subst a7;subst ed
   rw[show j=i by omega,av] at g1;injection g1 with g1;subst g1
   exact U
theorem wE{g:bq}:(jE g).length=g.is.length:=by unfold jE;simp
theorem aaI{g:bq}{i:Nat}{y:Int×Int}(h:g.is[i]?=some y):(jE g)[i]?=some (List.replicate y.2.toNat 0):=by unfold jE;rw[oF,h];rfl
abbrev dh(a:Nat)(g:bq)(aT:Option Addr)(aQ:Nat)(aK:Option Addr)(ci:Nat):Nat×cC:=(a,.row (iw g aT aQ aK ci) 27)
theorem amJ{α:Type}{a z:α}{aY bs r:List α}:((aY++((bs++[z])++r))++[a]).Perm (aY++a::z::(bs++r)):=by
 rw[gw];refine At _ ?_;refine List.perm_append_comm.trans ?_;refine List.Perm.cons _ ?_;rw[gw];exact wM
theorem YC{α:Type}{a:α}{l:List α}:(a::l).Perm (l++[a]):=(hU (l₁:=[a]) (l₂:=l))
theorem Ft{g:bq}{aT aK:Option Addr}{aQ ci:Nat}(hw:jg g)(aq:fH J g aT aQ aK ci):
 Fn (bd Q g0) 33 [hb g aT aQ aK ci] [] J (fun u m' af=>J.le af/\∃bm bs,m'=dh bm g aT aQ aK ci::bs/\eQ iK af 22 u (jE g) bs):=by
 have fX:addrEq aK aK=true:=aq.i.addr;have gq:addrEq aT aT=true:=aq.n.addr;obtain⟨_,kx⟩:=aq.i.at;have sN:=hw.i2;refine Fn.cH (cM Tryz.func33) rfl rfl fun H=>?_;refine rg ?_;refine dK fun bm=>?_;refine I V.az ?_;refine bi ?_;refine I V.az ?_;refine bi ?_;refine I V.az ?_;refine ns ?_;refine ab.block ?_;refine' ab.c0 (l':=[(3,(.slice none 0 0)),(4,.int .i64 ((0):Int)),(1,_)]) ⟨?jf,?j4,rfl,trivial⟩ (bu _) ?_;case jf=>exact bP
 case j4=>exact bP
 refine aj ?_;refine' ab.dF (fun(bC:Nat×Value×(List Value)×aN×aN)=>match bC with|(i,v,cells,aY,bs)=>⟨[(3,v),(4,.int .i64 (i:Int))],aY++(bs++[dh bm g aT aQ aK ci]),J,i<=g.is.length/\Acc 22 1 v i cells aY/\JX (jE g) i cells bs,g.is.length -i⟩) ⟨0,.slice none 0 0,[],[],[]⟩ ?hs ?bA
 case hs=>exact⟨cy _,.nil,rfl,rfl,fun j l w x _ h _=>by cases h⟩
 case bA=>
  rintro⟨i,v,cells,aY,bs⟩ hinv;try simp only at hinv
  obtain⟨ao,cw,bE⟩:=hinv;refine rg ?_;refine aM ?_;refine I V.aG ?_;refine I V.bL ?_;refine I V.aZ ?_;refine ns ?_;refine If (fun dG=>?_) fun dG=>?_
  ·obtain⟨g',jx,vl,vu,rfl,mD,me⟩:=kx (by omega);obtain⟨y,xa,ai,ub,mf,rfl⟩:=me i (by omega) (by omega);have V':=mf 1 _ (by decide) rfl;rw[cx] at ai;have aj':=hw.yL y (cb ai);refine c7 ?_;refine aj ?_;refine ab.block ?_;refine rg ?_;refine aM ?_;refine I V.aG ?_;refine I V.ag ?_;refine I V.aW ?_;refine I V.ba ?_;refine I V.aG ?_;refine' W.step rfl (.of (p4 rfl rfl rfl rfl rfl (e0 Q g0) ?bw ?aa ?ae fun k6=>?_));case bw=>exact cc
   case aa=>exact cc
   case ae=>exact cc
   refine jK (nt Q g0) fun a20=>?_;refine' W.step rfl (.of (kk rfl rfl rfl rfl rfl rfl (nt Q g0) (CF Q g0) (fun i q=>by cases q) ?cw ?hm ?U ?cr ?ca ?av fun apQ ale ahv=>?_));case cw=>assumption
   case hm=>exact s'
   case U=>exact hR
   case cr=>first|rfl|(simp;done)|(simp;omega)
   case ca=>first|rfl|exact hf _
   case av=>exact cc
   refine I V.az ?_;refine a6 ?_;rw[yv];refine ab.eC (h2:=[_]) amJ ?_;refine rg ?_;refine I V.ag ?_;refine I V.bt ?_;refine I V.az ?_;refine a6 ?_;refine cB ⟨i+1,apQ,cells++[.slice (some ⟨k6,0,none⟩) y.2.toNat y.2.toNat],ale,bs++[(k6,.row ((List.replicate y.2.toNat 0).map (Value.int .i64)) 3)]⟩ ?_;exact⟨by omega,ahv,bE.app (aaI ai) ⟨k6,by rw[sc],by rw[sc];exact wN (show y.2.toNat<=100 by omega) (by decide),rfl⟩⟩
  ·refine aj ?_;refine ab.exit ?_;obtain⟨bv,gJ,rfl⟩:=cw.form;refine cw.hQ (.refl _) fun e2 cF xS=>?_;refine ab.gN (m':=dh bm g aT aQ aK ci::bs) YC ?_;refine rg ?_;refine aM ?_;refine ns ?_;refine ab.ret ?_;refine'⟨.inr rfl,rfl,_,_,.tmp rfl .nil,bu _,?_⟩;refine⟨cF,bm,bs,rfl,eQ.snoc (vs:=cells) ?_ bE.2.2 ?_⟩
   ·rw[wE,show g.is.length=i by omega];exact xS
   ·rw[wE,bE.2.1];omega
end
section
variable {Q:dD Tryz.prog}{g0:Nat}{J:aH}
theorem Am{J:aH}{g:bq}{aT aK:Option Addr}{aQ ci:Nat}:∀(v:Value) m' af,(J.le af/\∃bm bs,m'=dh bm g aT aQ aK ci::bs/\eQ iK af 22 v (jE g) bs)->∃a b,(a,b)∈m':=by
 rintro v m' af ⟨_,a,bs,rfl,_⟩;exact⟨_,_,.head _⟩
theorem amH{α:Type}{a b c d:α}{l r:List α}:((a::l)++((b::r)++[c,d])).Perm (l++(r++[a,b,c,d])):=by
 refine(hU (l₁:=[a]) (l₂:=l++((b::r)++[c,d]))).trans ?_;rw[gw];refine At _ ?_;refine(hU (l₁:=[b]) (l₂:=r++[c,d]++[a])).trans ?_;rw[gw,gw];refine At _ ?_;exact(hU (l₁:=[c,d]) (l₂:=[a,b]))
abbrev Mm (g:bq)(s:Int):gI:=⟨0,s,jE g,jE g⟩
theorem XT{g:bq}{aT aK:Option Addr}{aQ ci:Nat}(hw:jg g)(aq:fH J g aT aQ aK ci)(au:kj g=0):
 Fn (bd Q g0) 14 [hb g aT aQ aK ci] [] J (fun u m' af=>J.le af/\m'=[]/\∃bs cs ct cE,u=.tuple #[nu (Mm g 0) bs cs ct cE,.int .i64 0]/\jj af (Mm g 0) bs cs ct cE):=by
 have fX:addrEq aK aK=true:=aq.i.addr;have gq:addrEq aT aT=true:=aq.n.addr;refine Fn.cH (cM Tryz.func14) rfl rfl fun H=>?_;refine rg ?_;refine dK fun bm=>?_;refine' W.step rfl (.of (eT rfl rfl rfl (kY Q g0) rfl rfl rfl fun a2=>?_));refine I V.az ?_;refine bi ?_;refine I V.c9 ?_;refine cl (G:=YY aq) (h:=?_);rintro v m' dO ch ⟨rfl,rfl,_⟩;refine I V.az ?_;refine bi ?_;refine I V.ag ?_;refine I V.aZ ?_;refine ns ?_;refine If (fun my=>?_) fun my=>?_
 ·exfalso;exact my au
 ·refine aj ?_;refine ab.skip ?_;refine aj ?_;refine ab.draw rfl (by kernel_rfl) (bc:=[.val 0,.val 2,.bR 1,.cA [2],.bR 3,.val 4,.bR 5,.val 6]) (by kernel_rfl) ?_;refine al rfl V.c9 ?_;refine al rfl V.c9 ?_;refine a8.IJ ?_;refine' ga.yZ rfl rfl rfl rfl rfl rfl rfl rfl rfl (fun x U=>by cases U) Am (Ft hw (aq.mono ch)) ?_;rintro v m' e2 cF ⟨_,aq3,arj,rfl,gT⟩;obtain⟨bs,cs,rfl,_⟩:=gT.at;refine ga.cA eX ?_;refine' ga.yZ rfl rfl rfl rfl rfl rfl rfl rfl rfl (fun x U=>by rcases e3.1 U with rfl|U;rfl;cases U) Am (Ft hw ((aq.mono ch).mono cF)) ?_;rintro v m' jV dU ⟨_,aq4,ark,rfl,ju⟩;obtain⟨ct,cE,rfl,_⟩:=ju.at;refine ga.II (fun x U=>JH (f:=fun x=>(x.f,x.bT)) U) ?_;refine al rfl V.jl ?_;refine kn rfl ?_;refine al rfl V.az ?_;refine a8.nil ?_;refine ju.hQ (fun _ _ _ h=>h.ok) amH fun q1 ie xr=>?_;refine(gT.mono (dU.trans ie)).hQ (fun _ _ _ h=>h.ok) (.refl _) fun wJ ke xq=>?_;refine aj ?_;refine ab.ret ?_;refine'⟨.inr rfl,rfl,_,[],.cell rfl (by repeat first|exact .head _|refine .tail _ ?_|refine hT _ ?_) (mm (eW rfl) rfl) (.tmp rfl .nil),h5 _,⟨ch.trans (cF.trans (dU.trans (ie.trans ke))),rfl,bs,cs,ct,cE,rfl,xq,xr.mono ke fun _ _ q=>q.mono ke⟩⟩
theorem alq{g:bq}{aT aK:Option Addr}{aQ ci:Nat}{s:Int}(hw:jg g)(aq:fH J g aT aQ aK ci)(au:kj g=0)(ig:1<=s)(jN:s<2147483647):
 Fn (bd Q g0) 16 [hb g aT aQ aK ci,.int .i64 s] [] J (fun u m' af=>J.le af/\m'=[]/\∃bs cs ct cE,u=.tuple #[nu (Mm g s) bs cs ct cE,.int .i64 0]/\jj af (Mm g s) bs cs ct cE):=by
 have fX:addrEq aK aK=true:=aq.i.addr;have gq:addrEq aT aT=true:=aq.n.addr;refine Fn.cH (cM Tryz.func16) rfl rfl fun H=>?_;refine rg ?_;refine dK fun a2=>?_;refine' W.step rfl (.of (eT rfl rfl rfl (kY Q g0) rfl rfl rfl fun a4=>?_));refine I V.az ?_;refine bi ?_;refine I V.c9 ?_;refine cl (G:=XT hw aq au) (h:=?_);rintro v m' dO ch ⟨_,rfl,bs,cs,ct,cE,rfl,dn⟩;refine aM ?_;refine' W.step rfl (.of (eT rfl rfl rfl (kY Q g0) rfl rfl rfl fun da=>?_));refine dC ?_;refine I V.az ?_;refine bi ?_;refine I V.ag ?_;refine I V.aZ ?_;refine ns ?_;refine If (fun lF=>?_) fun lF=>?_
 ·exfalso;exact lF rfl
 ·refine aj ?_;refine ab.skip ?_;refine fR [1,4,6] ?_;refine aj ?_;refine' ab.hl 0 [(22,.bool (decide ((s<1\/2147483647<=s))))] ?tF ?tI;case tF=>
   refine ab.region ?_;refine I V.ag ?_;refine I V.aZ ?_;refine I V.ag ?_;refine dr 19 (fun Ol=>?_) fun Ol=>?_
   ·refine ah ?_;refine ah ?_;refine I V.aU ?_;refine a6 ?_;exact ce
   ·refine aX V.ag ?_;refine aX V.aZ ?_;refine I V.aU ?_;refine a6 ?_;exact ce
  case tI=>
   refine aj ?_;refine If (fun Gm=>?_) fun Gm=>?_
   ·exfalso;omega
   ·refine aj ?_;refine ab.skip ?_;refine rg ?_;refine aM ?_;refine dC ?_;refine bi ?_;refine I V.c9 ?_;refine dC ?_;refine I V.az ?_;refine ns ?_;refine ab.ret ?_;refine'⟨.inr rfl,rfl,_,[],.cell rfl (by repeat first|exact .head _|refine .tail _ ?_|refine hT _ ?_) (mm (eW rfl) rfl) (.tmp rfl .nil),h5 _,⟨ch,rfl,bs,cs,ct,cE,rfl,dn.s,dn.p⟩⟩
end
end
end Go.Opn
