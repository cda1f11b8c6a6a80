/- A part of the proof of ResumeBack. -/
import Derived.Test.YtiemfjdacfioeaaGreatDoorCbl
import Derived.Test.YtiemfjdacfioeaaGreatDoorCbi
import Derived.Test.YtiemfjdacfioeaaGreatDoorCbk
set_option maxRecDepth 100000
set_option maxHeartbeats 4000000
set_option linter.unusedVariables false
set_option linter.unusedSimpArgs false
namespace Go.Opn
noncomputable section
open Go.Cre Go.RowKit Go.Proofs
section
variable {Q:dI Tryz.prog}{g0:Nat}{J:aI}
theorem Yw{g:bz}{aT aL:Option Addr}{aQ ci:Nat}(aq:fG J g aT aQ aL ci):
 Fn (bb Q g0) 32 [hc g aT aQ aL ci] [] J (tg (.int .i64 (kc g)) J):=by
 have fW:addrEq aL aL=true:=aq.i.addr;have gn:addrEq aT aT=true:=aq.n.addr;refine Fn.cH (cQ Tryz.func32) rfl rfl fun H=>?_;refine rg ?_;refine dJ fun bo=>?_;refine I V.aA ?_;refine bj ?_;refine I V.c8 ?_;refine cl (G:=am6 aq) (h:=?_);rintro v m' dQ ck ⟨rfl,rfl,_⟩;refine I V.aA ?_;refine bj ?_;refine I V.ah ?_;refine I V.a1 ?_;refine ns ?_;refine If (fun dR=>?_) fun dR=>?_
 ·have aw:kc g=h6 g:=by unfold kc;rw[aE dR]
  refine rg ?_;refine aM ?_;refine ns ?_;refine ab.ret ?_;refine c' ?_;first
   |(have c:=w;exact⟨rfl,rfl,ck.trans cE⟩)
   |(rw[aw];exact⟨rfl,rfl,ck⟩)
 ·refine aj ?_;refine ab.skip ?_;refine rg ?_;refine I V.c8 ?_;refine cl (G:=anc (aq.mono ck) (gP.1 dR)) (h:=?_);rintro v m' eZ cE ⟨w,rfl,rfl,_⟩;refine aM ?_;refine bj ?_;refine aM ?_;refine ns ?_;refine ab.ret ?_;refine c' ?_;first
   |(have c:=w;exact⟨rfl,rfl,ck.trans cE⟩)
   |(rw[aw];exact⟨rfl,rfl,ck⟩)
theorem Yy{g:bz}{aT aL:Option Addr}{aQ ci:Nat}{l:List (List Int)}{b:Option Addr}{c:Nat}{cm:Int}(aq:fG J g aT aQ aL ci)(av:fa J 22 1 (jI J) (.slice b l.length c) l)(aa:l.length<=1000)(ae:∀r∈l,r.length<=1000):
 Fn (bb Q g0) 78 [hc g aT aQ aL ci,.slice b l.length c,.int .i64 cm] [] J (fun u m' ag=>u=.int .i64 (ng g l cm)/\m'=[]/\J=ag):=by
 have fW:addrEq aL aL=true:=aq.i.addr;have gn:addrEq aT aT=true:=aq.n.addr;obtain⟨_,kt⟩:=aq.i.at;obtain⟨_,qi⟩:=av.at;refine Fn.cH (cQ Tryz.func78) rfl rfl fun H=>?_;refine rg ?_;refine dJ fun a3=>?_;refine I V.aA ?_;refine bj ?_;refine aM ?_;refine I V.aF ?_;refine I V.bP ?_;refine I V.a1 ?_;refine ns ?_;refine If (fun ly=>?_) fun ly=>?_
 ·refine rg ?_;refine I V.aA ?_;refine ns ?_;refine ab.ret ?_;refine c' ?_;refine⟨cC (Value.int .i64) ?_,rfl,rfl⟩;unfold ng;first
   |(have c:=gj;rw[ap (by omega),gj,zT (by omega)])
   |rw[aE (by omega)]
 ·refine aj ?_;refine ab.skip ?_;refine rg ?_;refine I V.aA ?_;refine ns ?_;refine ab.block ?_;refine' ab.c2 (l':=[(7,.int .i64 ((0):Int)),(1,_),(2,_),(3,_)]) ⟨?yc,rfl,rfl,rfl,trivial⟩ (bA _) ?_;case yc=>exact bS
  refine aj ?_;refine' ab.dF (fun(i:Nat)=>⟨[(7,.int .i64 (i:Int))],[(a3,.row (iq g aT aQ aL ci) 27)],J,i<=l.length/\rQ cm l g.is=rQ cm (l.drop i) (g.is.drop i),l.length -i⟩) (0) ?af ?bE;case af=>exact⟨cB _,rfl⟩
  case bE=>
   rintro i hinv;try simp only at hinv
   obtain⟨ao,gj⟩:=hinv;refine rg ?_;refine aM ?_;refine I V.a1 ?_;refine ns ?_;refine If (fun p3=>?_) fun p3=>?_
   ·obtain⟨FJ,Iq,Gd,Gn,rfl,lU,tY⟩:=qi (by omega);obtain⟨r,vh,ay,vC,l2,jd,ko,rfl,n9⟩:=tY i (by omega) (by omega);have sC:=l2 0 _ (by decide) rfl;obtain⟨ha,jk,vf,vm,rfl,mu,lZ⟩:=kt (by omega);obtain⟨y,wT,ai,tU,l1,rfl⟩:=lZ i (by omega) (by omega);have VL:=l1 1 _ (by decide) rfl;rw[cy] at ay ai;have px:=ae r (cd ay);have j':=n9.iB [];refine c5 ?_;refine aj ?_;refine ab.block ?_;refine aj ?_;refine ab.draw rfl (by kernel_rfl) (bf:=[.val 0,.val 1,.val 2,.val 3,.val 4,.val 5,.val 6,.val 7,.val 8,.val 9,.val 10,.val 11]) (by kernel_rfl) ?_;refine cq ?_;refine an rfl V.aX ?_;refine an rfl V.aF ?_;refine cq ?_;refine an rfl V.aF ?_;refine an rfl V.ah ?_;refine an rfl V.aX ?_;refine an rfl V.bc ?_;refine an rfl V.aF ?_;refine an rfl V.a1 ?_;refine a7.nil ?_;refine aj ?_;refine If (fun mS=>?_) fun mS=>?_
    ·refine rg ?_;refine I V.aA ?_;refine ns ?_;refine ab.ret ?_;refine c' ?_;refine⟨cC (Value.int .i64) ?_,rfl,rfl⟩;unfold ng;first
       |(have c:=mS;rw[ap (by omega),gj,zS ay ai,aE mS])
       |(have c:=gj;rw[ap (by omega),gj,zT (by omega)])
       |rw[aE (by omega)]
    ·refine aj ?_;refine ab.skip ?_;refine rg ?_;refine I V.aA ?_;refine ns ?_;refine ab.block ?_;refine' ab.c2 (l':=[(8,.int .i64 ((0):Int)),(1,_),(2,_),(3,_),(7,_)]) ⟨?jq,rfl,rfl,rfl,rfl,trivial⟩ (bA _) ?_;case jq=>exact bS
     refine aj ?_;refine' ab.dF (fun(k:Nat)=>⟨[(8,.int .i64 (k:Int))],[(a3,.row (iq g aT aQ (some ⟨ha,jk,none⟩) ci) 27)],J,k<=r.length/\(r.take k).any (hG cm 70368744177664)=false,r.length -k⟩) (0) ?af ?bE;case af=>exact⟨cB _,rfl⟩
     case bE=>
      rintro k hinv;try simp only at hinv
      obtain⟨aU,rf⟩:=hinv;refine rg ?_;refine aM ?_;refine I V.aX ?_;refine I V.aF ?_;refine I V.bP ?_;refine I V.a1 ?_;refine ns ?_;refine If (fun k0=>?_) fun k0=>?_
      ·obtain⟨mh,iW,oD,rfl,Bz,ia⟩:=j' (by omega);obtain⟨ex,rc⟩:=Bz.LF;obtain⟨x,U,e0⟩:=ia k (by omega) (by omega);refine c5 ?_;refine aj ?_;refine ab.block ?_;refine fT [1,2,3,7,8] ?_;refine aj ?_;refine' ab.ht 0 [(60,.bool (decide ((x<cm\/70368744177664<x))))] ?Ng ?Nq;case Ng=>
        refine ab.region ?_;refine aM ?_;refine I V.aX ?_;refine I V.aF ?_;refine I V.ah ?_;refine I V.aX ?_;refine I V.aF ?_;refine I V.ah ?_;refine I V.a1 ?_;refine I V.ah ?_;refine dq 51 (fun afC=>?_) fun afC=>?_
        ·refine al ?_;refine al ?_;refine al ?_;refine al ?_;refine al ?_;refine al ?_;refine al ?_;refine al ?_;refine I V.aV ?_;refine a8 ?_;exact ce
        ·refine aW V.ah ?_;refine aW V.ah ?_;refine aW V.aX ?_;refine aW V.aF ?_;refine aW V.ah ?_;refine aW V.aX ?_;refine aW V.aF ?_;refine aW V.a1 ?_;refine I V.aV ?_;refine a8 ?_;exact ce
       case Nq=>
        refine aj ?_;refine If (fun C7=>?_) fun C7=>?_
        ·refine rg ?_;refine I V.aA ?_;refine ns ?_;refine ab.ret ?_;refine c' ?_;refine⟨cC (Value.int .i64) ?_,rfl,rfl⟩;unfold ng;first
          |(have c:=C7;rw[ap (by omega),gj,zS ay ai,ap mS,aE (JG U (by simp[hG];omega))])
          |(have c:=mS;rw[ap (by omega),gj,zS ay ai,aE mS])
          |(have c:=gj;rw[ap (by omega),gj,zT (by omega)])
          |rw[aE (by omega)]
        ·refine aj ?_;refine ab.skip ?_;refine rg ?_;refine I V.ah ?_;refine I V.bx ?_;refine I V.aA ?_;refine a8 ?_;refine cA (k+1) ?_;exact⟨by omega,MJ U rf (by simp[hG];omega)⟩
      ·refine aj ?_;refine ab.exit ?_;refine rg ?_;refine I V.ah ?_;refine I V.bx ?_;refine I V.aA ?_;refine a8 ?_;refine cA (i+1) ?_;refine⟨by omega,?_⟩;rw[gj,zS ay ai,ap mS,ap (by rw[et (by omega)] at rf;rw[rf];exact RW)]
   ·refine aj ?_;refine ab.exit ?_;refine rg ?_;refine I V.aA ?_;refine ns ?_;refine ab.ret ?_;refine c' ?_;refine⟨cC (Value.int .i64) ?_,rfl,rfl⟩;unfold ng;first
     |(have c:=gj;rw[ap (by omega),gj,zT (by omega)])
     |rw[aE (by omega)]
theorem Ry{g:bz}{aT aL:Option Addr}{aQ ci:Nat}{t:gI}{bs cu:Option Addr}{cs cD:Nat}(aq:fG J g aT aQ aL ci)(aD:iS J t bs cs cu cD)(aa:t.sum.length<=1000)(ae:∀r∈t.sum,r.length<=1000)(aG:t.pl.length<=1000)(br:∀r∈t.pl,r.length<=1000):
 Fn (bb Q g0) 55 [hc g aT aQ aL ci,mG t bs cs cu cD] [] J (tg (.int .i64 (rX g t)) J):=by
 have fW:addrEq aL aL=true:=aq.i.addr;have gn:addrEq aT aT=true:=aq.n.addr;refine Fn.cH (cQ Tryz.func55) rfl rfl fun H=>?_;refine rg ?_;refine dJ fun a2=>?_;refine dJ fun a3=>?_;refine I V.aA ?_;refine a8 ?_;refine fT [2,3] ?_;refine aj ?_;refine' ab.ht 0 [(23,.bool (decide ((t.r<0\/1000000<t.r\/t.s<0\/2147483646<t.s))))] ?mT ?n1;case mT=>
  refine ab.region ?_;refine I V.bc ?_;refine I V.aF ?_;refine I V.a1 ?_;refine I V.ah ?_;refine dq 9 (fun n2=>?_) fun n2=>?_
  ·refine al ?_;refine al ?_;refine al ?_;refine I V.aV ?_;refine I V.ah ?_;refine al ?_;refine al ?_;refine al ?_;refine I V.aV ?_;refine I V.ah ?_;refine al ?_;refine al ?_;refine al ?_;refine I V.aV ?_;refine a8 ?_;exact ce
  ·refine aW V.bc ?_;refine aW V.aF ?_;refine aW V.a1 ?_;refine I V.aV ?_;refine I V.ah ?_;refine dq 14 (fun xa=>?_) fun xa=>?_
   ·refine al ?_;refine al ?_;refine al ?_;refine I V.aV ?_;refine I V.ah ?_;refine al ?_;refine al ?_;refine al ?_;refine I V.aV ?_;refine a8 ?_;exact ce
   ·refine aW V.bc ?_;refine aW V.aF ?_;refine aW V.a1 ?_;refine I V.aV ?_;refine I V.ah ?_;refine dq 19 (fun afQ=>?_) fun afQ=>?_
    ·refine al ?_;refine al ?_;refine al ?_;refine I V.aV ?_;refine a8 ?_;exact ce
    ·refine aW V.bc ?_;refine aW V.aF ?_;refine aW V.a1 ?_;refine I V.aV ?_;refine a8 ?_;exact ce
 case n1=>
  refine aj ?_;refine If (fun vc=>?_) fun vc=>?_
  ·refine rg ?_;refine I V.aA ?_;refine ns ?_;refine ab.ret ?_;refine c' ?_;refine⟨cC (Value.int .i64) ?_,rfl,aI.le.refl _⟩;unfold rX;first
    |rw[aE vc]
  ·refine aj ?_;refine ab.skip ?_;refine rg ?_;refine I V.c8 ?_;refine I V.bc ?_;refine I V.aF ?_;refine cl (G:=Yy aq aD.s aa ae) (h:=?_);rintro v m' eZ cE ⟨rfl,rfl,rfl⟩;refine I V.aA ?_;refine bj ?_;refine I V.ah ?_;refine I V.a1 ?_;refine ns ?_;refine If (fun wO=>?_) fun wO=>?_
   ·refine rg ?_;refine aM ?_;refine ns ?_;refine ab.ret ?_;refine c' ?_;refine⟨cC (Value.int .i64) ?_,rfl,aI.le.refl _⟩;unfold rX;first
      |(have c:=wO
        first
           |rw[ap vc,aE wO]
           |rw[ap vc,ap wO])
      |rw[aE vc]
   ·refine aj ?_;refine ab.skip ?_;refine rg ?_;refine I V.c8 ?_;refine I V.bc ?_;refine I V.aF ?_;refine cl (G:=Yy aq aD.p aG br) (h:=?_);rintro v m' kh dV ⟨rfl,rfl,rfl⟩;refine I V.aA ?_;refine ns ?_;refine ab.ret ?_;refine c' ?_;refine⟨cC (Value.int .i64) ?_,rfl,aI.le.refl _⟩;unfold rX;first
      |(have c:=wO
        first
           |rw[ap vc,aE wO]
           |rw[ap vc,ap wO])
      |rw[aE vc]
theorem Yt{g:bz}{aT aL:Option Addr}{aQ ci:Nat}{t:gI}{bs cu:Option Addr}{cs cD:Nat}(aq:fG J g aT aQ aL ci)(aD:iS J t bs cs cu cD)(aa:t.sum.length<=1000)(ae:∀r∈t.sum,r.length<=1000)(aG:t.pl.length<=1000)(br:∀r∈t.pl,r.length<=1000):
 Fn (bb Q g0) 34 [hc g aT aQ aL ci,mG t bs cs cu cD] [] J (tg (.int .i64 (nA g t)) J):=by
 have fW:addrEq aL aL=true:=aq.i.addr;have gn:addrEq aT aT=true:=aq.n.addr;refine Fn.cH (cQ Tryz.func34) rfl rfl fun H=>?_;refine rg ?_;refine dJ fun a2=>?_;refine dJ fun a3=>?_;refine I V.aA ?_;refine bj ?_;refine I V.c8 ?_;refine cl (G:=Yw aq) (h:=?_);rintro v m' dQ ck ⟨rfl,rfl,_⟩;refine I V.aA ?_;refine bj ?_;refine I V.ah ?_;refine I V.a1 ?_;refine ns ?_;refine If (fun dR=>?_) fun dR=>?_
 ·refine rg ?_;refine aM ?_;refine ns ?_;refine ab.ret ?_;refine c' ?_;first
   |(have c:=cE
     refine⟨cC (Value.int .i64) ?_,rfl,ck.trans cE⟩;unfold nA;rw[ap dR])
   |(refine⟨cC (Value.int .i64) ?_,rfl,ck⟩
     unfold nA;rw[aE dR])
 ·refine aj ?_;refine ab.skip ?_;refine rg ?_;refine I V.c8 ?_;refine I V.c8 ?_;refine cl (G:=Ry (aq.mono ck) (aD.mono ck) aa ae aG br) (h:=?_);rintro v m' eZ cE ⟨rfl,rfl,_⟩;refine I V.aA ?_;refine ns ?_;refine ab.ret ?_;refine c' ?_;first
   |(have c:=cE
     refine⟨cC (Value.int .i64) ?_,rfl,ck.trans cE⟩;unfold nA;rw[ap dR])
   |(refine⟨cC (Value.int .i64) ?_,rfl,ck⟩
     unfold nA;rw[aE dR])
end
end
end Go.Opn
namespace Go.Opn
noncomputable section
open Go.Cre Go.RowKit
section
variable {K:eL}{B:ea}{o:Oper}{n:Nat}{ds:e7}{l:List (Nat×Value)}{m m':aO}{J:aI}{eR:cn->aO->aI->Prop}{d:Nat}
theorem Mb{c:Call}{t hi e:TypeId}{sz j a off TY:Nat}{gf cells cells' new:List Value}{bG:TypeId}{x:Value}(ar:o.op=.call c)(aH:c.callee=.builtin .copy)(aZ:o.dst=some d)(aP:Nat.blt d n=true)(a':h5 l c.args.toList=some [.slice (some ⟨a,off,none⟩) j TY,x])(oY:c.argTypes.toList=[t,hi])(aD:jS K.P t=some (e,sz,gf))
 (U:mQ K.g0 B J m sz x j new)(cc:new.all eQ=true)(xA:new≠[])(af:gD off cells new=some cells')(aw:cR m a (.row cells bG) (.row cells' bG) m')
 (h:eR ⟨n,ds,(d,.int .i64 j)::l⟩ m' J):hZ K B o ⟨n,ds,l⟩ m J eR:=by
 obtain⟨hu,eU,gS,z,h',bN,bm,rfl,bl,b8,gx⟩:=x2 aD;refine hZ.x' aZ aP fun S H ax aJ=>?_;obtain⟨hj,ig⟩:=U H aJ;obtain⟨H1,aN,bn⟩:=aJ.store aw;obtain⟨bp,bC,b5,da⟩:=aJ.own _ _ aw.mem;have bp:H.mem.get a=some (.row cells bG false 0 0 false):=bp;refine⟨.int .i64 j,H1,m',J,fun call aR=>?_,bn,h⟩;rw[yY ar aH];unfold pn;rw[oI ax H a',oY];show mJ (Gt K.P H t (.slice (some ⟨a,off,none⟩) j TY) x)=_;unfold Gt;simp only[hu,hj,eU];rw[show Nat.ble j j=true from lr (cZ _),cb,ig];simp only[cc,lK,dZ];unfold sk;cases new with
 |nil=>exact absurd rfl xA
 |cons v0 vs=>
  simp only
  have aq:Nat.blt a H.bZ=false:=by
   cases q:Nat.blt a H.bZ
   ·rfl
   ·have:a<H.bZ:=by simpa[Nat.blt,tc] using q
    have:=aJ.bZ;omega
  rw[aq,dZ,bp];simp only[show Nat.ble 0 off=true from lr (cB _),Je,cc,cb,af,aN,dZ];rfl
end
theorem al7{α:Type}{bs:List α}{i:Nat}{x:α}(h:bs[i]?=some x):bs.Perm (x::bs.eraseIdx i):=by
 induction bs generalizing i with
 |nil=>cases h
 |cons b bs aK=>
  cases i with
  |zero=>simp at h;subst h;exact .refl _
  |succ i=>simp at h;exact((aK h).cons b).trans (.swap _ _ _)
theorem al4{α:Type}{bs:List α}{i:Nat}{x:α}(h:bs[i]?=some x)(y:α):(y::bs.eraseIdx i).Perm (bs.set i y):=by
 induction bs generalizing i with
 |nil=>cases h
 |cons b bs aK=>
  cases i with
  |zero=>exact .refl _
  |succ i=>simp at h;exact(List.Perm.swap _ _ _).trans ((aK h).cons b)
def eK(ih:List Int->Value->Nat×cK->Prop)(J:aI)(e:TypeId)(v:Value)(bP:List (List Int))(bs:aO):Prop:=
 ∃vs,hL J e 1 v bP.length vs/\bs.length=bP.length/\∀(i:Nat) l w x,bP[i]?=some l->vs[i]?=some w->bs[i]?=some x->ih l w x
def h0(l:List Int)(w:Value)(x:Nat×cK):Prop:=∃a,w=.slice (some ⟨a,0,none⟩) l.length l.length/\l.length<c9/\x=(a,.row (l.map (Value.int .i64)) 3)
def nq(l:List Int)(w:Value)(x:Nat×cK):Prop:=∃a r,w=.slice (some ⟨a,0,none⟩) l.length c9/\x=(a,.opn (l.map (Value.int .i64)) 3 r 0)
section
variable {ih:List Int->Value->Nat×cK->Prop}{J ag:aI}{e:TypeId}{v:Value}{bP:List (List Int)}{bs:aO}
theorem eK.mono(hle:J.le ag)(h:eK ih J e v bP bs):eK ih ag e v bP bs:=by
 obtain⟨vs,aa,ae⟩:=h;exact⟨vs,aa.mono hle,ae⟩
theorem eK.at(h:eK ih J e v bP bs):∃b c,v=.slice b bP.length c/\(0<bP.length->∃a off cells bG,b=some ⟨a,off,none⟩/\J a=some (cells,bG)/\∀i:Nat,i<bP.length->∃l w x,bP[i]?=some l/\nth cells (off+i*1)=some w/\bs[i]?=some x/\ih l w x/\∀l' dT,ih l' w dT->eK ih J e v (bP.set i l') (bs.set i dT)):=by
 obtain⟨vs,aa,ae,aG⟩:=h;obtain⟨b,c,rfl,bp,bC,b5⟩:=aa.inv;refine⟨b,c,rfl,fun aw=>?_⟩;obtain⟨a,off,cells,bG,rfl,da,gM⟩:=b5 aw;refine⟨a,off,cells,bG,rfl,da,fun i ao=>?_⟩;have bd:=de (l:=bP) (i:=i) ao;have a6:=de (l:=vs) (i:=i) (by omega);have b9:=de (l:=bs) (i:=i) (by omega);refine⟨_,_,_,bd,by rw[At,gM i (by omega)];exact a6,b9,aG _ _ _ _ bd a6 b9,fun l' dT ahK=>⟨vs,by rw[gu];exact aa,by rw[gu,gu];exact ae,fun k l w x g1 g2 g3=>?_⟩⟩;rw[kH] at g1 g3;split at g1
 ·rename_i q;subst q;rw[aE rfl] at g3;rw[aE (by omega)] at g3;injection g1 with g1;injection g3 with g3;subst g1;subst g3
  rw[a6] at g2;injection g2 with g2;subst g2
  exact ahK
 ·rename_i q;rw[ap q] at g3;exact aG _ _ _ _ g1 g2 g3
theorem eK.snoc{vs:List Value}(aa:hL J e 1 v bP.length vs)(ae:∀(i:Nat) l w x,bP[i]?=some l->vs[i]?=some w->bs[i]?=some x->ih l w x)(aG:bs.length=bP.length):eK ih J e v bP bs:=⟨vs,aa,aG,ae⟩
theorem eK.rows(h:eK ih J e v bP bs){ag:aI}(hle:J.le ag)(dt:∀l w x,ih l w x->∃y,x.2.rowOf=some y/\∀J:aI,J x.1=some y->dG J w l)(aiL:∀x∈bs,∀y,x.2.rowOf=some y->ag x.1=some y):fa ag e 1 (jI ag) v bP:=by
 obtain⟨vs,aa,ae,aG⟩:=h;refine⟨vs,aa.mono hle,fun i s af=>?_⟩;have av:=aa.len;have ao:i<bP.length:=(dX.1 af).1;have a6:=de (l:=vs) (i:=i) (by omega);have b9:=de (l:=bs) (i:=i) (by omega);obtain⟨y,bp,bC⟩:=dt _ _ _ (aG _ _ _ _ af a6 b9);have b5:=bC ag (aiL _ (cd b9) _ bp);have aN:(vs.drop (i*1)).take 1=[vs[i]]:=by rw[At,mO (by omega)];rfl
 rw[aN];obtain⟨b,c,au,_⟩:=b5.inv;rw[au] at b5 ⊢;exact⟨b,c,rfl,b5⟩
theorem h0.row{l:List Int}{w:Value}{x:Nat×cK}(h:h0 l w x):∃a,w=.slice (some ⟨a,0,none⟩) l.length l.length/\x=(a,.row (l.map (Value.int .i64)) 3)/\∀l':List Int,l'.length=l.length->h0 l' w (a,.row (l'.map (Value.int .i64)) 3):=by
 obtain⟨a,rfl,aa,rfl⟩:=h;exact⟨a,rfl,rfl,fun l' q=>⟨a,by rw[q],by omega,rfl⟩⟩
theorem nq.row{l:List Int}{w:Value}{x:Nat×cK}(h:nq l w x):∃a r,w=.slice (some ⟨a,0,none⟩) l.length c9/\x=(a,.opn (l.map (Value.int .i64)) 3 r 0)/\∀l':List Int,l'.length=l.length->nq l' w (a,.opn (l'.map (Value.int .i64)) 3 [] 0):=by
 obtain⟨a,r,rfl,rfl⟩:=h;exact⟨a,r,rfl,rfl,fun l' q=>⟨a,[],by rw[q],rfl⟩⟩
theorem h0.ok{l:List Int}{w:Value}{x:Nat×cK}(h:h0 l w x):∃y,x.2.rowOf=some y/\∀J:aI,J x.1=some y->dG J w l:=by
 obtain⟨a,rfl,aa,rfl⟩:=h;exact⟨_,rfl,fun J ms=>dG.lit aa ms⟩
end
theorem amw{bs:aO}{i a:Nat}{b:cK}(b':cK)(h:bs[i]?=some (a,b)):cR bs a b b' (bs.set i (a,b')):=by
 induction bs generalizing i with
 |nil=>cases h
 |cons x bs aK=>
  cases i with
  |zero=>simp at h;subst h;exact .head _ _ _ _
  |succ i=>simp at h;exact .tail _ (aK h)
theorem cR.left{m m' R:aO}{a:Nat}{b b':cK}(h:cR m a b b' m'):cR (m++R) a b b' (m'++R):=by
 induction h with
 |head a b b' m=>exact .head _ _ _ _
 |tail x _ aK=>exact .tail _ aK
theorem eK.aX{J:aI}{e:TypeId}{b:Option Addr}{n c i:Nat}{bP:List (List Int)}{bs:aO}(h:eK h0 J e (.slice b n c) bP bs)(ao:i<bP.length):∃a off cells bG ad l,b=some ⟨a,off,none⟩/\J a=some (cells,bG)/\bP[i]?=some l/\nth cells (off+i*1)=some (.slice (some ⟨ad,0,none⟩) l.length l.length)/\(ad,cK.row (l.map (Value.int .i64)) 3)∈bs/\
 ∀l':List Int,l'.length=l.length->eK h0 J e (.slice b n c) (bP.set i l') (bs.set i (ad,.row (l'.map (Value.int .i64)) 3))/\cR bs ad (.row (l.map (Value.int .i64)) 3) (.row (l'.map (Value.int .i64)) 3) (bs.set i (ad,.row (l'.map (Value.int .i64)) 3)):=by
 obtain⟨b',ch,az,ae⟩:=h.at;injection az with zl Ee HK
 subst zl;subst Ee;subst HK;obtain⟨a,off,cells,bG,rfl,bp,bC⟩:=ae (by omega);obtain⟨l,w,x,bd,a6,b9,fN,kd⟩:=bC i ao;obtain⟨ad,rfl,rfl,qE⟩:=fN.row;exact⟨a,off,cells,bG,ad,l,rfl,bp,bd,a6,cd b9,fun l' c6=>⟨kd _ _ (qE l' c6),amw _ b9⟩⟩
theorem LX{l r:List Value}(h:l.length=r.length):gD 0 l r=some r:=by
 rw[Cm _ _ _ (by omega),Jt,me,ls,wm (by omega),gg]
theorem Ln{α:Type}{f:α->Value}{L:List α}{off:Nat}{x:α}(i:Nat)(h:L[i]?=some x)(ar:off=i:=by omega):nth (L.map f) off=some (f x):=by subst ar;rw[kR,pb,h];rfl
theorem E1{α:Type}{f:α->Value}{L:List α}{off:Nat}{x:α}(i:Nat)(h:i<L.length)(ar:off=i:=by omega):gD off (L.map f) [f x]=some ((L.set i x).map f):=by subst ar;exact Rf h
section
variable {K:eL}{B:ea}{E:cn}{c0:Exit->cn->aO->aI->Prop}
theorem ab.ams{c:Code}:∀{bs m m0:aO} {J:aI},m.Perm (bs++m0)->(∀x∈bs,∃y,x.2.rowOf=some y)->
 (∀ag,J.le ag->(∀x∈bs,∀y,x.2.rowOf=some y->ag x.1=some y)->ab K B c E m0 ag c0)->ab K B c E m J c0:=by
 intro bs;induction bs with
 |nil=>intro m m0 J hm _ aU;exact ab.gB hm.symm (aU J (aI.le.refl _) (fun x U=>by cases U))
 |cons b bs aK=>
  intro m m0 J hm ar aU;refine ab.gB hm.symm ?_;obtain⟨y,ai⟩:=ar b (.head _);refine ab.mD (a:=b.1) (b:=b.2) ai fun hle=>aK (.refl _) (fun x U=>ar x (.tail _ U)) fun ag VO bB=>?_;refine aU ag (hle.trans VO) fun x U z bN=>?_;rcases fg.1 U with rfl|U
  ·rw[ai] at bN;injection bN with bN;subst bN
   exact VO _ _ (aI.oy _ _ _)
  ·exact bB x U z bN
theorem nq.ok{l:List Int}{w:Value}{x:Nat×cK}(h:nq l w x):∃y,x.2.rowOf=some y/\∀J:aI,J x.1=some y->dG J w l:=by
 obtain⟨a,r,rfl,rfl⟩:=h;refine⟨_,rfl,fun J ms=>⟨3,?_⟩⟩;exact .row ms (by rw[mP,et (by simp)]) (by simp) (fun q=>absurd rfl q) (fun _=>rfl)
theorem eK.hx{c:Code}{ih:List Int->Value->Nat×cK->Prop}{J:aI}{e:TypeId}{v:Value}{bP:List (List Int)}{bs m m0:aO}(h:eK ih J e v bP bs)(dt:∀l w x,ih l w x->∃y,x.2.rowOf=some y/\∀J:aI,J x.1=some y->dG J w l)(hm:m.Perm (bs++m0))(aU:∀ag,J.le ag->fa ag e 1 (jI ag) v bP->ab K B c E m0 ag c0):ab K B c E m J c0:=by
 refine ab.ams hm (fun x U=>?_) fun ag hle bB=>aU ag hle (h.rows hle dt bB);obtain⟨vs,aa,ae,aG⟩:=h;obtain⟨i,ao⟩:=kj.1 U;have c4:=(dX.1 ao).1;have av:=aa.len;obtain⟨y,bp,_⟩:=dt _ _ _ (aG i _ _ _ (de (by omega)) (de (by omega)) ao);exact⟨y,bp⟩
end
end
end Go.Opn
set_option maxHeartbeats 8000000
namespace Go.Opn
noncomputable section
open Go.Cre Go.RowKit Go.Proofs
section
variable {Q:dI Tryz.prog}{g0:Nat}{J:aI}
theorem dG.iY{b:Option Addr}{n c:Nat}{l:List Int}(h:dG J (.slice b n c) l):0<l.length->∃a off cells e,b=some ⟨a,off,none⟩/\J a=some (cells,e)/\∀i:Nat,i<l.length->∃x,l[i]?=some x/\nth cells (off+i*1)=some (.int .i64 x):=fun aw=>by
 obtain⟨_,_,aG⟩:=h.get;obtain⟨a,off,cells,e,br,eu,gK⟩:=aG aw;refine⟨a,off,cells,e,br,eu,fun i ao=>?_⟩;have:=gK i (by omega) (by omega);rwa [cy] at this
theorem Zv{l:List Int}{b:Option Addr}{c:Nat}(av:dG J (.slice b l.length c) l)(bD:∀v∈l,0<=v)(aa:l.sum<=1000000000)(ae:l.length<=1000):
 Fn (bb Q g0) 80 [.slice b l.length c] [] J (fun u m' ag=>u=.int .i64 l.sum/\m'=[]/\J=ag):=by
 have j':=av.iY;refine Fn.cH (cQ Tryz.func80) rfl rfl fun H=>?_;refine rg ?_;refine I V.aA ?_;refine bj ?_;refine I V.aA ?_;refine bj ?_;refine I V.aA ?_;refine ns ?_;refine ab.block ?_;refine' ab.c2 (l':=[(3,.int .i64 (0)),(4,.int .i64 ((0):Int)),(0,_)]) ⟨?kE,?kF,rfl,trivial⟩ (bA _) ?_;case kE=>exact bS
 case kF=>exact bS
 refine aj ?_;refine' ab.rG (α:=(Nat)×(Int)) (fun(bH:(Nat)×(Int))=>match bH with|(i,n)=>[(3,.int .i64 n),(4,.int .i64 (i:Int))]) (fun(bH:(Nat)×(Int))=>match bH with|(i,n)=>i<=l.length/\n=(l.take i).sum) (fun(bH:(Nat)×(Int))=>match bH with|(i,n)=>l.length -i) ⟨0,0⟩ ?af ?bE
 case af=>exact⟨cB _,rfl⟩
 case bE=>
  rintro⟨i,n⟩ hinv;try simp only at hinv
  obtain⟨ao,aP⟩:=hinv;refine rg ?_;refine aM ?_;refine I V.a1 ?_;refine ns ?_;refine If (fun mj=>?_) fun mj=>?_
  ·obtain⟨mh,iW,oD,e,rfl,rc,ia⟩:=j' (by omega);obtain⟨x,U,e0⟩:=ia i (by omega);have hW:=E3 U;have jB:=rU bD i;have BB:=rU bD (i+1);refine c5 ?_;refine aj ?_;refine ab.block ?_;refine rg ?_;refine aM ?_;refine I V.aX ?_;refine I V.aF ?_;refine I V.bx ?_;refine I V.aA ?_;refine bj ?_;refine I V.ah ?_;refine I V.bx ?_;refine I V.aA ?_;refine a8 ?_;refine'⟨⟨i+1,n+x⟩,_,?hinv,?kw,rfl,⟨?m3,?m4,rfl,trivial⟩,bA _,rfl⟩;case m3=>exact bS
   case m4=>exact bS
   case kw=>exact cf
   case hinv=>exact⟨by omega,by omega⟩
  ·refine aj ?_;refine ab.exit ?_;refine rg ?_;refine aM ?_;refine ns ?_;refine ab.ret ?_;refine c' ?_;refine⟨cC (Value.int .i64) ?_,rfl,rfl⟩;rw[aP,et (by omega)]
theorem aoh{l:List Int}{b:Option Addr}{c:Nat}(av:dG J (.slice b l.length c) l)(bD:∀v∈l,0<=v)(aa:l.sum<=1000000000)(ae:l.length<=1000):
 Fn (bb Q g0) 61 [.slice b l.length c] [] J (fun u m' ag=>u=.int .i64 l.sum/\m'=[]/\J=ag):=by
 have j':=av.iY;refine Fn.cH (cQ Tryz.func61) rfl rfl fun H=>?_;refine rg ?_;refine I V.aA ?_;refine bj ?_;refine I V.aA ?_;refine bj ?_;refine I V.aA ?_;refine ns ?_;refine ab.block ?_;refine' ab.c2 (l':=[(3,.int .i64 (0)),(4,.int .i64 ((0):Int)),(0,_)]) ⟨?kE,?kF,rfl,trivial⟩ (bA _) ?_;case kE=>exact bS
 case kF=>exact bS
 refine aj ?_;refine' ab.rG (α:=(Nat)×(Int)) (fun(bH:(Nat)×(Int))=>match bH with|(i,n)=>[(3,.int .i64 n),(4,.int .i64 (i:Int))]) (fun(bH:(Nat)×(Int))=>match bH with|(i,n)=>i<=l.length/\n=(l.take i).sum) (fun(bH:(Nat)×(Int))=>match bH with|(i,n)=>l.length -i) ⟨0,0⟩ ?af ?bE
 case af=>exact⟨cB _,rfl⟩
 case bE=>
  rintro⟨i,n⟩ hinv;try simp only at hinv
  obtain⟨ao,aP⟩:=hinv;refine rg ?_;refine aM ?_;refine I V.a1 ?_;refine ns ?_;refine If (fun mj=>?_) fun mj=>?_
  ·obtain⟨mh,iW,oD,e,rfl,rc,ia⟩:=j' (by omega);obtain⟨x,U,e0⟩:=ia i (by omega);have hW:=E3 U;have jB:=rU bD i;have BB:=rU bD (i+1);refine c5 ?_;refine aj ?_;refine ab.block ?_;refine rg ?_;refine aM ?_;refine I V.aX ?_;refine I V.aF ?_;refine I V.bx ?_;refine I V.aA ?_;refine bj ?_;refine I V.ah ?_;refine I V.bx ?_;refine I V.aA ?_;refine a8 ?_;refine'⟨⟨i+1,n+x⟩,_,?hinv,?kw,rfl,⟨?m3,?m4,rfl,trivial⟩,bA _,rfl⟩;case m3=>exact bS
   case m4=>exact bS
   case kw=>exact cf
   case hinv=>exact⟨by omega,by omega⟩
  ·refine aj ?_;refine ab.exit ?_;refine rg ?_;refine aM ?_;refine ns ?_;refine ab.ret ?_;refine c' ?_;refine⟨cC (Value.int .i64) ?_,rfl,rfl⟩;rw[aP,et (by omega)]
def JA(Z:List (List Int))(i:Nat)(cells:List Value)(bs:aO):Prop:=cells.length=i/\bs.length=i/\∀(j:Nat) l w x,Z[j]?=some l->cells[j]?=some w->bs[j]?=some x->h0 l w x
theorem vu{α:Type}{l:List α}{x y:α}{j:Nat}(h:(l++[x])[j]?=some y):l[j]?=some y\/(j=l.length/\y=x):=by
 by_cases q:j<l.length
 ·rw[lq q] at h;exact .inl h
 ·have ba:=eT h
  rw[dv,s'] at ba;have:j=l.length:=by omega
  subst this;rw[qb] at h;injection h with h
  exact .inr ⟨rfl,h.symm⟩
theorem JA.app{Z:List (List Int)}{i:Nat}{cells:List Value}{bs:aO}{l:List Int}{w:Value}{x:Nat×cK}(h:JA Z i cells bs)(av:Z[i]?=some l)(U:h0 l w x):JA Z (i+1) (cells++[w]) (bs++[x]):=by
 obtain⟨aa,ae,aG⟩:=h;refine⟨by simp[aa],by simp[ae],fun j l' bu dT g1 g2 g3=>?_⟩;rcases vu g2 with q|⟨bd,a6⟩
 ·rcases vu g3 with r|⟨cI,ei⟩
  ·exact aG j l' bu dT g1 q r
  ·have:=eT q;omega
 ·rcases vu g3 with r|⟨cI,ei⟩
  ·have:=eT r;omega
  ·subst a6;subst ei
   rw[show j=i by omega,av] at g1;injection g1 with g1;subst g1
   exact U
theorem wc{g:bz}:(jb g).length=g.is.length:=by unfold jb;simp
theorem RM{g:bz}{i:Nat}{y:Int×Int}(h:g.is[i]?=some y):(jb g)[i]?=some (List.replicate y.2.toNat 0):=by unfold jb;rw[pb,h];rfl
abbrev dm(a:Nat)(g:bz)(aT:Option Addr)(aQ:Nat)(aL:Option Addr)(ci:Nat):Nat×cK:=(a,.row (iq g aT aQ aL ci) 27)
theorem al8{α:Type}{a z:α}{aY bs r:List α}:((aY++((bs++[z])++r))++[a]).Perm (aY++a::z::(bs++r)):=by
 rw[gH];refine Aq _ ?_;refine List.perm_append_comm.trans ?_;refine List.Perm.cons _ ?_;rw[gH];exact wq
theorem Ya{α:Type}{a:α}{l:List α}:(a::l).Perm (l++[a]):=(hR (l₁:=[a]) (l₂:=l))
theorem Fh{g:bz}{aT aL:Option Addr}{aQ ci:Nat}(hw:iP g)(aq:fG J g aT aQ aL ci):
 Fn (bb Q g0) 33 [hc g aT aQ aL ci] [] J (fun u m' ag=>J.le ag/\∃bo bs,m'=dm bo g aT aQ aL ci::bs/\eK h0 ag 22 u (jb g) bs):=by
 have fW:addrEq aL aL=true:=aq.i.addr;have gn:addrEq aT aT=true:=aq.n.addr;obtain⟨_,kt⟩:=aq.i.at;have sA:=hw.i2;refine Fn.cH (cQ Tryz.func33) rfl rfl fun H=>?_;refine rg ?_;refine dJ fun bo=>?_;refine I V.aA ?_;refine bj ?_;refine I V.aA ?_;refine bj ?_;refine I V.aA ?_;refine ns ?_;refine ab.block ?_;refine' ab.c2 (l':=[(3,(.slice none 0 0)),(4,.int .i64 ((0):Int)),(1,_)]) ⟨?kE,?kF,rfl,trivial⟩ (bA _) ?_;case kE=>exact bS
 case kF=>exact bS
 refine aj ?_;refine' ab.dF (fun(bH:Nat×Value×(List Value)×aO×aO)=>match bH with|(i,v,cells,aY,bs)=>⟨[(3,v),(4,.int .i64 (i:Int))],aY++(bs++[dm bo g aT aQ aL ci]),J,i<=g.is.length/\Acc 22 1 v i cells aY/\JA (jb g) i cells bs,g.is.length -i⟩) ⟨0,.slice none 0 0,[],[],[]⟩ ?af ?bE
 case af=>exact⟨cB _,.nil,rfl,rfl,fun j l w x _ h _=>by cases h⟩
 case bE=>
  rintro⟨i,v,cells,aY,bs⟩ hinv;try simp only at hinv
  obtain⟨ao,cw,bN⟩:=hinv;refine rg ?_;refine aM ?_;refine I V.aF ?_;refine I V.bP ?_;refine I V.a1 ?_;refine ns ?_;refine If (fun dR=>?_) fun dR=>?_
  ·obtain⟨ha,jk,vf,vm,rfl,mu,lZ⟩:=kt (by omega);obtain⟨y,wT,ai,tU,l1,rfl⟩:=lZ i (by omega) (by omega);have VL:=l1 1 _ (by decide) rfl;rw[cy] at ai;have ajx:=hw.yC y (cd ai);refine c5 ?_;refine aj ?_;refine ab.block ?_;refine rg ?_;refine aM ?_;refine I V.aF ?_;refine I V.ah ?_;refine I V.aX ?_;refine I V.bc ?_;refine I V.aF ?_;refine' W.step rfl (.of (pT rfl rfl rfl rfl rfl (eX Q g0) ?bD ?aa ?ae fun lP=>?_));case bD=>exact cf
   case aa=>exact cf
   case ae=>exact cf
   refine jw (nl Q g0) fun a20=>?_;refine' W.step rfl (.of (kf rfl rfl rfl rfl rfl rfl (nl Q g0) (Cr Q g0) (fun i q=>by cases q) ?cw ?hm ?U ?cr ?cc ?av fun ao4 akE agV=>?_));case cw=>assumption
   case hm=>exact sU
   case U=>exact hP
   case cr=>first|rfl|(simp;done)|(simp;omega)
   case cc=>first|rfl|exact hg _
   case av=>exact cf
   refine I V.aA ?_;refine a8 ?_;rw[yi];refine ab.eF (iy:=[_]) al8 ?_;refine rg ?_;refine I V.ah ?_;refine I V.bx ?_;refine I V.aA ?_;refine a8 ?_;refine cA ⟨i+1,ao4,cells++[.slice (some ⟨lP,0,none⟩) y.2.toNat y.2.toNat],akE,bs++[(lP,.row ((List.replicate y.2.toNat 0).map (Value.int .i64)) 3)]⟩ ?_;exact⟨by omega,agV,bN.app (RM ai) ⟨lP,by rw[qU],by rw[qU];exact wu (show y.2.toNat<=100 by omega) (by decide),rfl⟩⟩
  ·refine aj ?_;refine ab.exit ?_;obtain⟨bv,gJ,rfl⟩:=cw.form;refine cw.hx (.refl _) fun eZ cE xE=>?_;refine ab.gB (m':=dm bo g aT aQ aL ci::bs) Ya ?_;refine rg ?_;refine aM ?_;refine ns ?_;refine ab.ret ?_;refine'⟨.inr rfl,rfl,_,_,.tmp rfl .nil,bA _,?_⟩;refine⟨cE,bo,bs,rfl,eK.snoc (vs:=cells) ?_ bN.2.2 ?_⟩
   ·rw[wc,show g.is.length=i by omega];exact xE
   ·rw[wc,bN.2.1];omega
end
section
variable {Q:dI Tryz.prog}{g0:Nat}{J:aI}
theorem Al{J:aI}{g:bz}{aT aL:Option Addr}{aQ ci:Nat}:∀(v:Value) m' ag,(J.le ag/\∃bo bs,m'=dm bo g aT aQ aL ci::bs/\eK h0 ag 22 v (jb g) bs)->∃a b,(a,b)∈m':=by
 rintro v m' ag ⟨_,a,bs,rfl,_⟩;exact⟨_,_,.head _⟩
theorem al6{α:Type}{a b c d:α}{l r:List α}:((a::l)++((b::r)++[c,d])).Perm (l++(r++[a,b,c,d])):=by
 refine(hR (l₁:=[a]) (l₂:=l++((b::r)++[c,d]))).trans ?_;rw[gH];refine Aq _ ?_;refine(hR (l₁:=[b]) (l₂:=r++[c,d]++[a])).trans ?_;rw[gH,gH];refine Aq _ ?_;exact(hR (l₁:=[c,d]) (l₂:=[a,b]))
abbrev L1 (g:bz)(s:Int):gI:=⟨0,s,jb g,jb g⟩
theorem Xq{g:bz}{aT aL:Option Addr}{aQ ci:Nat}(hw:iP g)(aq:fG J g aT aQ aL ci)(aw:kc g=0):
 Fn (bb Q g0) 14 [hc g aT aQ aL ci] [] J (fun u m' ag=>J.le ag/\m'=[]/\∃bs cs cu cD,u=.tuple #[mG (L1 g 0) bs cs cu cD,.int .i64 0]/\iS ag (L1 g 0) bs cs cu cD):=by
 have fW:addrEq aL aL=true:=aq.i.addr;have gn:addrEq aT aT=true:=aq.n.addr;refine Fn.cH (cQ Tryz.func14) rfl rfl fun H=>?_;refine rg ?_;refine dJ fun bo=>?_;refine' W.step rfl (.of (e4 rfl rfl rfl (ln Q g0) rfl rfl rfl fun a2=>?_));refine I V.aA ?_;refine bj ?_;refine I V.c8 ?_;refine cl (G:=Yw aq) (h:=?_);rintro v m' dQ ck ⟨rfl,rfl,_⟩;refine I V.aA ?_;refine bj ?_;refine I V.ah ?_;refine I V.a1 ?_;refine ns ?_;refine If (fun mj=>?_) fun mj=>?_
 ·exfalso;exact mj aw
 ·refine aj ?_;refine ab.skip ?_;refine aj ?_;refine ab.draw rfl (by kernel_rfl) (bf:=[.val 0,.val 2,.bV 1,.cF [2],.bV 3,.val 4,.bV 5,.val 6]) (by kernel_rfl) ?_;refine an rfl V.c8 ?_;refine an rfl V.c8 ?_;refine a7.Is ?_;refine' f'.yQ rfl rfl rfl rfl rfl rfl rfl rfl rfl (fun x U=>by cases U) Al (Fh hw (aq.mono ck)) ?_;rintro v m' eZ cE ⟨_,aqf,aqv,rfl,gU⟩;obtain⟨bs,cs,rfl,_⟩:=gU.at;refine f'.cF fC ?_;refine' f'.yQ rfl rfl rfl rfl rfl rfl rfl rfl rfl (fun x U=>by rcases fg.1 U with rfl|U;rfl;cases U) Al (Fh hw ((aq.mono ck).mono cE)) ?_;rintro v m' kh dV ⟨_,aqg,aqw,rfl,jh⟩;obtain⟨cu,cD,rfl,_⟩:=jh.at;refine f'.Ir (fun x U=>Jp (f:=fun x=>(x.f,x.b6)) U) ?_;refine an rfl V.jL ?_;refine kW rfl ?_;refine an rfl V.aA ?_;refine a7.nil ?_;refine jh.hx (fun _ _ _ h=>h.ok) al6 fun pV hD tI=>?_;refine(gU.mono (dV.trans hD)).hx (fun _ _ _ h=>h.ok) (.refl _) fun yo ku tH=>?_;refine aj ?_;refine ab.ret ?_;refine'⟨.inr rfl,rfl,_,[],.cell rfl (by repeat first|exact .head _|refine .tail _ ?_|refine h2 _ ?_) (l8 (eV rfl) rfl) (.tmp rfl .nil),iR _,⟨ck.trans (cE.trans (dV.trans (hD.trans ku))),rfl,bs,cs,cu,cD,rfl,tH,tI.mono ku fun _ _ q=>q.mono ku⟩⟩
theorem akN{g:bz}{aT aL:Option Addr}{aQ ci:Nat}{s:Int}(hw:iP g)(aq:fG J g aT aQ aL ci)(aw:kc g=0)(hW:1<=s)(jB:s<2147483647):
 Fn (bb Q g0) 16 [hc g aT aQ aL ci,.int .i64 s] [] J (fun u m' ag=>J.le ag/\m'=[]/\∃bs cs cu cD,u=.tuple #[mG (L1 g s) bs cs cu cD,.int .i64 0]/\iS ag (L1 g s) bs cs cu cD):=by
 have fW:addrEq aL aL=true:=aq.i.addr;have gn:addrEq aT aT=true:=aq.n.addr;refine Fn.cH (cQ Tryz.func16) rfl rfl fun H=>?_;refine rg ?_;refine dJ fun a2=>?_;refine' W.step rfl (.of (e4 rfl rfl rfl (ln Q g0) rfl rfl rfl fun a4=>?_));refine I V.aA ?_;refine bj ?_;refine I V.c8 ?_;refine cl (G:=Xq hw aq aw) (h:=?_);rintro v m' dQ ck ⟨_,rfl,bs,cs,cu,cD,rfl,dy⟩;refine aM ?_;refine' W.step rfl (.of (e4 rfl rfl rfl (ln Q g0) rfl rfl rfl fun dc=>?_));refine dN ?_;refine I V.aA ?_;refine bj ?_;refine I V.ah ?_;refine I V.a1 ?_;refine ns ?_;refine If (fun ly=>?_) fun ly=>?_
 ·exfalso;exact ly rfl
 ·refine aj ?_;refine ab.skip ?_;refine fT [1,4,6] ?_;refine aj ?_;refine' ab.ht 0 [(22,.bool (decide ((s<1\/2147483647<=s))))] ?tv ?tx;case tv=>
   refine ab.region ?_;refine I V.ah ?_;refine I V.a1 ?_;refine I V.ah ?_;refine dq 19 (fun NZ=>?_) fun NZ=>?_
   ·refine al ?_;refine al ?_;refine I V.aV ?_;refine a8 ?_;exact ce
   ·refine aW V.ah ?_;refine aW V.a1 ?_;refine I V.aV ?_;refine a8 ?_;exact ce
  case tx=>
   refine aj ?_;refine If (fun F7=>?_) fun F7=>?_
   ·exfalso;omega
   ·refine aj ?_;refine ab.skip ?_;refine rg ?_;refine aM ?_;refine dN ?_;refine bj ?_;refine I V.c8 ?_;refine dN ?_;refine I V.aA ?_;refine ns ?_;refine ab.ret ?_;refine'⟨.inr rfl,rfl,_,[],.cell rfl (by repeat first|exact .head _|refine .tail _ ?_|refine h2 _ ?_) (l8 (eV rfl) rfl) (.tmp rfl .nil),iR _,⟨ck,rfl,bs,cs,cu,cD,rfl,dy.s,dy.p⟩⟩
end
end
end Go.Opn
