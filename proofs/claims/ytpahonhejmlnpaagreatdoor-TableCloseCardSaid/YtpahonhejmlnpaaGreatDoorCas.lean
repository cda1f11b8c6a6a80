/- A part of the proof of TableClose. -/
import Derived.Test.YtpahonhejmlnpaaGreatDoorCar
set_option linter.unusedVariables false
set_option linter.unusedSimpArgs false
namespace Go.Opn
noncomputable section
open Go.Cre
open Go.RowKit
theorem aQ.yH{α:Type}(a:α):∀(T:aQ α) (n:Nat),(∀m,m<n->∃v,T.get m=some v)->∃di,aQ.put a T n=some di:=by
 intro T;induction T with
 |leaf=>
  intro n h;cases n with
  |zero=>exact⟨_,rfl⟩
  |succ n=>obtain⟨v,ay⟩:=h 0 (by omega);cases ay
 |node v l r sZ s0=>
  intro n h;cases n with
  |zero=>exact⟨_,rfl⟩
  |succ n=>
   rw[aQ.Ex];by_cases aw:n % 2=0
   ·rw[bg aw];obtain⟨l',aA⟩:=sZ (n / 2) fun m hm=>by
     obtain⟨v',ay⟩:=h (2*m+1) (by omega);rw[aQ.n6,bg (by omega),show 2*m / 2=m by omega] at ay;exact⟨v',ay⟩
    rw[aA];exact⟨_,rfl⟩
   ·rw[a3 aw];obtain⟨cg,al⟩:=s0 (n / 2) fun m hm=>by
     obtain⟨v',ay⟩:=h (2*m+1+1) (by omega);rw[aQ.n6,a3 (by omega),show(2*m+1) / 2=m by omega] at ay;exact⟨v',ay⟩
    rw[al];exact⟨_,rfl⟩
structure hF (H:ai):Prop where
 here:∀a,a<H.ax->∃b,H.mem.get a=some b
 gone:∀a,H.ax<=a->H.mem.get a=none
 xr:∀f,f<H.b7->∃l,H.bl.get f=some l
 zY:∀f,H.b7<=f->H.bl.get f=none
 iN:H.bp<=H.ax
theorem hF.lt{H:ai}(h:hF H){a:Nat}{b:eF}(g:H.mem.get a=some b):a<H.ax:=by
 rcases hr a H.ax with q|q
 ·exact q
 ·rw[h.gone a q] at g;cases g
theorem hF.z1{H:ai}(h:hF H){f:Nat}{l:List Nat}(g:H.bl.get f=some l):f<H.b7:=by
 rcases hr f H.b7 with q|q
 ·exact q
 ·rw[h.zY f q] at g;cases g
theorem hF.new{H:ai}(h:hF H)(b:eF):∃H1,H.new b=some (H.ax,H1):=by
 obtain⟨mem,ax,bl,b7,bp⟩:=H;obtain⟨T,b6⟩:=aQ.yH b mem ax h.here;refine⟨⟨T,ax+1,bl,b7,bp⟩,?_⟩;show ai.I2 ax bl b7 bp (aQ.put b mem ax)=_;rw[b6];rfl
theorem hF.I5{H H1:ai}{b:eF}{id:Nat}(h:hF H)(e:H.new b=some (id,H1)):hF H1:=by
 obtain⟨_,aZ,cJ,eo,cp,h0⟩:=ai.mb e;refine⟨fun a aK=>?_,fun a aK=>?_,by rw[cJ,eo];exact h.xr,by rw[cJ,eo];exact h.zY,by have:=h.iN;omega⟩
 ·rw[h0];split
  ·exact⟨_,rfl⟩
  ·exact h.here a (by omega)
 ·rw[h0,a3 (by omega)];exact h.gone a (by omega)
theorem hF.upd{H:ai}(h:hF H){a:Nat}(b:eF)(aK:a<H.ax):∃H1,H.upd a b=some H1:=by
 obtain⟨mem,ax,bl,b7,bp⟩:=H;obtain⟨x,U⟩:=h.here a aK;obtain⟨T,b6⟩:=aQ.BD (a:=b) U;refine⟨⟨T,ax,bl,b7,bp⟩,?_⟩;show ai.Rw ax bl b7 bp (aQ.put b mem a)=_;rw[b6];rfl
theorem hF.EQ{H H1:ai}{b:eF}{a:Nat}(h:hF H)(aK:a<H.ax)(e:H.upd a b=some H1):hF H1:=by
 obtain⟨aC,aZ,cJ,eo,cp⟩:=ai.nK e;refine⟨fun x U=>?_,fun x U=>?_,by rw[aZ,cJ];exact h.xr,by rw[aZ,cJ];exact h.zY,by have:=h.iN;omega⟩
 ·rw[cp];split
  ·exact⟨_,rfl⟩
  ·exact h.here x (by omega)
 ·rw[cp,a3 (by omega)];exact h.gone x (by omega)
theorem hF.rS{H:ai}(h:hF H):∃H1,H.rS=some (H.b7,H1):=by
 obtain⟨mem,ax,bl,b7,bp⟩:=H;obtain⟨T,b6⟩:=aQ.yH [ax] bl b7 h.xr;refine⟨⟨mem,ax,T,b7+1,bp⟩,?_⟩;show ai.I3 mem ax b7 bp (aQ.put [ax] bl b7)=_;rw[b6];rfl
theorem hF.aaB{H H1:ai}{f:Nat}(h:hF H)(e:H.rS=some (f,H1)):hF H1:=by
 obtain⟨aC,aZ,cJ,eo,cp,h0⟩:=ai.Ee e;refine⟨by rw[aZ,cJ];exact h.here,by rw[aZ,cJ];exact h.gone,fun x U=>?_,fun x U=>?_,by have:=h.iN;omega⟩
 ·rw[h0];split
  ·exact⟨_,rfl⟩
  ·exact h.xr x (by omega)
 ·rw[h0,a3 (by omega)];exact h.zY x (by omega)
theorem hF.oD{H:ai}(h:hF H){f:Nat}(l:List Nat)(az:f<H.b7):∃H1,H.oD f l=some H1:=by
 obtain⟨mem,ax,bl,b7,bp⟩:=H;obtain⟨x,U⟩:=h.xr f az;obtain⟨T,b6⟩:=aQ.BD (a:=l) U;refine⟨⟨mem,ax,T,b7,bp⟩,?_⟩;show ai.QU mem ax b7 bp (aQ.put l bl f)=_;rw[b6];rfl
theorem hF.JO{H H1:ai}{f:Nat}{l:List Nat}(h:hF H)(az:f<H.b7)(e:H.oD f l=some H1):hF H1:=by
 obtain⟨aC,aZ,cJ,eo,cp⟩:=ai.yO e;refine⟨by rw[aC,aZ];exact h.here,by rw[aC,aZ];exact h.gone,fun x U=>?_,fun x U=>?_,by have:=h.iN;omega⟩
 ·rw[cp];split
  ·exact⟨_,rfl⟩
  ·exact h.xr x (by omega)
 ·rw[cp,a3 (by omega)];exact h.zY x (by omega)
structure dQ where
 ds:List Deferred
 b8:Option Nat
 bB:Bool
 bf:FrameMode
def xi:dQ:=⟨[],none,false,.run⟩
structure b3 where
 n:Nat
 ds:dQ
 l:List (Nat×Value)
def look:List (Nat×Value)->Nat->Option Value
 |[],_=>none
 |(u,v)::l,t=>bif Nat.beq t u then some v else look l t
structure Sat (E:b3) (S:aT):Prop where
 n:S.n=E.n
 ds:S.ds=E.ds.ds
 bB:S.bB=E.ds.bB
 bf:S.bf=E.ds.bf
 b8:S.b8=E.ds.b8
 has:S.T.has E.n
 get:∀t v,look E.l t=some v->S.T.get t=some v
def b3.put (E:b3):Option Tmp->Value->b3
 |none,_=>E
 |some d,v=>⟨E.n,E.ds,(d,v)::E.l⟩
def Mz (n:Nat):Option Tmp->Bool
 |none=>true
 |some d=>Nat.blt d n
theorem Sat.put{E:b3}{S:aT}(h:Sat E S){dst:Option Tmp}(au:Mz E.n dst=true)(v:Value):∃a1,S.put dst v=some a1/\Sat (E.put dst v) a1:=by
 cases dst with
 |none=>exact⟨S,rfl,h⟩
 |some d=>
  obtain⟨T,n,ds,bB,bf,b8⟩:=S;have aw:n=E.n:=h.n;have cD:d<E.n:=by simpa[Mz] using au
  obtain⟨x,U⟩:=h.has d cD;obtain⟨di,b6⟩:=aQ.BD (a:=v) U;refine⟨⟨di,n,ds,bB,bf,b8⟩,?_,h.n,h.ds,h.bB,h.bf,h.b8,fun t aM=>?_,fun t u hu=>?_⟩
  ·show Bool.rec (motive:=fun _=>Option aT) none (aT.pw n ds bB bf b8 (aQ.put v T d)) (Nat.ble (Nat.succ d) n)=_;have ah:Nat.ble (Nat.succ d) n=true:=j3 (by rw[aw];exact cD);rw[ah,b6];rfl
  ·show ∃v,di.get t=some v;rw[aQ.get_put b6];split
   ·exact⟨_,rfl⟩
   ·exact h.has t aM
  ·show di.get t=some u;rw[aQ.get_put b6];have hu:(bif Nat.beq t d then some v else look E.l t)=some u:=hu;by_cases e:t=d
   ·subst e;rw[bg rfl];simpa using hu
   ·rw[a3 e];have ah:Nat.beq t d=false:=by
     cases q:Nat.beq t d
     ·rfl
     ·exact absurd (dX q) e
    rw[ah,da] at hu;exact h.get t u hu
theorem Sat.eH{E:b3}{S:aT}(h:Sat E S){l:List (Nat×Value)}(aA:∀t v,look l t=some v->look E.l t=some v):Sat ⟨E.n,E.ds,l⟩ S:=
 ⟨h.n,h.ds,h.bB,h.bf,h.b8,h.has,fun t v q=>h.get t v (aA t v q)⟩
abbrev an:=Nat->Option (List Value×TypeId)
def an.le(J ae:an):Prop:=∀a x,J a=some x->ae a=some x
theorem an.le.refl(J:an):J.le J:=fun _ _ h=>h
theorem an.le.trans{J bq dR:an}(h:J.le bq)(k:bq.le dR):J.le dR:=fun a x q=>k a x (h a x q)
inductive dh where
 |row (cells:List Value) (e:TypeId)
 |opn (cells:List Value) (e:TypeId) (rest:List Nat) (z:Nat)
 |map (es:List MapEntry) (clock:Nat)
 |loop (r:mm)
 |ft
def dh.at(F:Nat->Prop)(H:ai)(a:Nat):dh->Prop
 |.row cells e=>H.mem.get a=some (.row cells e false 0 0 false)
 |.opn cells e rest z=>∃f,F f/\H.mem.get a=some (.row cells e true f z false)/\H.bl.get f=some (a::rest)
 |.map es clock=>H.mem.get a=some (.map es clock)
 |.loop r=>H.mem.get a=some (.loop r)
 |.ft=>H.mem.get a=some (.ft (some []))
def dh.rest:dh->List Nat
 |.opn _ _ r _=>r
 |_=>[]
def ids:List (Nat×dh)->List Nat
 |[]=>[]
 |(a,b)::m=>a::(b.rest++ids m)
theorem DT:∀(m m':List (Nat×dh)),ids (m++m')=ids m++ids m':=by
 intro m m';induction m with
 |nil=>rfl
 |cons x m aP=>show x.1::(x.2.rest++ids (m++m'))=_;rw[aP];simp[ids]
theorem v5{a:Nat}:∀{m:List (Nat×dh)},a∈ids m↔∃x∈m,a=x.1\/a∈x.2.rest:=by
 intro m;induction m with
 |nil=>simp[ids]
 |cons x m aP=>
  show a∈x.1::(x.2.rest++ids m)↔_;rw[gj,nQ,aP];constructor
  ·rintro(h|h|⟨y,aa,ab⟩)
   ·exact⟨x,.head _,.inl h⟩
   ·exact⟨x,.head _,.inr h⟩
   ·exact⟨y,.tail _ aa,ab⟩
  ·rintro⟨y,aa,ab⟩;rcases gj.1 aa with q|q
   ·subst q;rcases ab with ab|ab
    ·exact .inl ab
    ·exact .inr (.inl ab)
   ·exact .inr (.inr ⟨y,q,ab⟩)
theorem uk{a:Nat}{b:dh}{m:List (Nat×dh)}(h:(a,b)∈m):a∈ids m:=v5.2 ⟨_,h,.inl rfl⟩
theorem Zl{m m':List (Nat×dh)}(h:m'.Sublist m):(ids m').Sublist (ids m):=by
 induction h with
 |slnil=>exact cd _
 |cons x _ aP=>exact .cons _ (aP.trans (w5 _ _))
 |cons_cons x _ aP=>exact .cons_cons _ ((cd _).append aP)
theorem DU{m m':List (Nat×dh)}(h:m.Perm m'):(ids m).Perm (ids m'):=by
 induction h with
 |nil=>exact .nil
 |cons x _ aP=>exact .cons _ (aP.append_left _)
 |swap x y l=>
  show(y.1::(y.2.rest++(x.1::(x.2.rest++ids l)))).Perm (x.1::(x.2.rest++(y.1::(y.2.rest++ids l))));have h:=ng (l₁:=y.1::y.2.rest) (l₂:=x.1::x.2.rest);have:=h.append_right (ids l);simpa using this
 |trans _ _ i1 i2=>exact i1.trans i2
theorem Zk{m:List (Nat×dh)}(h:(ids m).Nodup):(m.map Prod.fst).Nodup:=by
 refine List.Sublist.nodup ?_ h;clear h
 induction m with
 |nil=>exact cd _
 |cons x m aP=>exact .cons_cons _ (aP.trans (w5 _ _))
structure dt where
 X:Nat->Prop
 Y:Nat->Prop
 H0:ai
 uX:an
def dt.tR(B:dt)(f:Nat):Prop:=B.H0.b7<=f\/∃a r c e z s,B.H0.bl.get f=some (a::r)/\B.H0.mem.get a=some (.row c e true f z s)/\B.Y a
theorem dt.VU{B:dt}{f:Nat}(h:¬B.tR f):f<B.H0.b7:=Nat.lt_of_not_le fun q=>h (.inl q)
structure Inv (g0:Nat) (B:dt) (J:an) (m:List (Nat×dh)) (H:ai):Prop where
 wf:hF H
 bp:H.bp=g0
 ax:B.H0.ax<=H.ax
 b7:B.H0.b7<=H.b7
 ff:∀a,a<B.H0.ax->¬B.X a->H.mem.get a=B.H0.mem.get a
 kX:∀f,¬B.tR f->H.bl.get f=B.H0.bl.get f
 dB:∀a c e,J a=some (c,e)->∃o f z s,H.mem.get a=some (.row c e o f z s)
 le:B.uX.le J
 fresh:∀a x,B.uX a=none->J a=some x->B.H0.ax<=a\/B.X a
 own:∀a b,(a,b)∈m->b.at B.tR H a/\(B.H0.ax<=a\/B.X a)/\J a=none/\g0<=a
 opn:∀a b,(a,b)∈m->∀x∈b.rest,x<H.ax/\(B.H0.ax<=x\/B.X x)/\J x=none
 fw:(ids m).Nodup
theorem dh.Tr{F:Nat->Prop}{H:ai}(w:hF H){a:Nat}{b:dh}(h:b.at F H a):a<H.ax:=by
 cases b with
 |row c e=>exact w.lt h
 |opn c e r z=>obtain⟨f,_,h,_⟩:=h;exact w.lt h
 |map es k=>exact w.lt h
 |loop r=>exact w.lt h
 |ft=>exact w.lt h
theorem dh.sm{F:Nat->Prop}{H H1:ai}{a:Nat}{b:dh}(h:b.at F H a)(hm:H1.mem.get a=H.mem.get a)(az:∀f r,H.bl.get f=some (a::r)->H1.bl.get f=some (a::r)):b.at F H1 a:=by
 cases b with
 |row c e=>exact hm.trans h
 |opn c e r z=>obtain⟨f,aX,aa,ab⟩:=h;exact⟨f,aX,hm.trans aa,az _ _ ab⟩
 |map es k=>exact hm.trans h
 |loop r=>exact hm.trans h
 |ft=>exact hm.trans h
section
variable {g0:Nat}{B:dt}{H:ai}{J:an}{m m':List (Nat×dh)}
theorem Inv.lt(h:Inv g0 B J m H){a:Nat}{b:dh}(hm:(a,b)∈m):a<H.ax:=dh.Tr h.wf (h.own a b hm).1
theorem Inv.Z7(h:Inv g0 B J m H){a:Nat}{x:List Value×TypeId}(a5:J a=some x):a<H.ax:=by
 obtain⟨c,e⟩:=x;obtain⟨o,f,z,s,q⟩:=h.dB a c e a5;exact h.wf.lt q
theorem Inv.I6(h:Inv g0 B J m H):J H.ax=none:=by
 cases q:J H.ax with
 |none=>rfl
 |some x=>exact absurd (h.Z7 q) (u3 _)
theorem Inv.D7(h:Inv g0 B J m H){x:Nat}(U:x∈ids m):x<H.ax:=by
 obtain⟨⟨a,b⟩,aa,ab⟩:=v5.1 U;rcases ab with ab|ab
 ·subst ab;exact h.lt aa
 ·exact(h.opn a b aa x ab).1
theorem Inv.P7(h:Inv g0 B J m H){x:Nat}(U:x∈ids m):B.H0.ax<=x\/B.X x:=by
 obtain⟨⟨a,b⟩,aa,ab⟩:=v5.1 U;rcases ab with ab|ab
 ·subst ab;exact(h.own _ b aa).2.1
 ·exact(h.opn a b aa x ab).2.1
theorem Inv.aaJ(h:Inv g0 B J m H){x:Nat}(U:x∈ids m):J x=none:=by
 obtain⟨⟨a,b⟩,aa,ab⟩:=v5.1 U;rcases ab with ab|ab
 ·subst ab;exact(h.own _ b aa).2.2.1
 ·exact(h.opn a b aa x ab).2.2
theorem Inv.GR(h:Inv g0 B J m H):g0<=H.ax:=by have:=h.wf.iN;have:=h.bp;omega
theorem Inv.new(h:Inv g0 B J m H){H1:ai}{b:eF}{p:dh}(aC:H.new b=some (H.ax,H1))(ao:p.at B.tR H1 H.ax)(al:p.rest=[]:=by rfl):Inv g0 B J ((H.ax,p)::m) H1:=by
 obtain⟨_,cY,ee,fa,gV,ef⟩:=ai.mb aC;refine⟨h.wf.I5 aC,gV.trans h.bp,by have:=h.ax;omega,by rw[fa];exact h.b7,fun a aK U=>?_,fun f az=>by rw[ee];exact h.kX f az,fun a c e a5=>?_,h.le,h.fresh,fun a b ah=>?_,fun a b ah x U=>?_,?_⟩
 ·rw[ef,a3 (by have:=h.ax;omega)];exact h.ff a aK U
 ·obtain⟨o,f,z,s,q⟩:=h.dB a c e a5;exact⟨o,f,z,s,by rw[ef,a3 (by have:=h.wf.lt q;omega)];exact q⟩
 ·rcases gj.1 ah with q|q
  ·injection q with aR aN;subst aR;subst aN
   exact⟨ao,.inl h.ax,h.I6,h.GR⟩
  ·obtain⟨a9,a4,bJ,cx⟩:=h.own a b q;exact⟨dh.sm a9 (by rw[ef,a3 (by have:=h.lt q;omega)]) (fun f l az=>by rw[ee];exact az),a4,bJ,cx⟩
 ·rcases gj.1 ah with q|q
  ·injection q with aR aN;subst aR;subst aN;rw[al] at U;cases U
  ·obtain⟨a9,a4,bJ⟩:=h.opn a b q x U;exact⟨by omega,a4,bJ⟩
 ·show(H.ax::(p.rest++ids m)).Nodup;rw[al,sb,pI];exact⟨fun q=>absurd (h.D7 q) (u3 _),h.fw⟩
theorem Inv.alloc(h:Inv g0 B J m H)(cells:List Value)(e:TypeId):
 ∃H1,H.new (.row cells e false 0 0 false)=some (H.ax,H1)/\Inv g0 B J ((H.ax,.row cells e)::m) H1:=by
 obtain⟨H1,aC⟩:=h.wf.new (.row cells e false 0 0 false);obtain⟨_,cY,ee,fa,gV,ef⟩:=ai.mb aC;exact⟨H1,aC,h.new aC (by show H1.mem.get H.ax=_;rw[ef,bg rfl])⟩
theorem Inv.bl(h:Inv g0 B J m H):∃H1,H.rS=some (H.b7,H1)/\Inv g0 B J m H1/\H1.ax=H.ax/\H1.bl.get H.b7=some [H.ax]/\B.H0.b7<=H.b7:=by
 obtain⟨H1,aC⟩:=h.wf.rS;obtain⟨_,cY,ee,fa,gV,ef⟩:=ai.Ee aC;refine⟨H1,aC,⟨h.wf.aaB aC,gV.trans h.bp,by rw[cY];exact h.ax,by have:=h.b7;omega,fun a aK U=>by rw[ee];exact h.ff a aK U,fun f az=>?_,fun a c e a5=>by rw[ee];exact h.dB a c e a5,h.le,h.fresh,fun a b ah=>?_,fun a b ah x U=>by rw[cY];exact h.opn a b ah x U,h.fw⟩,cY,by rw[ef,bg rfl],h.b7⟩
 ·rw[ef,a3 (by have:=h.b7;have:=dt.VU az;omega)];exact h.kX f az
 ·obtain⟨a9,a4,bJ,cx⟩:=h.own a b ah;exact⟨dh.sm a9 (by rw[ee]) (fun f l az=>by rw[ef,a3 (by have:=h.wf.z1 az;omega)];exact az),a4,bJ,cx⟩
theorem Inv.lM(h:Inv g0 B J m H)(cells:List Value)(e:TypeId):
 ∃H1,H.lM cells e false=some (H.ax,H1)/\Inv g0 B J ((H.ax,.opn cells e [] 0)::m) H1:=by
 obtain⟨H1,aC,aa,fy,f1,aaE⟩:=h.bl;obtain⟨bK,aZ⟩:=aa.wf.new (.row cells e true H.b7 0 false);obtain⟨_,cY,ee,fa,gV,ef⟩:=ai.mb aZ;refine⟨bK,?_,?_⟩
 ·unfold ai.lM;rw[aC];simp only;rw[aZ,fy]
 ·have:=aa.new (p:=.opn cells e [] 0) aZ ⟨H.b7,.inl aaE,by rw[ef,bg rfl],by rw[ee,f1,fy]⟩;rwa [fy] at this
inductive dp:List (Nat×dh)->Nat->dh->dh->List (Nat×dh)->Prop
 |head (a:Nat) (b b':dh) (m:List (Nat×dh)):dp ((a,b)::m) a b b' ((a,b')::m)
 |tail (x:Nat×dh) {m m':List (Nat×dh)} {a:Nat} {b b':dh}:dp m a b b' m'->dp (x::m) a b b' (x::m')
theorem dp.mem{m m':List (Nat×dh)}{a:Nat}{b b':dh}(h:dp m a b b' m'):(a,b)∈m:=by
 induction h with
 |head=>exact .head _
 |tail _ _ aP=>exact .tail _ aP
theorem dp.Po{m m':List (Nat×dh)}{a:Nat}{b b':dh}(h:dp m a b b' m')(aw:(m.map Prod.fst).Nodup):∀x c,(x,c)∈m'->(x=a/\c=b')\/(x≠a/\(x,c)∈m):=by
 induction h with
 |head a b b' m=>
  intro x c U;rw[u0,pI] at aw;rcases gj.1 U with q|q
  ·injection q with aR aN;exact .inl ⟨aR,aN⟩
  ·refine .inr ⟨fun e=>aw.1 ?_,.tail _ q⟩;subst e;exact qU.2 ⟨_,q,rfl⟩
 |tail y ao aP=>
  intro x c U;rw[u0,pI] at aw;rcases gj.1 U with q|q
  ·refine .inr ⟨fun e=>aw.1 ?_,by rw[q];exact .head _⟩;have:y.1=x:=by rw[<-q]
   rw[this,e];exact qU.2 ⟨_,ao.mem,rfl⟩
  ·rcases aP aw.2 x c q with r|⟨cX,cM⟩
   ·exact .inl r
   ·exact .inr ⟨cX,.tail _ cM⟩
theorem dp.ids{m m':List (Nat×dh)}{a:Nat}{b b':dh}(h:dp m a b b' m')(al:b'.rest=[]):(ids m').Sublist (ids m):=by
 induction h with
 |head a b b' m=>show(a::(b'.rest++Opn.ids m)).Sublist (a::(b.rest++Opn.ids m));rw[al];exact .cons_cons _ (w5 _ _)
 |tail x _ aP=>exact .cons_cons _ ((cd _).append (aP al))
theorem Inv.upd(h:Inv g0 B J m H){a:Nat}{b p:dh}{c:eF}{H1:ai}(ao:dp m a b p m')(aC:H.upd a c=some H1)(aL:p.at B.tR H1 a)(al:p.rest=[]:=by rfl):Inv g0 B J m' H1:=by
 obtain⟨a9,a4,bJ,cx⟩:=h.own a _ ao.mem;have dz:=Zk h.fw;have cD:=h.lt ao.mem;obtain⟨bI,cY,ee,fa,gV⟩:=ai.nK aC;refine⟨h.wf.EQ cD aC,fa.trans h.bp,by rw[bI];exact h.ax,by rw[ee];exact h.b7,fun x U fl=>?_,fun f az=>by rw[cY];exact h.kX f az,fun x c e a5=>?_,h.le,h.fresh,fun x b ah=>?_,fun x b ah y aF=>?_,(ao.ids al).nodup h.fw⟩
 ·rw[gV,a3 (fun q=>by subst q;rcases a4 with q|q;·omega
                      ·exact fl q)]
  exact h.ff x U fl
 ·obtain⟨o,f,z,s,q⟩:=h.dB x c e a5
  exact⟨o,f,z,s,by rw[gV,a3 (fun r=>by subst r;rw[bJ] at a5;cases a5)];exact q⟩
 ·rcases ao.Po dz x b ah with⟨rfl,rfl⟩|⟨aR,aN⟩
  ·exact⟨aL,a4,bJ,cx⟩
  ·obtain⟨fM,fg,iu,jS⟩:=h.own x b aN
   exact⟨dh.sm fM (by rw[gV,a3 aR]) (fun f l az=>by rw[cY];exact az),fg,iu,jS⟩
 ·rcases ao.Po dz x b ah with⟨rfl,rfl⟩|⟨aR,aN⟩
  ·rw[al] at aF;cases aF
  ·rw[bI];exact h.opn x b aN y aF
theorem Inv.store{a:Nat}{cells cells':List Value}{e:TypeId}(h:Inv g0 B J m H)(ao:dp m a (.row cells e) (.row cells' e) m'):
 ∃H1,H.upd a (.row cells' e false 0 0 false)=some H1/\Inv g0 B J m' H1:=by
 obtain⟨H1,aC⟩:=h.wf.upd (.row cells' e false 0 0 false) (h.lt ao.mem);exact⟨H1,aC,h.upd ao aC (by show H1.mem.get a=_;rw[(ai.nK aC).2.2.2.2,bg rfl])⟩
theorem Inv.sub(h:Inv g0 B J m H)(af:m'.Sublist m):Inv g0 B J m' H:=
 ⟨h.wf,h.bp,h.ax,h.b7,h.ff,h.kX,h.dB,h.le,h.fresh,fun a b q=>h.own a b (af.subset q),fun a b q=>h.opn a b (af.subset q),(Zl af).nodup h.fw⟩
def an.add(J:an)(a:Nat)(x:List Value×TypeId):an:=fun i=>if i=a then some x else J i
theorem an.hH(J:an)(a:Nat)(x:List Value×TypeId):(J.add a x) a=some x:=bg rfl
theorem an.Ta{J:an}{a:Nat}{x:List Value×TypeId}(h:J a=none):J.le (J.add a x):=fun i y q=>by
 unfold an.add;split
 ·rename_i e;subst e;rw[h] at q;cases q
 ·exact q
def dh.rowOf:dh->Option (List Value×TypeId)
 |.row c e=>some (c,e)
 |.opn c e _ _=>some (c,e)
 |.map _ _=>none
 |.loop _=>none
 |.ft=>none
theorem Inv.iW{a:Nat}{b:dh}{x:List Value×TypeId}(h:Inv g0 B J ((a,b)::m) H)(U:b.rowOf=some x):Inv g0 B (J.add a x) m H/\J.le (J.add a x):=by
 obtain⟨a9,a4,bJ,cx⟩:=h.own a b (.head _);have dz:=h.fw;rw[show ids ((a,b)::m)=a::(b.rest++ids m) from rfl,pI,nQ] at dz;have hle:=an.Ta (x:=x) bJ;refine⟨⟨h.wf,h.bp,h.ax,h.b7,h.ff,h.kX,fun i c e a5=>?_,h.le.trans hle,fun i y q aF=>?_,fun i p ao=>?_,fun i p ao y aF=>?_,(w5 _ _).nodup dz.2⟩,hle⟩
 ·unfold an.add at a5;split at a5
  ·rename_i q;subst q;injection a5 with a5;subst a5
   cases b with
   |row bw bk=>injection U with U;injection U with aa ab;subst aa;subst ab;exact⟨_,_,_,_,a9⟩
   |opn bw bk r z=>injection U with U;injection U with aa ab;subst aa;subst ab;obtain⟨f,_,k,_⟩:=a9;exact⟨_,_,_,_,k⟩
   |map es k=>cases U
   |loop r=>cases U
   |ft=>cases U
  ·exact h.dB i c e a5
 ·unfold an.add at aF;split at aF
  ·rename_i e;subst e;exact a4
  ·exact h.fresh i y q aF
 ·obtain⟨fM,fg,iu,jS⟩:=h.own i p (.tail _ ao);refine⟨fM,fg,?_,jS⟩;unfold an.add;rw[a3]
  ·exact iu
  ·intro e;subst e;exact dz.1 (.inr (uk ao))
 ·obtain⟨fM,fg,iu⟩:=h.opn i p (.tail _ ao) y aF;refine⟨fM,fg,?_⟩;unfold an.add;rw[a3]
  ·exact iu
  ·intro e;subst e;exact dz.1 (.inr (v5.2 ⟨_,ao,.inr aF⟩))
end
end
end Go.Opn
