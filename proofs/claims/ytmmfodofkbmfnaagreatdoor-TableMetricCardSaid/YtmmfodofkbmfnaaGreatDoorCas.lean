/- A part of the proof of TableMetric. -/
import Derived.Test.YtmmfodofkbmfnaaGreatDoorCar
set_option linter.unusedVariables false
set_option linter.unusedSimpArgs false
namespace Go.Opn
noncomputable section
open Go.Cre
open Go.RowKit
theorem aL.wV{α:Type}(a:α):∀(T:aL α) (n:Nat),(∀m,m<n->∃v,T.get m=some v)->∃dr,aL.put a T n=some dr:=by
 intro T;induction T with
 |leaf=>
  intro n h;cases n with
  |zero=>exact⟨_,rfl⟩
  |succ n=>obtain⟨v,aD⟩:=h 0 (by omega);cases aD
 |node v l r qW qX=>
  intro n h;cases n with
  |zero=>exact⟨_,rfl⟩
  |succ n=>
   rw[aL.Cw];by_cases aE:n % 2=0
   ·rw[bs aE];obtain⟨l',aw⟩:=qW (n / 2) fun m hm=>by
     obtain⟨v',aD⟩:=h (2*m+1) (by omega);rw[aL.mw,bs (by omega),show 2*m / 2=m by omega] at aD;exact⟨v',aD⟩
    rw[aw];exact⟨_,rfl⟩
   ·rw[a1 aE];obtain⟨cA,ap⟩:=qX (n / 2) fun m hm=>by
     obtain⟨v',aD⟩:=h (2*m+1+1) (by omega);rw[aL.mw,a1 (by omega),show(2*m+1) / 2=m by omega] at aD;exact⟨v',aD⟩
    rw[ap];exact⟨_,rfl⟩
structure gZ (H:ah):Prop where
 here:∀a,a<H.av->∃b,H.mem.get a=some b
 gone:∀a,H.av<=a->H.mem.get a=none
 vC:∀f,f<H.bM->∃l,H.ba.get f=some l
 ye:∀f,H.bM<=f->H.ba.get f=none
 hV:H.bf<=H.av
theorem gZ.lt{H:ah}(h:gZ H){a:Nat}{b:ef}(g:H.mem.get a=some b):a<H.av:=by
 rcases gX a H.av with q|q
 ·exact q
 ·rw[h.gone a q] at g;cases g
theorem gZ.yh{H:ah}(h:gZ H){f:Nat}{l:List Nat}(g:H.ba.get f=some l):f<H.bM:=by
 rcases gX f H.bM with q|q
 ·exact q
 ·rw[h.ye f q] at g;cases g
theorem gZ.new{H:ah}(h:gZ H)(b:ef):∃H1,H.new b=some (H.av,H1):=by
 obtain⟨mem,av,ba,bM,bf⟩:=H;obtain⟨T,cw⟩:=aL.wV b mem av h.here;refine⟨⟨T,av+1,ba,bM,bf⟩,?_⟩;show ah.Gg av ba bM bf (aL.put b mem av)=_;rw[cw];rfl
theorem gZ.Gj{H H1:ah}{b:ef}{id:Nat}(h:gZ H)(e:H.new b=some (id,H1)):gZ H1:=by
 obtain⟨_,aW,cr,dU,b5,hc⟩:=ah.l3 e;refine⟨fun a aK=>?_,fun a aK=>?_,by rw[cr,dU];exact h.vC,by rw[cr,dU];exact h.ye,by have:=h.hV;omega⟩
 ·rw[hc];split
  ·exact⟨_,rfl⟩
  ·exact h.here a (by omega)
 ·rw[hc,a1 (by omega)];exact h.gone a (by omega)
theorem gZ.upd{H:ah}(h:gZ H){a:Nat}(b:ef)(aK:a<H.av):∃H1,H.upd a b=some H1:=by
 obtain⟨mem,av,ba,bM,bf⟩:=H;obtain⟨x,j⟩:=h.here a aK;obtain⟨T,cw⟩:=aL.zP (a:=b) j;refine⟨⟨T,av,ba,bM,bf⟩,?_⟩;show ah.NF av ba bM bf (aL.put b mem a)=_;rw[cw];rfl
theorem gZ.G'{H H1:ah}{b:ef}{a:Nat}(h:gZ H)(aK:a<H.av)(e:H.upd a b=some H1):gZ H1:=by
 obtain⟨aA,aW,cr,dU,b5⟩:=ah.rm e;refine⟨fun x j=>?_,fun x j=>?_,by rw[aW,cr];exact h.vC,by rw[aW,cr];exact h.ye,by have:=h.hV;omega⟩
 ·rw[b5];split
  ·exact⟨_,rfl⟩
  ·exact h.here x (by omega)
 ·rw[b5,a1 (by omega)];exact h.gone x (by omega)
theorem gZ.pL{H:ah}(h:gZ H):∃H1,H.pL=some (H.bM,H1):=by
 obtain⟨mem,av,ba,bM,bf⟩:=H;obtain⟨T,cw⟩:=aL.wV [av] ba bM h.vC;refine⟨⟨mem,av,T,bM+1,bf⟩,?_⟩;show ah.Gh mem av bM bf (aL.put [av] ba bM)=_;rw[cw];rfl
theorem gZ.Wi{H H1:ah}{f:Nat}(h:gZ H)(e:H.pL=some (f,H1)):gZ H1:=by
 obtain⟨aA,aW,cr,dU,b5,hc⟩:=ah.Ce e;refine⟨by rw[aW,cr];exact h.here,by rw[aW,cr];exact h.gone,fun x j=>?_,fun x j=>?_,by have:=h.hV;omega⟩
 ·rw[hc];split
  ·exact⟨_,rfl⟩
  ·exact h.vC x (by omega)
 ·rw[hc,a1 (by omega)];exact h.ye x (by omega)
theorem gZ.mW{H:ah}(h:gZ H){f:Nat}(l:List Nat)(ay:f<H.bM):∃H1,H.mW f l=some H1:=by
 obtain⟨mem,av,ba,bM,bf⟩:=H;obtain⟨x,j⟩:=h.vC f ay;obtain⟨T,cw⟩:=aL.zP (a:=l) j;refine⟨⟨mem,av,T,bM,bf⟩,?_⟩;show ah.M7 mem av bM bf (aL.put l ba f)=_;rw[cw];rfl
theorem gZ.GS{H H1:ah}{f:Nat}{l:List Nat}(h:gZ H)(ay:f<H.bM)(e:H.mW f l=some H1):gZ H1:=by
 obtain⟨aA,aW,cr,dU,b5⟩:=ah.w4 e;refine⟨by rw[aA,aW];exact h.here,by rw[aA,aW];exact h.gone,fun x j=>?_,fun x j=>?_,by have:=h.hV;omega⟩
 ·rw[b5];split
  ·exact⟨_,rfl⟩
  ·exact h.vC x (by omega)
 ·rw[b5,a1 (by omega)];exact h.ye x (by omega)
structure dL where
 ds:List Deferred
 b3:Option Nat
 bu:Bool
 a7:FrameMode
def A3:dL:=⟨[],none,false,.run⟩
structure bK where
 n:Nat
 ds:dL
 l:List (Nat×Value)
def look:List (Nat×Value)->Nat->Option Value
 |[],_=>none
 |(u,v)::l,t=>bif Nat.beq t u then some v else look l t
structure Sat (E:bK) (S:aO):Prop where
 n:S.n=E.n
 ds:S.ds=E.ds.ds
 bu:S.bu=E.ds.bu
 a7:S.a7=E.ds.a7
 b3:S.b3=E.ds.b3
 has:S.T.has E.n
 get:∀t v,look E.l t=some v->S.T.get t=some v
def bK.put (E:bK):Option Tmp->Value->bK
 |none,_=>E
 |some d,v=>⟨E.n,E.ds,(d,v)::E.l⟩
def Jb (n:Nat):Option Tmp->Bool
 |none=>true
 |some d=>Nat.blt d n
theorem Sat.put{E:bK}{S:aO}(h:Sat E S){dst:Option Tmp}(ax:Jb E.n dst=true)(v:Value):∃aY,S.put dst v=some aY/\Sat (E.put dst v) aY:=by
 cases dst with
 |none=>exact⟨S,rfl,h⟩
 |some d=>
  obtain⟨T,n,ds,bu,a7,b3⟩:=S;have aE:n=E.n:=h.n;have cx:d<E.n:=by simpa[Jb] using ax
  obtain⟨x,j⟩:=h.has d cx;obtain⟨dr,cw⟩:=aL.zP (a:=v) j;refine⟨⟨dr,n,ds,bu,a7,b3⟩,?_,h.n,h.ds,h.bu,h.a7,h.b3,fun t aG=>?_,fun t u hu=>?_⟩
  ·show Bool.rec (motive:=fun _=>Option aO) none (aO.oN n ds bu a7 b3 (aL.put v T d)) (Nat.ble (Nat.succ d) n)=_;have af:Nat.ble (Nat.succ d) n=true:=jx (by rw[aE];exact cx);rw[af,cw];rfl
  ·show ∃v,dr.get t=some v;rw[aL.get_put cw];split
   ·exact⟨_,rfl⟩
   ·exact h.has t aG
  ·show dr.get t=some u;rw[aL.get_put cw];have hu:(bif Nat.beq t d then some v else look E.l t)=some u:=hu;by_cases e:t=d
   ·subst e;rw[bs rfl];simpa using hu
   ·rw[a1 e];have af:Nat.beq t d=false:=by
     cases q:Nat.beq t d
     ·rfl
     ·exact absurd (dB q) e
    rw[af,cZ] at hu;exact h.get t u hu
theorem Sat.eZ{E:bK}{S:aO}(h:Sat E S){l:List (Nat×Value)}(aw:∀t v,look l t=some v->look E.l t=some v):Sat ⟨E.n,E.ds,l⟩ S:=
 ⟨h.n,h.ds,h.bu,h.a7,h.b3,h.has,fun t v q=>h.get t v (aw t v q)⟩
abbrev an:=Nat->Option (List Value×TypeId)
def an.le(J ai:an):Prop:=∀a x,J a=some x->ai a=some x
theorem an.le.refl(J:an):J.le J:=fun _ _ h=>h
theorem an.le.trans{J bO eL:an}(h:J.le bO)(k:bO.le eL):J.le eL:=fun a x q=>k a x (h a x q)
inductive db where
 |row (cells:List Value) (e:TypeId)
 |opn (cells:List Value) (e:TypeId) (rest:List Nat) (z:Nat)
 |map (es:List MapEntry) (clock:Nat)
 |loop (r:xi)
 |fN
def db.at(F:Nat->Prop)(H:ah)(a:Nat):db->Prop
 |.row cells e=>H.mem.get a=some (.row cells e false 0 0 false)
 |.opn cells e rest z=>∃f,F f/\H.mem.get a=some (.row cells e true f z false)/\H.ba.get f=some (a::rest)
 |.map es clock=>H.mem.get a=some (.map es clock)
 |.loop r=>H.mem.get a=some (.loop r)
 |.fN=>H.mem.get a=some (.fN (some []))
def db.rest:db->List Nat
 |.opn _ _ r _=>r
 |_=>[]
def ids:List (Nat×db)->List Nat
 |[]=>[]
 |(a,b)::m=>a::(b.rest++ids m)
theorem BT:∀(m m':List (Nat×db)),ids (m++m')=ids m++ids m':=by
 intro m m';induction m with
 |nil=>rfl
 |cons x m aN=>show x.1::(x.2.rest++ids (m++m'))=_;rw[aN];simp[ids]
theorem uo{a:Nat}:∀{m:List (Nat×db)},a∈ids m↔∃x∈m,a=x.1\/a∈x.2.rest:=by
 intro m;induction m with
 |nil=>simp[ids]
 |cons x m aN=>
  show a∈x.1::(x.2.rest++ids m)↔_;rw[fy,m3,aN];constructor
  ·rintro(h|h|⟨y,U,ab⟩)
   ·exact⟨x,.head _,.inl h⟩
   ·exact⟨x,.head _,.inr h⟩
   ·exact⟨y,.tail _ U,ab⟩
  ·rintro⟨y,U,ab⟩;rcases fy.1 U with q|q
   ·subst q;rcases ab with ab|ab
    ·exact .inl ab
    ·exact .inr (.inl ab)
   ·exact .inr (.inr ⟨y,q,ab⟩)
theorem um{a:Nat}{b:db}{m:List (Nat×db)}(h:(a,b)∈m):a∈ids m:=uo.2 ⟨_,h,.inl rfl⟩
theorem U1{m m':List (Nat×db)}(h:m'.Sublist m):(ids m').Sublist (ids m):=by
 induction h with
 |slnil=>exact cl _
 |cons x _ aN=>exact .cons _ (aN.trans (xz _ _))
 |cons_cons x _ aN=>exact .cons_cons _ ((cl _).append aN)
theorem BU{m m':List (Nat×db)}(h:m.Perm m'):(ids m).Perm (ids m'):=by
 induction h with
 |nil=>exact .nil
 |cons x _ aN=>exact .cons _ (aN.append_left _)
 |swap x y l=>
  show(y.1::(y.2.rest++(x.1::(x.2.rest++ids l)))).Perm (x.1::(x.2.rest++(y.1::(y.2.rest++ids l))));have h:=HY (l₁:=y.1::y.2.rest) (l₂:=x.1::x.2.rest);have:=h.append_right (ids l);simpa using this
 |trans _ _ i1 i2=>exact i1.trans i2
theorem U0{m:List (Nat×db)}(h:(ids m).Nodup):(m.map Prod.fst).Nodup:=by
 refine List.Sublist.nodup ?_ h;clear h
 induction m with
 |nil=>exact cl _
 |cons x m aN=>exact .cons_cons _ (aN.trans (xz _ _))
structure c6 where
 X:Nat->Prop
 Y:Nat->Prop
 H0:ah
 s4:an
def c6.r1(B:c6)(f:Nat):Prop:=B.H0.bM<=f\/∃a r c e z s,B.H0.ba.get f=some (a::r)/\B.H0.mem.get a=some (.row c e true f z s)/\B.Y a
theorem c6.R1{B:c6}{f:Nat}(h:¬B.r1 f):f<B.H0.bM:=Nat.lt_of_not_le fun q=>h (.inl q)
structure Inv (g0:Nat) (B:c6) (J:an) (m:List (Nat×db)) (H:ah):Prop where
 wf:gZ H
 bf:H.bf=g0
 av:B.H0.av<=H.av
 bM:B.H0.bM<=H.bM
 eN:∀a,a<B.H0.av->¬B.X a->H.mem.get a=B.H0.mem.get a
 j':∀f,¬B.r1 f->H.ba.get f=B.H0.ba.get f
 dv:∀a c e,J a=some (c,e)->∃o f z s,H.mem.get a=some (.row c e o f z s)
 le:B.s4.le J
 fresh:∀a x,B.s4 a=none->J a=some x->B.H0.av<=a\/B.X a
 own:∀a b,(a,b)∈m->b.at B.r1 H a/\(B.H0.av<=a\/B.X a)/\J a=none/\g0<=a
 opn:∀a b,(a,b)∈m->∀x∈b.rest,x<H.av/\(B.H0.av<=x\/B.X x)/\J x=none
 eY:(ids m).Nodup
theorem db.Pu{F:Nat->Prop}{H:ah}(w:gZ H){a:Nat}{b:db}(h:b.at F H a):a<H.av:=by
 cases b with
 |row c e=>exact w.lt h
 |opn c e r z=>obtain⟨f,_,h,_⟩:=h;exact w.lt h
 |map es k=>exact w.lt h
 |loop r=>exact w.lt h
 |fN=>exact w.lt h
theorem db.rQ{F:Nat->Prop}{H H1:ah}{a:Nat}{b:db}(h:b.at F H a)(hm:H1.mem.get a=H.mem.get a)(ay:∀f r,H.ba.get f=some (a::r)->H1.ba.get f=some (a::r)):b.at F H1 a:=by
 cases b with
 |row c e=>exact hm.trans h
 |opn c e r z=>obtain⟨f,a2,U,ab⟩:=h;exact⟨f,a2,hm.trans U,ay _ _ ab⟩
 |map es k=>exact hm.trans h
 |loop r=>exact hm.trans h
 |fN=>exact hm.trans h
section
variable {g0:Nat}{B:c6}{H:ah}{J:an}{m m':List (Nat×db)}
theorem Inv.lt(h:Inv g0 B J m H){a:Nat}{b:db}(hm:(a,b)∈m):a<H.av:=db.Pu h.wf (h.own a b hm).1
theorem Inv.VN(h:Inv g0 B J m H){a:Nat}{x:List Value×TypeId}(aX:J a=some x):a<H.av:=by
 obtain⟨c,e⟩:=x;obtain⟨o,f,z,s,q⟩:=h.dv a c e aX;exact h.wf.lt q
theorem Inv.Gk(h:Inv g0 B J m H):J H.av=none:=by
 cases q:J H.av with
 |none=>rfl
 |some x=>exact absurd (h.VN q) (tg _)
theorem Inv.B6(h:Inv g0 B J m H){x:Nat}(j:x∈ids m):x<H.av:=by
 obtain⟨⟨a,b⟩,U,ab⟩:=uo.1 j;rcases ab with ab|ab
 ·subst ab;exact h.lt U
 ·exact(h.opn a b U x ab).1
theorem Inv.Mu(h:Inv g0 B J m H){x:Nat}(j:x∈ids m):B.H0.av<=x\/B.X x:=by
 obtain⟨⟨a,b⟩,U,ab⟩:=uo.1 j;rcases ab with ab|ab
 ·subst ab;exact(h.own _ b U).2.1
 ·exact(h.opn a b U x ab).2.1
theorem Inv.Wq(h:Inv g0 B J m H){x:Nat}(j:x∈ids m):J x=none:=by
 obtain⟨⟨a,b⟩,U,ab⟩:=uo.1 j;rcases ab with ab|ab
 ·subst ab;exact(h.own _ b U).2.2.1
 ·exact(h.opn a b U x ab).2.2
theorem Inv.El(h:Inv g0 B J m H):g0<=H.av:=by have:=h.wf.hV;have:=h.bf;omega
theorem Inv.new(h:Inv g0 B J m H){H1:ah}{b:ef}{p:db}(aA:H.new b=some (H.av,H1))(ao:p.at B.r1 H1 H.av)(ap:p.rest=[]:=by rfl):Inv g0 B J ((H.av,p)::m) H1:=by
 obtain⟨_,dn,ep,fp,hi,ed⟩:=ah.l3 aA;refine⟨h.wf.Gj aA,hi.trans h.bf,by have:=h.av;omega,by rw[fp];exact h.bM,fun a aK j=>?_,fun f ay=>by rw[ep];exact h.j' f ay,fun a c e aX=>?_,h.le,h.fresh,fun a b af=>?_,fun a b af x j=>?_,?_⟩
 ·rw[ed,a1 (by have:=h.av;omega)];exact h.eN a aK j
 ·obtain⟨o,f,z,s,q⟩:=h.dv a c e aX;exact⟨o,f,z,s,by rw[ed,a1 (by have:=h.wf.lt q;omega)];exact q⟩
 ·rcases fy.1 af with q|q
  ·injection q with aQ aP;subst aQ;subst aP
   exact⟨ao,.inl h.av,h.Gk,h.El⟩
  ·obtain⟨a8,a5,bI,cL⟩:=h.own a b q;exact⟨db.rQ a8 (by rw[ed,a1 (by have:=h.lt q;omega)]) (fun f l ay=>by rw[ep];exact ay),a5,bI,cL⟩
 ·rcases fy.1 af with q|q
  ·injection q with aQ aP;subst aQ;subst aP;rw[ap] at j;cases j
  ·obtain⟨a8,a5,bI⟩:=h.opn a b q x j;exact⟨by omega,a5,bI⟩
 ·show(H.av::(p.rest++ids m)).Nodup;rw[ap,rD,qb];exact⟨fun q=>absurd (h.B6 q) (tg _),h.eY⟩
theorem Inv.alloc(h:Inv g0 B J m H)(cells:List Value)(e:TypeId):
 ∃H1,H.new (.row cells e false 0 0 false)=some (H.av,H1)/\Inv g0 B J ((H.av,.row cells e)::m) H1:=by
 obtain⟨H1,aA⟩:=h.wf.new (.row cells e false 0 0 false);obtain⟨_,dn,ep,fp,hi,ed⟩:=ah.l3 aA;exact⟨H1,aA,h.new aA (by show H1.mem.get H.av=_;rw[ed,bs rfl])⟩
theorem Inv.ba(h:Inv g0 B J m H):∃H1,H.pL=some (H.bM,H1)/\Inv g0 B J m H1/\H1.av=H.av/\H1.ba.get H.bM=some [H.av]/\B.H0.bM<=H.bM:=by
 obtain⟨H1,aA⟩:=h.wf.pL;obtain⟨_,dn,ep,fp,hi,ed⟩:=ah.Ce aA;refine⟨H1,aA,⟨h.wf.Wi aA,hi.trans h.bf,by rw[dn];exact h.av,by have:=h.bM;omega,fun a aK j=>by rw[ep];exact h.eN a aK j,fun f ay=>?_,fun a c e aX=>by rw[ep];exact h.dv a c e aX,h.le,h.fresh,fun a b af=>?_,fun a b af x j=>by rw[dn];exact h.opn a b af x j,h.eY⟩,dn,by rw[ed,bs rfl],h.bM⟩
 ·rw[ed,a1 (by have:=h.bM;have:=c6.R1 ay;omega)];exact h.j' f ay
 ·obtain⟨a8,a5,bI,cL⟩:=h.own a b af;exact⟨db.rQ a8 (by rw[ep]) (fun f l ay=>by rw[ed,a1 (by have:=h.wf.yh ay;omega)];exact ay),a5,bI,cL⟩
theorem Inv.kt(h:Inv g0 B J m H)(cells:List Value)(e:TypeId):
 ∃H1,H.kt cells e false=some (H.av,H1)/\Inv g0 B J ((H.av,.opn cells e [] 0)::m) H1:=by
 obtain⟨H1,aA,U,fa,f1,Wl⟩:=h.ba;obtain⟨bG,aW⟩:=U.wf.new (.row cells e true H.bM 0 false);obtain⟨_,dn,ep,fp,hi,ed⟩:=ah.l3 aW;refine⟨bG,?_,?_⟩
 ·unfold ah.kt;rw[aA];simp only;rw[aW,fa]
 ·have:=U.new (p:=.opn cells e [] 0) aW ⟨H.bM,.inl Wl,by rw[ed,bs rfl],by rw[ep,f1,fa]⟩;rwa [fa] at this
inductive e6:List (Nat×db)->Nat->db->db->List (Nat×db)->Prop
 |head (a:Nat) (b b':db) (m:List (Nat×db)):e6 ((a,b)::m) a b b' ((a,b')::m)
 |tail (x:Nat×db) {m m':List (Nat×db)} {a:Nat} {b b':db}:e6 m a b b' m'->e6 (x::m) a b b' (x::m')
theorem e6.mem{m m':List (Nat×db)}{a:Nat}{b b':db}(h:e6 m a b b' m'):(a,b)∈m:=by
 induction h with
 |head=>exact .head _
 |tail _ _ aN=>exact .tail _ aN
theorem e6.LM{m m':List (Nat×db)}{a:Nat}{b b':db}(h:e6 m a b b' m')(aE:(m.map Prod.fst).Nodup):∀x c,(x,c)∈m'->(x=a/\c=b')\/(x≠a/\(x,c)∈m):=by
 induction h with
 |head a b b' m=>
  intro x c j;rw[s9,qb] at aE;rcases fy.1 j with q|q
  ·injection q with aQ aP;exact .inl ⟨aQ,aP⟩
  ·refine .inr ⟨fun e=>aE.1 ?_,.tail _ q⟩;subst e;exact s'.2 ⟨_,q,rfl⟩
 |tail y ao aN=>
  intro x c j;rw[s9,qb] at aE;rcases fy.1 j with q|q
  ·refine .inr ⟨fun e=>aE.1 ?_,by rw[q];exact .head _⟩;have:y.1=x:=by rw[<-q]
   rw[this,e];exact s'.2 ⟨_,ao.mem,rfl⟩
  ·rcases aN aE.2 x c q with r|⟨cJ,cW⟩
   ·exact .inl r
   ·exact .inr ⟨cJ,.tail _ cW⟩
theorem e6.ids{m m':List (Nat×db)}{a:Nat}{b b':db}(h:e6 m a b b' m')(ap:b'.rest=[]):(ids m').Sublist (ids m):=by
 induction h with
 |head a b b' m=>show(a::(b'.rest++Opn.ids m)).Sublist (a::(b.rest++Opn.ids m));rw[ap];exact .cons_cons _ (xz _ _)
 |tail x _ aN=>exact .cons_cons _ ((cl _).append (aN ap))
theorem Inv.upd(h:Inv g0 B J m H){a:Nat}{b p:db}{c:ef}{H1:ah}(ao:e6 m a b p m')(aA:H.upd a c=some H1)(aF:p.at B.r1 H1 a)(ap:p.rest=[]:=by rfl):Inv g0 B J m' H1:=by
 obtain⟨a8,a5,bI,cL⟩:=h.own a _ ao.mem;have dk:=U0 h.eY;have cx:=h.lt ao.mem;obtain⟨cV,dn,ep,fp,hi⟩:=ah.rm aA;refine⟨h.wf.G' cx aA,fp.trans h.bf,by rw[cV];exact h.av,by rw[ep];exact h.bM,fun x j fA=>?_,fun f ay=>by rw[dn];exact h.j' f ay,fun x c e aX=>?_,h.le,h.fresh,fun x b af=>?_,fun x b af y aC=>?_,(ao.ids ap).nodup h.eY⟩
 ·rw[hi,a1 (fun q=>by subst q;rcases a5 with q|q;·omega
                      ·exact fA q)]
  exact h.eN x j fA
 ·obtain⟨o,f,z,s,q⟩:=h.dv x c e aX
  exact⟨o,f,z,s,by rw[hi,a1 (fun r=>by subst r;rw[bI] at aX;cases aX)];exact q⟩
 ·rcases ao.LM dk x b af with⟨rfl,rfl⟩|⟨aQ,aP⟩
  ·exact⟨aF,a5,bI,cL⟩
  ·obtain⟨eJ,ei,iu,ka⟩:=h.own x b aP
   exact⟨db.rQ eJ (by rw[hi,a1 aQ]) (fun f l ay=>by rw[dn];exact ay),ei,iu,ka⟩
 ·rcases ao.LM dk x b af with⟨rfl,rfl⟩|⟨aQ,aP⟩
  ·rw[ap] at aC;cases aC
  ·rw[cV];exact h.opn x b aP y aC
theorem Inv.store{a:Nat}{cells cells':List Value}{e:TypeId}(h:Inv g0 B J m H)(ao:e6 m a (.row cells e) (.row cells' e) m'):
 ∃H1,H.upd a (.row cells' e false 0 0 false)=some H1/\Inv g0 B J m' H1:=by
 obtain⟨H1,aA⟩:=h.wf.upd (.row cells' e false 0 0 false) (h.lt ao.mem);exact⟨H1,aA,h.upd ao aA (by show H1.mem.get a=_;rw[(ah.rm aA).2.2.2.2,bs rfl])⟩
theorem Inv.sub(h:Inv g0 B J m H)(ag:m'.Sublist m):Inv g0 B J m' H:=
 ⟨h.wf,h.bf,h.av,h.bM,h.eN,h.j',h.dv,h.le,h.fresh,fun a b q=>h.own a b (ag.subset q),fun a b q=>h.opn a b (ag.subset q),(U1 ag).nodup h.eY⟩
def an.add(J:an)(a:Nat)(x:List Value×TypeId):an:=fun i=>if i=a then some x else J i
theorem an.h6(J:an)(a:Nat)(x:List Value×TypeId):(J.add a x) a=some x:=bs rfl
theorem an.Pf{J:an}{a:Nat}{x:List Value×TypeId}(h:J a=none):J.le (J.add a x):=fun i y q=>by
 unfold an.add;split
 ·rename_i e;subst e;rw[h] at q;cases q
 ·exact q
def db.rowOf:db->Option (List Value×TypeId)
 |.row c e=>some (c,e)
 |.opn c e _ _=>some (c,e)
 |.map _ _=>none
 |.loop _=>none
 |.fN=>none
theorem Inv.ju{a:Nat}{b:db}{x:List Value×TypeId}(h:Inv g0 B J ((a,b)::m) H)(j:b.rowOf=some x):Inv g0 B (J.add a x) m H/\J.le (J.add a x):=by
 obtain⟨a8,a5,bI,cL⟩:=h.own a b (.head _);have dk:=h.eY;rw[show ids ((a,b)::m)=a::(b.rest++ids m) from rfl,qb,m3] at dk;have hle:=an.Pf (x:=x) bI;refine⟨⟨h.wf,h.bf,h.av,h.bM,h.eN,h.j',fun i c e aX=>?_,h.le.trans hle,fun i y q aC=>?_,fun i p ao=>?_,fun i p ao y aC=>?_,(xz _ _).nodup dk.2⟩,hle⟩
 ·unfold an.add at aX;split at aX
  ·rename_i q;subst q;injection aX with aX;subst aX
   cases b with
   |row bo bl=>injection j with j;injection j with U ab;subst U;subst ab;exact⟨_,_,_,_,a8⟩
   |opn bo bl r z=>injection j with j;injection j with U ab;subst U;subst ab;obtain⟨f,_,k,_⟩:=a8;exact⟨_,_,_,_,k⟩
   |map es k=>cases j
   |loop r=>cases j
   |fN=>cases j
  ·exact h.dv i c e aX
 ·unfold an.add at aC;split at aC
  ·rename_i e;subst e;exact a5
  ·exact h.fresh i y q aC
 ·obtain⟨eJ,ei,iu,ka⟩:=h.own i p (.tail _ ao);refine⟨eJ,ei,?_,ka⟩;unfold an.add;rw[a1]
  ·exact iu
  ·intro e;subst e;exact dk.1 (.inr (um ao))
 ·obtain⟨eJ,ei,iu⟩:=h.opn i p (.tail _ ao) y aC;refine⟨eJ,ei,?_⟩;unfold an.add;rw[a1]
  ·exact iu
  ·intro e;subst e;exact dk.1 (.inr (uo.2 ⟨_,ao,.inr aC⟩))
end
end
end Go.Opn
