/- A part of the proof of ResumeBack. -/
import Derived.Test.YtiemfjdacfioeaaGreatDoorCan
set_option linter.unusedVariables false
set_option linter.unusedSimpArgs false
namespace Go.Opn
noncomputable section
open Go.Cre
open Go.RowKit
theorem bg.EP{α:Type}(a:α):∀(T:bg α) (n:Nat),(∀m,m<n->∃v,T.get m=some v)->∃eS,bg.put a T n=some eS:=by
 intro T;induction T with
 |leaf=>
  intro n h;cases n with
  |zero=>exact⟨_,rfl⟩
  |succ n=>obtain⟨v,az⟩:=h 0 (by omega);cases az
 |node v l r xK xL=>
  intro n h;cases n with
  |zero=>exact⟨_,rfl⟩
  |succ n=>
   rw[bg.LJ];by_cases aP:n % 2=0
   ·rw[aE aP];obtain⟨l',av⟩:=xK (n / 2) fun m hm=>by
     obtain⟨v',az⟩:=h (2*m+1) (by omega);rw[bg.ra,aE (by omega),show 2*m / 2=m by omega] at az;exact⟨v',az⟩
    rw[av];exact⟨_,rfl⟩
   ·rw[ap aP];obtain⟨dw,ay⟩:=xL (n / 2) fun m hm=>by
     obtain⟨v',az⟩:=h (2*m+1+1) (by omega);rw[bg.ra,ap (by omega),show(2*m+1) / 2=m by omega] at az;exact⟨v',az⟩
    rw[ay];exact⟨_,rfl⟩
structure jc (H:aB):Prop where
 here:∀a,a<H.ak->∃b,H.mem.get a=some b
 gone:∀a,H.ak<=a->H.mem.get a=none
 DC:∀f,f<H.ct->∃l,H.bM.get f=some l
 GA:∀f,H.ct<=f->H.bM.get f=none
 kM:H.bZ<=H.ak
theorem jc.lt{H:aB}(h:jc H){a:Nat}{b:ff}(g:H.mem.get a=some b):a<H.ak:=by
 rcases kY a H.ak with q|q
 ·exact q
 ·rw[h.gone a q] at g;cases g
theorem jc.GF{H:aB}(h:jc H){f:Nat}{l:List Nat}(g:H.bM.get f=some l):f<H.ct:=by
 rcases kY f H.ct with q|q
 ·exact q
 ·rw[h.GA f q] at g;cases g
theorem jc.new{H:aB}(h:jc H)(b:ff):∃H1,H.new b=some (H.ak,H1):=by
 obtain⟨mem,ak,bM,ct,bZ⟩:=H;obtain⟨T,dy⟩:=bg.EP b mem ak h.here;refine⟨⟨T,ak+1,bM,ct,bZ⟩,?_⟩;show aB.Qp ak bM ct bZ (bg.put b mem ak)=_;rw[dy];rfl
theorem jc.Qs{H H1:aB}{b:ff}{id:Nat}(h:jc H)(e:H.new b=some (id,H1)):jc H1:=by
 obtain⟨_,bn,cP,eW,cv,im⟩:=aB.qz e;refine⟨fun a a'=>?_,fun a a'=>?_,by rw[cP,eW];exact h.DC,by rw[cP,eW];exact h.GA,by have:=h.kM;omega⟩
 ·rw[im];split
  ·exact⟨_,rfl⟩
  ·exact h.here a (by omega)
 ·rw[im,ap (by omega)];exact h.gone a (by omega)
theorem jc.upd{H:aB}(h:jc H){a:Nat}(b:ff)(a':a<H.ak):∃H1,H.upd a b=some H1:=by
 obtain⟨mem,ak,bM,ct,bZ⟩:=H;obtain⟨x,U⟩:=h.here a a';obtain⟨T,dy⟩:=bg.ID (a:=b) U;refine⟨⟨T,ak,bM,ct,bZ⟩,?_⟩;show aB.ZB ak bM ct bZ (bg.put b mem a)=_;rw[dy];rfl
theorem jc.Rv{H H1:aB}{b:ff}{a:Nat}(h:jc H)(a':a<H.ak)(e:H.upd a b=some H1):jc H1:=by
 obtain⟨aN,bn,cP,eW,cv⟩:=aB.x9 e;refine⟨fun x U=>?_,fun x U=>?_,by rw[bn,cP];exact h.DC,by rw[bn,cP];exact h.GA,by have:=h.kM;omega⟩
 ·rw[cv];split
  ·exact⟨_,rfl⟩
  ·exact h.here x (by omega)
 ·rw[cv,ap (by omega)];exact h.gone x (by omega)
theorem jc.vU{H:aB}(h:jc H):∃H1,H.vU=some (H.ct,H1):=by
 obtain⟨mem,ak,bM,ct,bZ⟩:=H;obtain⟨T,dy⟩:=bg.EP [ak] bM ct h.DC;refine⟨⟨mem,ak,T,ct+1,bZ⟩,?_⟩;show aB.Qq mem ak ct bZ (bg.put [ak] bM ct)=_;rw[dy];rfl
theorem jc.akO{H H1:aB}{f:Nat}(h:jc H)(e:H.vU=some (f,H1)):jc H1:=by
 obtain⟨aN,bn,cP,eW,cv,im⟩:=aB.Lj e;refine⟨by rw[bn,cP];exact h.here,by rw[bn,cP];exact h.gone,fun x U=>?_,fun x U=>?_,by have:=h.kM;omega⟩
 ·rw[im];split
  ·exact⟨_,rfl⟩
  ·exact h.DC x (by omega)
 ·rw[im,ap (by omega)];exact h.GA x (by omega)
theorem jc.rS{H:aB}(h:jc H){f:Nat}(l:List Nat)(aC:f<H.ct):∃H1,H.rS f l=some H1:=by
 obtain⟨mem,ak,bM,ct,bZ⟩:=H;obtain⟨x,U⟩:=h.DC f aC;obtain⟨T,dy⟩:=bg.ID (a:=l) U;refine⟨⟨mem,ak,T,ct,bZ⟩,?_⟩;show aB.YU mem ak ct bZ (bg.put l bM f)=_;rw[dy];rfl
theorem jc.Q9{H H1:aB}{f:Nat}{l:List Nat}(h:jc H)(aC:f<H.ct)(e:H.rS f l=some H1):jc H1:=by
 obtain⟨aN,bn,cP,eW,cv⟩:=aB.EX e;refine⟨by rw[aN,bn];exact h.here,by rw[aN,bn];exact h.gone,fun x U=>?_,fun x U=>?_,by have:=h.kM;omega⟩
 ·rw[cv];split
  ·exact⟨_,rfl⟩
  ·exact h.DC x (by omega)
 ·rw[cv,ap (by omega)];exact h.GA x (by omega)
structure e7 where
 ds:List Deferred
 cJ:Option Nat
 b2:Bool
 bJ:FrameMode
def J2:e7:=⟨[],none,false,.run⟩
structure cn where
 n:Nat
 ds:e7
 l:List (Nat×Value)
def look:List (Nat×Value)->Nat->Option Value
 |[],_=>none
 |(u,v)::l,t=>bif Nat.beq t u then some v else look l t
structure Sat (E:cn) (S:bi):Prop where
 n:S.n=E.n
 ds:S.ds=E.ds.ds
 b2:S.b2=E.ds.b2
 bJ:S.bJ=E.ds.bJ
 cJ:S.cJ=E.ds.cJ
 has:S.T.has E.n
 get:∀t v,look E.l t=some v->S.T.get t=some v
def cn.put (E:cn):Option Tmp->Value->cn
 |none,_=>E
 |some d,v=>⟨E.n,E.ds,(d,v)::E.l⟩
def T6 (n:Nat):Option Tmp->Bool
 |none=>true
 |some d=>Nat.blt d n
theorem Sat.put{E:cn}{S:bi}(h:Sat E S){dst:Option Tmp}(aZ:T6 E.n dst=true)(v:Value):∃bq,S.put dst v=some bq/\Sat (E.put dst v) bq:=by
 cases dst with
 |none=>exact⟨S,rfl,h⟩
 |some d=>
  obtain⟨T,n,ds,b2,bJ,cJ⟩:=S;have aP:n=E.n:=h.n;have c4:d<E.n:=by simpa[T6] using aZ
  obtain⟨x,U⟩:=h.has d c4;obtain⟨eS,dy⟩:=bg.ID (a:=v) U;refine⟨⟨eS,n,ds,b2,bJ,cJ⟩,?_,h.n,h.ds,h.b2,h.bJ,h.cJ,fun t aD=>?_,fun t u hu=>?_⟩
  ·show Bool.rec (motive:=fun _=>Option bi) none (bi.uA n ds b2 bJ cJ (bg.put v T d)) (Nat.ble (Nat.succ d) n)=_;have au:Nat.ble (Nat.succ d) n=true:=lr (by rw[aP];exact c4);rw[au,dy];rfl
  ·show ∃v,eS.get t=some v;rw[bg.get_put dy];split
   ·exact⟨_,rfl⟩
   ·exact h.has t aD
  ·show eS.get t=some u;rw[bg.get_put dy];have hu:(bif Nat.beq t d then some v else look E.l t)=some u:=hu;by_cases e:t=d
   ·subst e;rw[aE rfl];simpa using hu
   ·rw[ap e];have au:Nat.beq t d=false:=by
     cases q:Nat.beq t d
     ·rfl
     ·exact absurd (eN q) e
    rw[au,dZ] at hu;exact h.get t u hu
theorem Sat.c2{E:cn}{S:bi}(h:Sat E S){l:List (Nat×Value)}(av:∀t v,look l t=some v->look E.l t=some v):Sat ⟨E.n,E.ds,l⟩ S:=
 ⟨h.n,h.ds,h.b2,h.bJ,h.cJ,h.has,fun t v q=>h.get t v (av t v q)⟩
abbrev aI:=Nat->Option (List Value×TypeId)
def aI.le(J ag:aI):Prop:=∀a x,J a=some x->ag a=some x
theorem aI.le.refl(J:aI):J.le J:=fun _ _ h=>h
theorem aI.le.trans{J dQ eZ:aI}(h:J.le dQ)(k:dQ.le eZ):J.le eZ:=fun a x q=>k a x (h a x q)
inductive cK where
 |row (cells:List Value) (e:TypeId)
 |opn (cells:List Value) (e:TypeId) (rest:List Nat) (z:Nat)
 |map (es:List MapEntry) (clock:Nat)
 |loop (r:RO)
 |iT
def cK.at(F:Nat->Prop)(H:aB)(a:Nat):cK->Prop
 |.row cells e=>H.mem.get a=some (.row cells e false 0 0 false)
 |.opn cells e rest z=>∃f,F f/\H.mem.get a=some (.row cells e true f z false)/\H.bM.get f=some (a::rest)
 |.map es clock=>H.mem.get a=some (.map es clock)
 |.loop r=>H.mem.get a=some (.loop r)
 |.iT=>H.mem.get a=some (.iT (some []))
def cK.rest:cK->List Nat
 |.opn _ _ r _=>r
 |_=>[]
def ids:List (Nat×cK)->List Nat
 |[]=>[]
 |(a,b)::m=>a::(b.rest++ids m)
theorem K0:∀(m m':List (Nat×cK)),ids (m++m')=ids m++ids m':=by
 intro m m';induction m with
 |nil=>rfl
 |cons x m aK=>show x.1::(x.2.rest++ids (m++m'))=_;rw[aK];simp[ids]
theorem BH{a:Nat}:∀{m:List (Nat×cK)},a∈ids m↔∃x∈m,a=x.1\/a∈x.2.rest:=by
 intro m;induction m with
 |nil=>simp[ids]
 |cons x m aK=>
  show a∈x.1::(x.2.rest++ids m)↔_;rw[fg,kX,aK];constructor
  ·rintro(h|h|⟨y,aa,ae⟩)
   ·exact⟨x,.head _,.inl h⟩
   ·exact⟨x,.head _,.inr h⟩
   ·exact⟨y,.tail _ aa,ae⟩
  ·rintro⟨y,aa,ae⟩;rcases fg.1 aa with q|q
   ·subst q;rcases ae with ae|ae
    ·exact .inl ae
    ·exact .inr (.inl ae)
   ·exact .inr (.inr ⟨y,q,ae⟩)
theorem BG{a:Nat}{b:cK}{m:List (Nat×cK)}(h:(a,b)∈m):a∈ids m:=BH.2 ⟨_,h,.inl rfl⟩
theorem ajF{m m':List (Nat×cK)}(h:m'.Sublist m):(ids m').Sublist (ids m):=by
 induction h with
 |slnil=>exact bA _
 |cons x _ aK=>exact .cons _ (aK.trans (Js _ _))
 |cons_cons x _ aK=>exact .cons_cons _ ((bA _).append aK)
theorem K1{m m':List (Nat×cK)}(h:m.Perm m'):(ids m).Perm (ids m'):=by
 induction h with
 |nil=>exact .nil
 |cons x _ aK=>exact .cons _ (aK.append_left _)
 |swap x y l=>
  show(y.1::(y.2.rest++(x.1::(x.2.rest++ids l)))).Perm (x.1::(x.2.rest++(y.1::(y.2.rest++ids l))));have h:=hR (l₁:=y.1::y.2.rest) (l₂:=x.1::x.2.rest);have:=h.append_right (ids l);simpa using this
 |trans _ _ i1 i2=>exact i1.trans i2
theorem ajE{m:List (Nat×cK)}(h:(ids m).Nodup):(m.map Prod.fst).Nodup:=by
 refine List.Sublist.nodup ?_ h;clear h
 induction m with
 |nil=>exact bA _
 |cons x m aK=>exact .cons_cons _ (aK.trans (Js _ _))
structure ea where
 X:Nat->Prop
 Y:Nat->Prop
 H0:aB
 R9:aI
def ea.y2(B:ea)(f:Nat):Prop:=B.H0.ct<=f\/∃a r c e z s,B.H0.bM.get f=some (a::r)/\B.H0.mem.get a=some (.row c e true f z s)/\B.Y a
theorem ea.aeL{B:ea}{f:Nat}(h:¬B.y2 f):f<B.H0.ct:=Nat.lt_of_not_le fun q=>h (.inl q)
structure Inv (g0:Nat) (B:ea) (J:aI) (m:List (Nat×cK)) (H:aB):Prop where
 wf:jc H
 bZ:H.bZ=g0
 ak:B.H0.ak<=H.ak
 ct:B.H0.ct<=H.ct
 eF:∀a,a<B.H0.ak->¬B.X a->H.mem.get a=B.H0.mem.get a
 oc:∀f,¬B.y2 f->H.bM.get f=B.H0.bM.get f
 fz:∀a c e,J a=some (c,e)->∃o f z s,H.mem.get a=some (.row c e o f z s)
 le:B.R9.le J
 fresh:∀a x,B.R9 a=none->J a=some x->B.H0.ak<=a\/B.X a
 own:∀a b,(a,b)∈m->b.at B.y2 H a/\(B.H0.ak<=a\/B.X a)/\J a=none/\g0<=a
 opn:∀a b,(a,b)∈m->∀x∈b.rest,x<H.ak/\(B.H0.ak<=x\/B.X x)/\J x=none
 gm:(ids m).Nodup
theorem cK.S3{F:Nat->Prop}{H:aB}(w:jc H){a:Nat}{b:cK}(h:b.at F H a):a<H.ak:=by
 cases b with
 |row c e=>exact w.lt h
 |opn c e r z=>obtain⟨f,_,h,_⟩:=h;exact w.lt h
 |map es k=>exact w.lt h
 |loop r=>exact w.lt h
 |iT=>exact w.lt h
theorem cK.yI{F:Nat->Prop}{H H1:aB}{a:Nat}{b:cK}(h:b.at F H a)(hm:H1.mem.get a=H.mem.get a)(aC:∀f r,H.bM.get f=some (a::r)->H1.bM.get f=some (a::r)):b.at F H1 a:=by
 cases b with
 |row c e=>exact hm.trans h
 |opn c e r z=>obtain⟨f,bD,aa,ae⟩:=h;exact⟨f,bD,hm.trans aa,aC _ _ ae⟩
 |map es k=>exact hm.trans h
 |loop r=>exact hm.trans h
 |iT=>exact hm.trans h
section
variable {g0:Nat}{B:ea}{H:aB}{J:aI}{m m':List (Nat×cK)}
theorem Inv.lt(h:Inv g0 B J m H){a:Nat}{b:cK}(hm:(a,b)∈m):a<H.ak:=cK.S3 h.wf (h.own a b hm).1
theorem Inv.akq(h:Inv g0 B J m H){a:Nat}{x:List Value×TypeId}(ba:J a=some x):a<H.ak:=by
 obtain⟨c,e⟩:=x;obtain⟨o,f,z,s,q⟩:=h.fz a c e ba;exact h.wf.lt q
theorem Inv.Qv(h:Inv g0 B J m H):J H.ak=none:=by
 cases q:J H.ak with
 |none=>rfl
 |some x=>exact absurd (h.akq q) (Fx _)
theorem Inv.Lb(h:Inv g0 B J m H){x:Nat}(U:x∈ids m):x<H.ak:=by
 obtain⟨⟨a,b⟩,aa,ae⟩:=BH.1 U;rcases ae with ae|ae
 ·subst ae;exact h.lt aa
 ·exact(h.opn a b aa x ae).1
theorem Inv.XW(h:Inv g0 B J m H){x:Nat}(U:x∈ids m):B.H0.ak<=x\/B.X x:=by
 obtain⟨⟨a,b⟩,aa,ae⟩:=BH.1 U;rcases ae with ae|ae
 ·subst ae;exact(h.own _ b aa).2.1
 ·exact(h.opn a b aa x ae).2.1
theorem Inv.akV(h:Inv g0 B J m H){x:Nat}(U:x∈ids m):J x=none:=by
 obtain⟨⟨a,b⟩,aa,ae⟩:=BH.1 U;rcases ae with ae|ae
 ·subst ae;exact(h.own _ b aa).2.2.1
 ·exact(h.opn a b aa x ae).2.2
theorem Inv.NV(h:Inv g0 B J m H):g0<=H.ak:=by have:=h.wf.kM;have:=h.bZ;omega
theorem Inv.new(h:Inv g0 B J m H){H1:aB}{b:ff}{p:cK}(aN:H.new b=some (H.ak,H1))(aw:p.at B.y2 H1 H.ak)(ay:p.rest=[]:=by rfl):Inv g0 B J ((H.ak,p)::m) H1:=by
 obtain⟨_,dn,lh,vT,rJ,l7⟩:=aB.qz aN;refine⟨h.wf.Qs aN,rJ.trans h.bZ,by have:=h.ak;omega,by rw[vT];exact h.ct,fun a a' U=>?_,fun f aC=>by rw[lh];exact h.oc f aC,fun a c e ba=>?_,h.le,h.fresh,fun a b au=>?_,fun a b au x U=>?_,?_⟩
 ·rw[l7,ap (by have:=h.ak;omega)];exact h.eF a a' U
 ·obtain⟨o,f,z,s,q⟩:=h.fz a c e ba;exact⟨o,f,z,s,by rw[l7,ap (by have:=h.wf.lt q;omega)];exact q⟩
 ·rcases fg.1 au with q|q
  ·injection q with bd a6;subst bd;subst a6
   exact⟨aw,.inl h.ak,h.Qv,h.NV⟩
  ·obtain⟨bp,bC,b5,da⟩:=h.own a b q;exact⟨cK.yI bp (by rw[l7,ap (by have:=h.lt q;omega)]) (fun f l aC=>by rw[lh];exact aC),bC,b5,da⟩
 ·rcases fg.1 au with q|q
  ·injection q with bd a6;subst bd;subst a6;rw[ay] at U;cases U
  ·obtain⟨bp,bC,b5⟩:=h.opn a b q x U;exact⟨by omega,bC,b5⟩
 ·show(H.ak::(p.rest++ids m)).Nodup;rw[ay,me,uU];exact⟨fun q=>absurd (h.Lb q) (Fx _),h.gm⟩
theorem Inv.alloc(h:Inv g0 B J m H)(cells:List Value)(e:TypeId):
 ∃H1,H.new (.row cells e false 0 0 false)=some (H.ak,H1)/\Inv g0 B J ((H.ak,.row cells e)::m) H1:=by
 obtain⟨H1,aN⟩:=h.wf.new (.row cells e false 0 0 false);obtain⟨_,dn,lh,vT,rJ,l7⟩:=aB.qz aN;exact⟨H1,aN,h.new aN (by show H1.mem.get H.ak=_;rw[l7,aE rfl])⟩
theorem Inv.bM(h:Inv g0 B J m H):∃H1,H.vU=some (H.ct,H1)/\Inv g0 B J m H1/\H1.ak=H.ak/\H1.bM.get H.ct=some [H.ak]/\B.H0.ct<=H.ct:=by
 obtain⟨H1,aN⟩:=h.wf.vU;obtain⟨_,dn,lh,vT,rJ,l7⟩:=aB.Lj aN;refine⟨H1,aN,⟨h.wf.akO aN,rJ.trans h.bZ,by rw[dn];exact h.ak,by have:=h.ct;omega,fun a a' U=>by rw[lh];exact h.eF a a' U,fun f aC=>?_,fun a c e ba=>by rw[lh];exact h.fz a c e ba,h.le,h.fresh,fun a b au=>?_,fun a b au x U=>by rw[dn];exact h.opn a b au x U,h.gm⟩,dn,by rw[l7,aE rfl],h.ct⟩
 ·rw[l7,ap (by have:=h.ct;have:=ea.aeL aC;omega)];exact h.oc f aC
 ·obtain⟨bp,bC,b5,da⟩:=h.own a b au;exact⟨cK.yI bp (by rw[lh]) (fun f l aC=>by rw[l7,ap (by have:=h.wf.GF aC;omega)];exact aC),bC,b5,da⟩
theorem Inv.od(h:Inv g0 B J m H)(cells:List Value)(e:TypeId):
 ∃H1,H.od cells e false=some (H.ak,H1)/\Inv g0 B J ((H.ak,.opn cells e [] 0)::m) H1:=by
 obtain⟨H1,aN,aa,hj,f1,akQ⟩:=h.bM;obtain⟨cN,bn⟩:=aa.wf.new (.row cells e true H.ct 0 false);obtain⟨_,dn,lh,vT,rJ,l7⟩:=aB.qz bn;refine⟨cN,?_,?_⟩
 ·unfold aB.od;rw[aN];simp only;rw[bn,hj]
 ·have:=aa.new (p:=.opn cells e [] 0) bn ⟨H.ct,.inl akQ,by rw[l7,aE rfl],by rw[lh,f1,hj]⟩;rwa [hj] at this
inductive cR:List (Nat×cK)->Nat->cK->cK->List (Nat×cK)->Prop
 |head (a:Nat) (b b':cK) (m:List (Nat×cK)):cR ((a,b)::m) a b b' ((a,b')::m)
 |tail (x:Nat×cK) {m m':List (Nat×cK)} {a:Nat} {b b':cK}:cR m a b b' m'->cR (x::m) a b b' (x::m')
theorem cR.mem{m m':List (Nat×cK)}{a:Nat}{b b':cK}(h:cR m a b b' m'):(a,b)∈m:=by
 induction h with
 |head=>exact .head _
 |tail _ _ aK=>exact .tail _ aK
theorem cR.Xc{m m':List (Nat×cK)}{a:Nat}{b b':cK}(h:cR m a b b' m')(aP:(m.map Prod.fst).Nodup):∀x c,(x,c)∈m'->(x=a/\c=b')\/(x≠a/\(x,c)∈m):=by
 induction h with
 |head a b b' m=>
  intro x c U;rw[nR,uU] at aP;rcases fg.1 U with q|q
  ·injection q with bd a6;exact .inl ⟨bd,a6⟩
  ·refine .inr ⟨fun e=>aP.1 ?_,.tail _ q⟩;subst e;exact As.2 ⟨_,q,rfl⟩
 |tail y aw aK=>
  intro x c U;rw[nR,uU] at aP;rcases fg.1 U with q|q
  ·refine .inr ⟨fun e=>aP.1 ?_,by rw[q];exact .head _⟩;have:y.1=x:=by rw[<-q]
   rw[this,e];exact As.2 ⟨_,aw.mem,rfl⟩
  ·rcases aK aP.2 x c q with r|⟨cI,ei⟩
   ·exact .inl r
   ·exact .inr ⟨cI,.tail _ ei⟩
theorem cR.ids{m m':List (Nat×cK)}{a:Nat}{b b':cK}(h:cR m a b b' m')(ay:b'.rest=[]):(ids m').Sublist (ids m):=by
 induction h with
 |head a b b' m=>show(a::(b'.rest++Opn.ids m)).Sublist (a::(b.rest++Opn.ids m));rw[ay];exact .cons_cons _ (Js _ _)
 |tail x _ aK=>exact .cons_cons _ ((bA _).append (aK ay))
theorem Inv.upd(h:Inv g0 B J m H){a:Nat}{b p:cK}{c:ff}{H1:aB}(aw:cR m a b p m')(aN:H.upd a c=some H1)(aH:p.at B.y2 H1 a)(ay:p.rest=[]:=by rfl):Inv g0 B J m' H1:=by
 obtain⟨bp,bC,b5,da⟩:=h.own a _ aw.mem;have d':=ajE h.gm;have c4:=h.lt aw.mem;obtain⟨b0,dn,lh,vT,rJ⟩:=aB.x9 aN;refine⟨h.wf.Rv c4 aN,vT.trans h.bZ,by rw[b0];exact h.ak,by rw[lh];exact h.ct,fun x U k6=>?_,fun f aC=>by rw[dn];exact h.oc f aC,fun x c e ba=>?_,h.le,h.fresh,fun x b au=>?_,fun x b au y ai=>?_,(aw.ids ay).nodup h.gm⟩
 ·rw[rJ,ap (fun q=>by subst q;rcases bC with q|q;·omega
                      ·exact k6 q)]
  exact h.eF x U k6
 ·obtain⟨o,f,z,s,q⟩:=h.fz x c e ba
  exact⟨o,f,z,s,by rw[rJ,ap (fun r=>by subst r;rw[b5] at ba;cases ba)];exact q⟩
 ·rcases aw.Xc d' x b au with⟨rfl,rfl⟩|⟨bd,a6⟩
  ·exact⟨aH,bC,b5,da⟩
  ·obtain⟨cU,ee,mx,rE⟩:=h.own x b a6
   exact⟨cK.yI cU (by rw[rJ,ap bd]) (fun f l aC=>by rw[dn];exact aC),ee,mx,rE⟩
 ·rcases aw.Xc d' x b au with⟨rfl,rfl⟩|⟨bd,a6⟩
  ·rw[ay] at ai;cases ai
  ·rw[b0];exact h.opn x b a6 y ai
theorem Inv.store{a:Nat}{cells cells':List Value}{e:TypeId}(h:Inv g0 B J m H)(aw:cR m a (.row cells e) (.row cells' e) m'):
 ∃H1,H.upd a (.row cells' e false 0 0 false)=some H1/\Inv g0 B J m' H1:=by
 obtain⟨H1,aN⟩:=h.wf.upd (.row cells' e false 0 0 false) (h.lt aw.mem);exact⟨H1,aN,h.upd aw aN (by show H1.mem.get a=_;rw[(aB.x9 aN).2.2.2.2,aE rfl])⟩
theorem Inv.sub(h:Inv g0 B J m H)(af:m'.Sublist m):Inv g0 B J m' H:=
 ⟨h.wf,h.bZ,h.ak,h.ct,h.eF,h.oc,h.fz,h.le,h.fresh,fun a b q=>h.own a b (af.subset q),fun a b q=>h.opn a b (af.subset q),(ajF af).nodup h.gm⟩
def aI.add(J:aI)(a:Nat)(x:List Value×TypeId):aI:=fun i=>if i=a then some x else J i
theorem aI.oy(J:aI)(a:Nat)(x:List Value×TypeId):(J.add a x) a=some x:=aE rfl
theorem aI.aaY{J:aI}{a:Nat}{x:List Value×TypeId}(h:J a=none):J.le (J.add a x):=fun i y q=>by
 unfold aI.add;split
 ·rename_i e;subst e;rw[h] at q;cases q
 ·exact q
def cK.rowOf:cK->Option (List Value×TypeId)
 |.row c e=>some (c,e)
 |.opn c e _ _=>some (c,e)
 |.map _ _=>none
 |.loop _=>none
 |.iT=>none
theorem Inv.mD{a:Nat}{b:cK}{x:List Value×TypeId}(h:Inv g0 B J ((a,b)::m) H)(U:b.rowOf=some x):Inv g0 B (J.add a x) m H/\J.le (J.add a x):=by
 obtain⟨bp,bC,b5,da⟩:=h.own a b (.head _);have d':=h.gm;rw[show ids ((a,b)::m)=a::(b.rest++ids m) from rfl,uU,kX] at d';have hle:=aI.aaY (x:=x) b5;refine⟨⟨h.wf,h.bZ,h.ak,h.ct,h.eF,h.oc,fun i c e ba=>?_,h.le.trans hle,fun i y q ai=>?_,fun i p aw=>?_,fun i p aw y ai=>?_,(Js _ _).nodup d'.2⟩,hle⟩
 ·unfold aI.add at ba;split at ba
  ·rename_i q;subst q;injection ba with ba;subst ba
   cases b with
   |row ch bG=>injection U with U;injection U with aa ae;subst aa;subst ae;exact⟨_,_,_,_,bp⟩
   |opn ch bG r z=>injection U with U;injection U with aa ae;subst aa;subst ae;obtain⟨f,_,k,_⟩:=bp;exact⟨_,_,_,_,k⟩
   |map es k=>cases U
   |loop r=>cases U
   |iT=>cases U
  ·exact h.fz i c e ba
 ·unfold aI.add at ai;split at ai
  ·rename_i e;subst e;exact bC
  ·exact h.fresh i y q ai
 ·obtain⟨cU,ee,mx,rE⟩:=h.own i p (.tail _ aw);refine⟨cU,ee,?_,rE⟩;unfold aI.add;rw[ap]
  ·exact mx
  ·intro e;subst e;exact d'.1 (.inr (BG aw))
 ·obtain⟨cU,ee,mx⟩:=h.opn i p (.tail _ aw) y ai;refine⟨cU,ee,?_⟩;unfold aI.add;rw[ap]
  ·exact mx
  ·intro e;subst e;exact d'.1 (.inr (BH.2 ⟨_,aw,.inr ai⟩))
end
end
end Go.Opn
