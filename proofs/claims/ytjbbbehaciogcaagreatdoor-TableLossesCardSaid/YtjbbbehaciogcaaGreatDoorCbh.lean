/- A part of the proof of TableLosses. -/
import Derived.Test.YtjbbbehaciogcaaGreatDoorCbg
import Derived.Test.YtjbbbehaciogcaaGreatDoorCaq
set_option maxRecDepth 100000
set_option maxHeartbeats 4000000
set_option linter.unusedVariables false
set_option linter.unusedSimpArgs false
namespace Go.Opn
noncomputable section
open Go.Cre Go.RowKit Go.Proofs
open Classical in
noncomputable instance (l:List Int):Decidable (Oz l):=inferInstance
section
variable {Q:c7 Tryz.prog}{g0:Nat}{J:aj}
theorem apw{fw:aN}{b:Option Addr}{c:Nat}{l:List Int}{v:Int}(aq:pQ fw J b l)(aE:l.length<=1000000):
 Fn (aU Q g0) 130 [.slice b l.length c,.int .i64 v] fw J (fun u m' af=>u=.int .i64 (wy v l 0)/\m'=fw/\J=af):=by
 refine Fn.b5 (b2 Tryz.func130) rfl rfl fun H=>?_;refine U 0x357c04a1ce059 ?_;refine c3 [(8,.int .i64 ((0):Int)),(0,_),(1,_),(7,_)] ?_;refine a2 ?_;refine' az.bH (fun(i:Nat)=>⟨[(8,.int .i64 (i:Int))],fw,J,i<=l.length/\wy v l 0=wy v (l.drop i) i,l.length -i⟩) (0) ?hs ?a7;case hs=>exact⟨c5 _,rfl⟩
 case a7=>
  rintro i hinv;try simp only at hinv
  obtain⟨ak,EQ⟩:=hinv;refine U 0xbe099 ?_;refine If (fun ep=>?_) fun ep=>?_
  ·obtain⟨a,off,cells,rfl,my,fJ⟩:=aq I;obtain⟨x,aa,h6⟩:=fJ i I I;have e7:l[i]?=some x:=by simpa using aa
   refine U 0x608439c0839d5f57 ?_;refine' W.step rfl (Exec.val rfl rfl (ik rfl rfl ?ao (gR (fz rfl) ?av)) ?_);case ao=>exact my
   case av=>assumption
   refine U 0x5f04 ?_;refine If (fun kV=>?_) fun kV=>?_
   ·refine U 0x357c0839 ?_;refine ja ?_
    exact⟨by rw[EQ,aaq e7,aV (by simpa using kV)];rfl,rfl,rfl⟩
   ·refine U 0x3011e757 ?_;refine dN (i+1) ?_;exact⟨I,by rw[EQ,aaq e7,aQ (by simpa using kV)]⟩
  ·refine U 0x6af816757 ?_;refine ja ?_
   exact⟨by rw[EQ,apq I];rfl,rfl,rfl⟩
theorem aiC{fw:aN}{b:Option Addr}{c:Nat}{l:List Int}{v:Int}(aq:pQ fw J b l)(aE:l.length<=1000000):
 Fn (aU Q g0) 106 [.slice b l.length c,.int .i64 v] fw J (fun u m' af=>u=.bool (decide (v∈l))/\m'=fw/\J=af):=by
 refine Fn.b5 (b2 Tryz.func106) rfl rfl fun H=>?_;refine U 0x21ce059 ?_;refine' W.step rfl (Exec.call rfl rfl rfl rfl rfl rfl rfl (bm:=fw) (cN:=[]) (by simp) trivial (apw aq aE) ?_);rintro v m' af hle ⟨rfl,rfl,rfl⟩;rw[hi];refine U 0x1abe044 ?_;refine ja ?_;refine⟨cC Value.bool ?_,rfl,rfl⟩;rw[qG,Hd,Hd];exact apr
theorem aqW{fw:aN}{b:Option Addr}{c:Nat}{l:List Int}(aq:pQ fw J b l)(aE:l.length<=1000000)(ad:1<=l.length):
 Fn (aU Q g0) 78 [.slice b l.length c] fw J (fun u m' af=>u=.int .i64 (yD l)/\m'=fw/\J=af):=by
 obtain⟨a,off,cells,rfl,my,fJ⟩:=aq I;obtain⟨h8,dC,ZH⟩:=fJ 0 I I;refine Fn.b5 (b2 Tryz.func78) rfl rfl fun H=>?_;refine U 0x17c10a1ce059 ?_;refine If (fun fC=>?_) fun fC=>?_
 ·exfalso;omega
 ·have wh:yD (l.take 1)=h8:=by
   cases l with
   |nil=>cases dC
   |cons y r=>simp at dC;subst dC;rfl
  refine U 0x60e757 ?_;refine' W.step rfl (Exec.val rfl rfl (ik rfl rfl ?ao (gR (fz rfl) ?av)) ?_);case ao=>exact my
  case av=>assumption
  refine U 0x6af816702 ?_;refine c3 [(3,.int .i64 (yD (l.take (1)))),(4,.int .i64 ((1):Int)),(0,_)] ?_;refine a2 ?_;refine' az.bH (fun(i:Nat)=>⟨[(3,.int .i64 (yD (l.take i))),(4,.int .i64 (i:Int))],fw,J,1<=i/\i<=l.length,l.length -i⟩) (1) ?hs ?a7;case hs=>exact⟨bU _,I⟩
  case a7=>
   rintro i hinv;try simp only at hinv
   obtain⟨anM,ak⟩:=hinv;refine U 0x5f0428439 ?_;refine If (fun fV=>?_) fun fV=>?_
   ·obtain⟨x,aa,h6⟩:=fJ i I I;have e7:l[i]?=some x:=by simpa using aa
    have Cc:=aqV anM e7;refine U 0x608439d5f57 ?_;refine' W.step rfl (Exec.val rfl rfl (ik rfl rfl ?ao (gR (fz rfl) ?av)) ?_);case ao=>exact my
    case av=>assumption
    refine' W.step rfl (Exec.val rfl rfl (wY rfl rfl rfl rfl rfl) ?_);refine U 0x60430e702 ?_;refine dN (i+1) ?_;exact⟨I,I⟩
   ·refine U 0xd5f020e757 ?_;refine ja ?_;exact⟨by rw[cU I];rfl,rfl,rfl⟩
theorem apE{fw:aN}{a:Int}:Fn (aU Q g0) 151 [.int .i64 a] fw J (fun u m' af=>u=.bool false/\m'=fw/\J=af):=by
 refine Fn.b5 (b2 Tryz.func151) rfl rfl fun H=>?_;refine U 0x6af811021ce059 ?_;refine ja ?_;exact⟨by simp[pr],rfl,rfl⟩
theorem aqn{a b:Int}:Fn (aU Q g0) 131 [.int .i64 a,.int .i64 b] [] J (fun u m' af=>u=.bool (decide (a<b))/\m'=[]/\J=af):=by
 refine Fn.b5 (b2 Tryz.func131) rfl rfl fun H=>?_;refine U 0x1ce059 ?_;refine bC (G:=apE (fw:=[])) (h:=?_);rintro v m' af hle ⟨rfl,rfl,rfl⟩;refine eZ V.kK ?_;refine c0 7 (fun Ew=>?_) fun Ew=>?_
 ·exfalso;cases Ew
 ·refine U 0x1abe0482042146ffb ?_;refine gZ ?_;refine⟨cC Value.bool ?_,rfl,rfl⟩;rfl
theorem apG{fw:aN}{b:Option Addr}{c:Nat}{l:List Int}(aq:pQ fw J b l)(aE:l.length<=1000000)(k6:addrEq b b=true):
 Fn (aU Q g0) 107 [.slice b l.length c] fw J (fun u m' af=>u=.bool (decide (Oz l))/\m'=fw/\J=af):=by
 refine Fn.b5 (b2 Tryz.func107) rfl rfl fun H=>?_;refine U 0x6af810ca1ce059 ?_;refine c3 [(3,.int .i64 ((l.length:Int) -1)),(0,_)] ?_;refine a2 ?_;refine' az.bH (fun(i:Int)=>⟨[(3,.int .i64 i)],fw,J,i<l.length/\-1<=i/\(∀(j:Nat) x y,i<=j->l[j]?=some x->l[j+1]?=some y->¬y<x),i.toNat⟩) ((l.length:Int) -1) ?hs ?a7;case hs=>exact⟨I,I,fun j x y aX aa ap=>by have:=(ff.1 ap).1;omega⟩
 case a7=>
  rintro i hinv;try simp only at hinv
  obtain⟨ak,azo,has⟩:=hinv;refine U 0x17c1039 ?_;refine If (fun hq=>?_) fun hq=>?_
  ·obtain⟨a,off,cells,rfl,my,fJ⟩:=aq I;obtain⟨dW,hr,an6⟩:=fJ i I I;obtain⟨h8,dC,ZH⟩:=fJ (i -1) I I;refine U 0x17d5f57 ?_;refine az.draw rfl (by kernel_rfl) (a1:=[.val 0,.val 1,.val 2,.val 3,.val 4,.val 5,.val 6,.val 7,.val 8,.bE 9]) (by kernel_rfl) ?_;refine U 0x1821 ?_;refine' ct.val rfl rfl rfl rfl (ik rfl rfl ?ao (gR (fz rfl) ?av)) ?_;case ao=>exact my
   case av=>assumption
   refine U 0x30c21 ?_;refine' ct.val rfl rfl rfl rfl (ik rfl rfl ?ao (gR (fz rfl) ?av)) ?_;case ao=>exact my
   case av=>assumption
   refine' ct.call rfl rfl rfl rfl rfl rfl rfl rfl rfl rfl (bm:=[]) (cN:=fw) (.refl _) trivial (aqn) ?_;rintro v m' af hle ⟨rfl,rfl,rfl⟩;rw[kj];refine U 0x2f8 ?_;refine If (fun hC=>?_) fun hC=>?_
   ·refine U 0x1abe059 ?_;refine ja ?_
    refine⟨cC Value.bool ?_,rfl,rfl⟩
    symm;rw[ai1];exact fun q=>q (i -1).toNat _ _ dC (by rw[show(i -1).toNat+1=i.toNat by omega];exact hr) (by simpa using hC)
   ·refine U 0x60430e757 ?_;refine dN (i -1) ?_;refine⟨I,I,fun j x y aX aa ap=>?_⟩;by_cases q:i<=j;(exact has j x y q aa ap);(obtain rfl:j=(i -1).toNat:=by omega);(rw[dC] at aa;rw[show(i -1).toNat+1=i.toNat by omega,hr] at ap;injection aa with aa;injection ap with ap;subst aa;subst ap;simpa using hC)
  ·refine U 0x6af816757 ?_;refine ja ?_
   refine⟨cC Value.bool ?_,rfl,rfl⟩
   symm;rw[Hd];exact fun j x y aa ap=>has j x y I aa ap
end
theorem Nj{g:db}{x:eY}(h:fK g x=0)(hk:x.k=2):0<=x.i/\x.i<g.is.length/\0<=x.p/\x.p<g.pl/\1<=x.an.length/\x.an.length<=10:=by
 unfold fK at h;rw[aQ I,aV hk] at h;split at h
 ·omega
 ·split at h<;>omega
theorem ab3{g:db}:∀{l:List eY},(∀x∈l,fK g x=0)->rf g l=0:=by
 intro l;induction l with
 |nil=>intro _;rfl
 |cons y r aP=>
  intro h;show(if fK g y≠0 then fK g y else rf g r)=0;rw[aQ (by rw[h y (.head _)];simp)];exact aP fun x aa=>h x (.tail _ aa)
theorem Nk{g:db}:∀{l:List eY} {i:Nat} {x:eY},(∀y∈l.take i,fK g y=0)->l[i]?=some x->fK g x≠0->rf g l=fK g x:=by
 intro l;induction l with
 |nil=>intro i x _ h;cases h
 |cons y r aP=>
  intro i x h aa aE;show(if fK g y≠0 then fK g y else rf g r)=_;cases i with
  |zero=>simp at aa;subst aa;rw[aV aE]
  |succ i=>
   rw[aQ (by rw[h y (.head _)];simp)];exact aP (fun z aM=>h z (.tail _ aM)) (by simpa using aa) aE
theorem y6{α:Type}{P:α->Prop}{l:List α}{i:Nat}{x:α}(h:∀y∈l.take i,P y)(aa:l[i]?=some x)(aw:P x):∀y∈l.take (i+1),P y:=by
 intro y ap;rw[lD,aa] at ap;rcases nh.1 ap with q|q
 ·exact h y q
 ·simp at q;subst q;exact aw
section
variable {Q:c7 Tryz.prog}{g0:Nat}{J:aj}
theorem aun{gb:Nat}{g:db}{cg bi:Option Addr}{bS ci:Nat}{jC hy hS:Value}{bc:aN}(ay:pE J g cg bS bi ci)(aE:∀x∈g.ns,fK g x=0)(df:g.ns.length<=2000)(i2:g.is.length<=200):
 Fn (aU Q g0) 79 [.pointer (some ⟨gb,0,none⟩)] (ke gb g cg bS bi ci jC hy hS::bc) J (fun u m' af=>u=.int .i64 (uY g)/\m'=ke gb g cg bS bi ci jC hy hS::bc/\J=af):=by
 obtain⟨_,lN⟩:=ay.n.at;obtain⟨_,B3⟩:=ay.i.at;have uT:addrEq bi bi=true:=ay.i.addr;have uU:addrEq cg cg=true:=ay.n.addr;refine Fn.b5 (b2 Tryz.func79) rfl rfl fun H=>?_;refine U 0xaa6b6c1ce059 ?_;refine' W.step rfl (.of (nf rfl rfl rfl rfl rfl (eW rfl) ?aR ?ad ?ae fun xk=>?_));case aR=>exact ck
 case ad=>exact ck
 case ae=>exact ck
 refine U 0x302 ?_;rw[afi,gG,show List.replicate g.is.length (0:Int)=m2 g g.ns.length from(akZ (bU _)).symm];refine U 0xd5f021954d6d839 ?_;refine c3 [(4,.int .i64 (((g.ns.length):Int) -1)),(0,_),(3,_)] ?_;refine a2 ?_;refine' az.bH (fun(k:Nat)=>⟨[(4,.int .i64 ((k:Int) -1))],yu xk (m2 g k)::ke gb g cg bS bi ci jC hy hS::bc,J,k<=g.ns.length,k⟩) (g.ns.length) ?hs ?a7;case hs=>exact bU _
 case a7=>
  rintro k hinv;try simp only at hinv
  have hk:=hinv;refine U 0x17c1039 ?_;refine If (fun ms=>?_) fun ms=>?_
  ·obtain⟨a,off,cells,bD,rfl,fY,fJ⟩:=lN I;obtain⟨x,cs,aa,g3,_,c1⟩:=fJ ((k:Int) -1) I I;obtain⟨a',bb,bf,br,bV,cc,rfl,hr,mB,lP⟩:=c1;have e7:g.ns[k -1]?=some x:=by rw[<-aa];congr 1;omega
   have z4:k -1+1=k:=I
   have h6:=aE x (et e7);refine U 0xb3054d6d839d5f57 ?_;refine fa fun dw=>?_;refine U 0xbe08a6e71c ?_;refine If (fun iP=>?_) fun iP=>?_
   ·have Ip:=Nj h6 (by simpa using iP);have jz:(m2 g k).length=g.is.length:=ua;refine U 0x186153439 ?_;refine' iN ?hs ?_;case hs=>exact N1 x.i.toNat I
    refine U 0x30218738 ?_;refine dN (k -1) ?_ (hm:=(by rw[ak1 e7 (by simpa using iP) I I,z4,show((k -1:Nat):Int)=(k:Int) -1 by omega];exact .cons _ (.refl _)));omega
   ·refine U 0x60430e757 ?_;refine dN (k -1) ?_ (hm:=(by rw[ak0 e7 (by simpa using iP),z4];exact .cons _ (.refl _)));omega
  ·obtain rfl:k=0:=I
   refine U 0x1abe025535b60e757 ?_;refine c3 [(49,.int .i64 ((0):Int)),(0,_),(3,_),(47,_),(48,_)] ?_;refine a2 ?_;refine' az.bH (fun(i:Nat)=>⟨[(49,.int .i64 (i:Int))],yu xk (m2 g 0)::ke gb g cg bS bi ci jC hy hS::bc,J,i<=g.ns.length/\∀x∈g.ns.take i,x.k=2->g.is[x.i.toNat]?=some (x.p,(x.an.length:Int)),g.ns.length -i⟩) (0) ?hs ?a7;case hs=>exact⟨c5 _,fun x aa=>by cases aa⟩
   case a7=>
    rintro i hinv;try simp only at hinv
    obtain⟨ak,ew⟩:=hinv;refine U 0xbe099 ?_;refine If (fun sH=>?_) fun sH=>?_
    ·obtain⟨a,off,cells,bD,rfl,fY,fJ⟩:=lN I;obtain⟨x,cs,aa,g3,_,c1⟩:=fJ i I I;obtain⟨a',bb,bf,br,bV,cc,rfl,hr,mB,lP⟩:=c1;have aL:addrEq a' a'=true:=by obtain⟨e,h⟩:=hr;exact h.addr
     rw[gG] at aa;have h6:=aE x (et aa);refine U 0x2cd9d5f57 ?_;refine fa fun eP=>?_;refine U 0x5f1c ?_;refine az.Br [] rfl (by kernel_rfl) (a1:=[.val 0,.val 1,.val 2,.val 3,.val 4,.val 5,.val 6,.val 7,.val 8,.val 9,.val 10,.val 11,.val 12,.val 13,.val 14,.val 15,.val 16,.val 17,.val 18,.val 19,.val 20]) (by kernel_rfl) ?_;refine U 0x914d ?_;refine sA 56 (fun LP=>?_) fun LP=>?_
     ·have Ip:=Nj h6 (by simpa using LP);obtain⟨xn,arR,ahV,aj1,rfl,BO,R4⟩:=B3 I;obtain⟨y,cs,ap,ane,_,rfl⟩:=R4 x.i I I;refine U 0x40aa6a9ab329aa6b6c1 ?_;refine' ga.Of rfl rfl rfl rfl rfl rfl (awo rfl (.inr ⟨rfl,rfl⟩) rfl rfl (apu Q g0) (la:=[_,_]) (bs:=[_,_]) rfl rfl rfl rfl) ?_;refine U 0x5f08 ?_;refine If (fun tR=>?_) fun tR=>?_
      ·
        refine U 0x1abe059 ?_;refine'⟨.inr rfl,rfl,_,ke _ _ _ _ _ _ _ _ _::bc,.tmp rfl .nil,(by exact .cons _ (.cons _ (.refl _))),?_⟩;refine⟨cC (Value.int .i64) ?_,rfl,rfl⟩;have hW:i>=g.ns.length->¬∃x∈g.ns,x.k=2/\g.is[x.i.toNat]?≠some (x.p,(x.an.length:Int)):=by
         rintro rU ⟨x,ad,ae,aD⟩;rw[cU I] at ew;exact aD (ew x ad ae)
        unfold uY
        have apc:=aa;rw[aV ⟨x,et aa,by simpa using LP,fun q=>tR (by rw[ap] at q;injection q with q;rw[q])⟩]
      ·
        refine U 0x3011e757 ?_;refine dN (i+1) ?_ (hm:=.cons _ (.refl _));refine⟨I,y6 ew aa fun hk=>?_⟩;(rw[ap];simp at tR;rw[<-tR.1,<-tR.2])
     ·refine U 0x6f7bdef7bdef7bdef7b ?_;refine ga.Ob rfl rfl rfl rfl rfl rfl ?_;refine U 0x3011e757d5f08 ?_;refine dN (i+1) ?_ (hm:=.cons _ (.refl _));refine⟨I,y6 ew aa fun hk=>?_⟩;exact absurd hk (by simpa using LP)
    ·refine U 0xe757 ?_;refine' W.step rfl (Exec.call rfl rfl rfl rfl rfl rfl rfl (bm:=_) (cN:=[]) (by rw[hi]) trivial ((by have h:=aiC (Q:=Q) (g0:=g0) (J:=J) (fw:=yu xk (m2 g 0)::ke gb g cg bS bi ci jC hy hS::bc) (l:=m2 g 0) (c:=g.is.length) (v:=0) (pQ.own (.head _)) (by rw[ua];omega);rw[ua] at h;exact h)) ?_);rintro v m' af hle ⟨rfl,rfl,rfl⟩;rw[hi];refine ns ?_;refine If (fun zC=>?_) fun zC=>?_
     ·refine U 0x1abe059 ?_;refine'⟨.inr rfl,rfl,_,ke _ _ _ _ _ _ _ _ _::bc,.tmp rfl .nil,(by exact .cons _ (.refl _)),?_⟩;refine⟨cC (Value.int .i64) ?_,rfl,rfl⟩;have hW:i>=g.ns.length->¬∃x∈g.ns,x.k=2/\g.is[x.i.toNat]?≠some (x.p,(x.an.length:Int)):=by
        rintro rU ⟨x,ad,ae,aD⟩;rw[cU I] at ew;exact aD (ew x ad ae)
      unfold uY
      rw[aQ (hW I),aV (UN.2 zC)]
     ·refine U 0xe757 ?_;refine' W.step rfl (Exec.call rfl rfl rfl rfl rfl rfl rfl (bm:=_) (cN:=[]) (by rw[hi]) trivial ((by have h:=apG (Q:=Q) (g0:=g0) (J:=J) (fw:=yu xk (m2 g 0)::ke gb g cg bS bi ci jC hy hS::bc) (l:=m2 g 0) (c:=g.is.length) (pQ.own (.head _)) (by rw[ua];omega) (by simp[addrEq]);rw[ua] at h;exact h)) ?_);rintro v m' af hle ⟨rfl,rfl,rfl⟩;rw[hi];refine U 0x5f11 ?_;refine If (fun P2=>?_) fun P2=>?_
      ·
        refine U 0x1abe059 ?_;refine'⟨.inr rfl,rfl,_,ke _ _ _ _ _ _ _ _ _::bc,.tmp rfl .nil,(by exact .cons _ (.refl _)),?_⟩;refine⟨cC (Value.int .i64) ?_,rfl,rfl⟩;have hW:i>=g.ns.length->¬∃x∈g.ns,x.k=2/\g.is[x.i.toNat]?≠some (x.p,(x.an.length:Int)):=by
         rintro rU ⟨x,ad,ae,aD⟩;rw[cU I] at ew;exact aD (ew x ad ae)
        unfold uY
        rw[aQ (hW I),aQ (fun q=>zC (UN.1 q)),aV (adA.2 (by simpa using P2))]
      ·
        refine U 0x6af816757 ?_;refine'⟨.inr rfl,rfl,_,ke _ _ _ _ _ _ _ _ _::bc,.tmp rfl .nil,(by exact .cons _ (.refl _)),?_⟩;refine⟨cC (Value.int .i64) ?_,rfl,rfl⟩;have hW:i>=g.ns.length->¬∃x∈g.ns,x.k=2/\g.is[x.i.toNat]?≠some (x.p,(x.an.length:Int)):=by
         rintro rU ⟨x,ad,ae,aD⟩;rw[cU I] at ew;exact aD (ew x ad ae)
        unfold uY
        rw[aQ (hW I),aQ (fun q=>zC (UN.1 q)),aQ (fun q=>adA.1 q (by simpa using P2))]
end
theorem Yl{g:db}(h:g.pl<1\/4<g.pl\/g.ns.length<1\/2000<g.ns.length\/200<g.is.length):iF g=2:=by unfold iF;rw[aV h]
theorem Yj{g:db}(h:¬(g.pl<1\/4<g.pl\/g.ns.length<1\/2000<g.ns.length\/200<g.is.length))(ae:rf g g.ns≠0):iF g=rf g g.ns:=by unfold iF;rw[aQ h,aV ae]
theorem Yk{g:db}(h:¬(g.pl<1\/4<g.pl\/g.ns.length<1\/2000<g.ns.length\/200<g.is.length))(ae:rf g g.ns=0)(aD:¬∃es,hE g.ns (g.ns.length+1) (-1) 0 0=some (g.ns.length,es)):iF g=9:=by
 unfold iF;rw[aQ h,aQ (fun q=>q ae)];split
 ·rfl
 ·rename_i n es a6
  rw[aV (fun q=>aD ⟨es,by rw[a6,q]⟩)]
theorem Yi{g:db}(h:¬(g.pl<1\/4<g.pl\/g.ns.length<1\/2000<g.ns.length\/200<g.is.length))(ae:rf g g.ns=0){es:List kA}(aD:hE g.ns (g.ns.length+1) (-1) 0 0=some (g.ns.length,es))(a6:40<vP es):iF g=5:=by
 unfold iF;rw[aQ h,aQ (fun q=>q ae),aD];simp only;rw[aQ (fun q=>q rfl),aV a6]
theorem Es{g:db}(h:¬(g.pl<1\/4<g.pl\/g.ns.length<1\/2000<g.ns.length\/200<g.is.length))(ae:rf g g.ns=0){es:List kA}(aD:hE g.ns (g.ns.length+1) (-1) 0 0=some (g.ns.length,es))(a6:¬40<vP es):iF g=uY g:=by
 unfold iF;rw[aQ h,aQ (fun q=>q ae),aD];simp only;rw[aQ (fun q=>q rfl),aQ a6];rfl
theorem Uo{L vs:List Int}(h:vs.length=L.length):j' L 0 vs=vs:=by
 unfold j';rw[fO,kj,rB I,hi]
section
variable {Q:c7 Tryz.prog}{g0:Nat}{J:aj}
abbrev Oo(gb cK kS cV:Nat)(g:db)(cg:Option Addr)(bS:Nat)(bi:Option Addr)(ci:Nat)(es:List kA):aN:=F7 gb cK kS cV g cg bS bi ci (es.map fun e=>e.1) (es.map fun e=>e.2.1) (es.map fun e=>e.2.2)
def Wz(g:db)(cg:Option Addr)(bS:Nat)(bi:Option Addr)(ci:Nat)(J:aj):Value->aN->aj->Prop:=fun u m' af=>J=af/\∃v,u=.tuple #[v,.int .i64 (iF g)]/\
 (iF g=0->∃es gb cK kS cV,hE g.ns (g.ns.length+1) (-1) 0 0=some (g.ns.length,es)/\v=.pointer (some ⟨gb,0,none⟩)/\m'=Oo gb cK kS cV g cg bS bi ci es)
theorem Og{g:db}{cg bi:Option Addr}{bS ci:Nat}{m':aN}{e:Int}(ad:iF g=e)(ae:e≠0):Wz g cg bS bi ci J (pr [.pointer none,.int .i64 e]) m' J:=
 ⟨rfl,_,by rw[ad];rfl,fun q=>absurd (ad.symm.trans q) ae⟩
theorem awY{g:db}{cg bi:Option Addr}{bS ci:Nat}(ay:pE J g cg bS bi ci):
 Fn (aU Q g0) 43 [uc g cg bS bi ci] [] J (Wz g cg bS bi ci J):=by
 obtain⟨_,lN⟩:=ay.n.at;have uT:addrEq bi bi=true:=ay.i.addr;have uU:addrEq cg cg=true:=ay.n.addr;refine Fn.b5 (b2 Tryz.func43) rfl rfl fun H=>?_;refine rg ?_;refine eQ fun ba=>?_;refine U 0x6042 ?_;refine c4 [1] ?_;refine a2 ?_;refine' az.en 0 [(35,.bool (decide ((g.pl<1\/4<g.pl\/g.ns.length<1\/2000<g.ns.length\/200<g.is.length))))] ?jh ?ji;case jh=>
  refine U 0x1229ba ?_;refine c0 13 (fun g2=>?_) fun g2=>?_
  ·refine U 0x611bdef6146f7bd851bdef6146f7b ?_;exact ce
  ·refine U 0x14114d ?_;refine c0 18 (fun BG=>?_) fun BG=>?_
   ·refine U 0x308def7b0a37bdec28def7b ?_;exact ce
   ·refine U 0x282154d ?_;refine c0 24 (fun BE=>?_) fun BE=>?_
    ·refine U 0xc237bdec28def7b ?_;exact ce
    ·refine U 0x282154d ?_;refine c0 30 (fun BF=>?_) fun BF=>?_
     ·refine U 0x308def7b ?_;exact ce
     ·refine U 0x3082154d ?_;exact ce
 case ji=>
  refine a2 ?_;refine If (fun qP=>?_) fun qP=>?_
  ·refine U 0x357c0859 ?_;refine'⟨.inr rfl,rfl,_,_,.tmp rfl (.tmp rfl .nil),(by exact i' _),?_⟩
   exact Og (Yl qP) bI
  ·refine U 0x105e757 ?_;refine eQ fun DU=>?_;refine U 0x357c04aa6e702 ?_;refine c3 [(42,.int .i64 ((0):Int)),(1,_),(4,_),(40,_),(41,_)] ?_;refine a2 ?_;refine' az.bH (fun(i:Nat)=>⟨[(42,.int .i64 (i:Int))],ke DU g cg bS bi ci (.slice none 0 0) (.slice none 0 0) (.slice none 0 0)::[(ba,.row (np g cg bS bi ci) 25)],J,i<=g.ns.length/\∀x∈g.ns.take i,fK g x=0,g.ns.length -i⟩) (0) ?hs ?a7;case hs=>exact⟨c5 _,fun x aa=>by cases aa⟩
   case a7=>
    rintro i hinv;try simp only at hinv
    obtain⟨ak,ew⟩:=hinv;refine U 0xbe099 ?_;refine If (fun ox=>?_) fun ox=>?_
    ·obtain⟨a,off,cells,bD,rfl,fY,fJ⟩:=lN I;obtain⟨x,cs,aa,g3,_,c1⟩:=fJ i I I;obtain⟨a',bb,bf,br,bV,cc,rfl,hr,mB,lP⟩:=c1;have aL:addrEq a' a'=true:=by obtain⟨e,h⟩:=hr;exact h.addr
     have aG:addrEq bf bf=true:=by obtain⟨e,h⟩:=mB;exact h.addr
     have bt:addrEq bV bV=true:=by obtain⟨e,h⟩:=lP;exact h.addr
     rw[gG] at aa;refine U 0x2cd9d5f57 ?_;refine fa fun e0=>?_;refine U 0xb0e71c ?_;refine' W.step rfl (Exec.call rfl rfl rfl rfl rfl rfl rfl (bm:=[ke DU g _ _ _ _ _ _ _]) (cN:=[_,_]) (j9 1 rfl (j9 0 rfl (j9 0 rfl .nil))) trivial (art hr mB lP I I I uT) ?_);rintro v m' af hle ⟨rfl,rfl,rfl⟩;refine U 0x5f040e702 ?_;refine If (fun sH=>?_) fun sH=>?_
     ·refine U 0x6af810839 ?_;refine'⟨.inr rfl,rfl,_,_,.tmp rfl (.tmp rfl .nil),(by exact i' _),?_⟩
      exact Og ((Yj qP (by rw[Nk ew aa sH];exact sH)).trans (Nk ew aa sH)) sH
     ·refine U 0x3011e757 ?_;refine dN (i+1) ?_ (hm:=.cons_cons _ (.cons _ (.cons_cons _ .slnil)));exact⟨I,y6 ew aa (zg.1 sH)⟩
    ·have e6:∀x∈g.ns,fK g x=0:=by
        rw[cU I] at ew;exact ew
     have ux:=ab3 e6;have Sd:∀x∈g.ns,x.an.length<=60:=fun x aa=>(ab2 (e6 x aa) I).1;refine U 0x5f57 ?_;refine az.draw rfl (by kernel_rfl) (a1:=[.val 0,.val 1,.val 2,.val 3,.val 4,.val 5,.kG 6,.val 7,.val 8,.val 9,.kG 10,.val 11,.val 12,.val 13,.kG 14,.val 15,.val 16,.b9 [13,12,11,9,8,7,5,4,3,2,1,0],.bE 17,.val 18,.val 19,.b9 [13,12,11,9,8,7,2,1],.bE 20,.val 21,.val 22,.b9 [13,12,11,2],.bE 23]) (by kernel_rfl) ?_;refine U 0xaa68421 ?_;refine ct.makeSlice rfl rfl rfl rfl rfl rfl rfl (eW rfl) ?aR ?ad ?ae fun xl=>?_;case aR=>exact ck
     case ad=>exact ck
     case ae=>exact ck
     refine U 0x154d ?_;refine ct.makeSlice rfl rfl rfl rfl rfl rfl rfl (eW rfl) ?aR ?ad ?ae fun K2=>?_;case aR=>exact ck
     case ad=>exact ck
     case ae=>exact ck
     refine U 0x154d ?_;refine ct.makeSlice rfl rfl rfl rfl rfl rfl rfl (eW rfl) ?aR ?ad ?ae fun K3=>?_;case aR=>exact ck
     case ad=>exact ck
     case ae=>exact ck
     refine U 0x18e75b6e75b6e75b6 ?_;rw[afi,gG];refine U 0x53439 ?_;refine' W.step rfl (Exec.call rfl rfl rfl rfl rfl rfl rfl (bm:=F7 DU xl K2 K3 g cg bS bi ci (List.replicate g.ns.length 0) (List.replicate g.ns.length 0) (List.replicate g.ns.length 0)) (cN:=[_]) (j9 3 rfl (j9 2 rfl (j9 1 rfl (j9 0 rfl (j9 0 rfl .nil))))) trivial (awX ay I Sd (g.ns.length+1) 0 (-1) 0 _ _ _ cg bS (c5 _) I (kE) (kE) (kE) I I ay.n) ?_);rintro v m' af hle ⟨b',po,c',ok,vu,OA,hB,rfl,rfl,rfl,sS,Ez,zT,hm⟩;refine U 0x30211ce1 ?_;have bQ:(∃es,hE g.ns (g.ns.length+1) (-1) 0 0=some (g.ns.length,es))↔(ok=true/\po=0):=by
        cases ia:hE g.ns (g.ns.length+1) (-1) 0 0 with
        |none=>rw[ia] at hm;rw[hm];simp
        |some p=>
         obtain⟨b1,ax⟩:=p;rw[ia] at hm;obtain⟨ad,_,_,_,ae,_⟩:=hm;obtain⟨_,aD,_⟩:=J4 _ _ _ _ _ _ ia;rw[jZ] at ae;subst ad;constructor
         ·rintro⟨es,q⟩;injection q with q;injection q with aL aG;exact⟨rfl,I⟩
         ·rintro⟨_,q⟩;exact⟨ax,by rw[show b1=g.ns.length by omega]⟩
     refine c4 [8,9,4] ?_;refine a2 ?_;refine' az.en 2 [(87,.bool (decide ((¬(ok=true/\po=0)))))] ?G5 ?Hh;case G5=>
      refine U 0xc43a ?_;refine c0 83 (fun Q8=>?_) fun Q8=>?_
      ·
        refine U 0x1846f7b ?_;exact ce
      ·
        refine U 0x18410a1 ?_;exact ce
     case Hh=>
      refine a2 ?_;refine If (fun P3=>?_) fun P3=>?_
      ·
        refine U 0x357c0859 ?_;refine'⟨.inr rfl,rfl,_,_,.tmp rfl (.tmp rfl .nil),(by exact .cons_cons _ (.cons_cons _ (.cons_cons _ (.cons_cons _ (i' _))))),?_⟩
        exact Og (Yk qP ux (fun q=>P3 (bQ.1 q))) bI
      ·
        obtain⟨es,ia⟩:=bQ.2 (zg.1 P3);rw[ia] at hm;obtain⟨_,_,he⟩:=J4 _ _ _ _ _ _ ia;obtain⟨_,rfl,rfl,rfl,_,_⟩:=hm;have cI:j' (List.replicate g.ns.length 0) 0 (es.map fun e=>e.1)=es.map fun e=>e.1:=Uo (by simp[he]);have cp:j' (List.replicate g.ns.length 0) 0 (es.map fun e=>e.2.1)=es.map fun e=>e.2.1:=Uo (by simp[he]);have a9:j' (List.replicate g.ns.length 0) 0 (es.map fun e=>e.2.2)=es.map fun e=>e.2.2:=Uo (by simp[he]);rw[cI,cp,a9];have pe:(es.map fun e=>e.2.1).length=g.ns.length:=by simp[he]
        refine U 0x29b60e757 ?_;refine' W.step rfl (Exec.call rfl rfl rfl rfl rfl rfl rfl (bm:=Oo DU xl K2 K3 g cg bS bi ci es) (cN:=[_]) (.refl _) trivial ((by have h:=aqW (Q:=Q) (g0:=g0) (J:=J) (fw:=Oo DU xl K2 K3 g cg bS bi ci es) (l:=es.map fun e=>e.2.1) (c:=g.ns.length) (pQ.own (.tail _ (.tail _ (.head _)))) I I;rw[pe] at h;exact h)) ?_);rintro v m' af hle ⟨rfl,rfl,rfl⟩;refine U 0x5f04 ?_;refine If (fun P5=>?_) fun P5=>?_
        ·refine U 0x357c0859 ?_;refine'⟨.inr rfl,rfl,_,_,.tmp rfl (.tmp rfl .nil),(by exact .cons_cons _ (.cons_cons _ (.cons_cons _ (.cons_cons _ (i' _))))),?_⟩
         have EJ:=XF (by obtain⟨e,r,ad,_,ae,_⟩:=aeo ia;exact⟨e,r,ad,ae⟩:∃e r,es=e::r/\e.2.1=0)
         exact Og (Yi qP ux ia (by rw[EJ];exact P5)) bI
        ·refine U 0x10e757 ?_;refine' W.step rfl (Exec.call rfl rfl rfl rfl rfl rfl rfl (bm:=Oo DU xl K2 K3 g cg bS bi ci es) (cN:=[_]) (.refl _) trivial (aun ay e6 I I) ?_);rintro v m' af hle ⟨rfl,rfl,rfl⟩;refine U 0x1abe042 ?_;refine'⟨.inr rfl,rfl,_,_,.tmp rfl (.tmp rfl .nil),(by exact .cons_cons _ (.cons_cons _ (.cons_cons _ (.cons_cons _ (i' _))))),?_⟩
         have EJ:=XF (by obtain⟨e,r,ad,_,ae,_⟩:=aeo ia;exact⟨e,r,ad,ae⟩:∃e r,es=e::r/\e.2.1=0)
         have anz:=Es qP ux ia (by rw[EJ];exact P5)
         rw[<-anz];exact⟨rfl,_,rfl,fun _=>⟨es,_,_,_,_,ia,rfl,rfl⟩⟩
theorem ak'{g:db}{cg bi:Option Addr}{bS ci:Nat}(ay:pE J g cg bS bi ci):
 Fn (aU Q g0) 18 [uc g cg bS bi ci] [] J (Wy (.int .i64 (iF g)) J):=by
 refine Fn.b5 (b2 Tryz.func18) rfl rfl fun H=>?_;refine rg ?_;refine eQ fun ba=>?_;refine U 0x5e702 ?_;refine' W.step rfl (Exec.call rfl rfl rfl rfl rfl rfl rfl (bm:=[]) (cN:=[_]) (.refl _) trivial (awY ay) ?_);rintro v m' af hle ⟨rfl,w,rfl,_⟩;refine U 0xd5f020e70211ce1 ?_;refine gZ ?_;exact⟨rfl,rfl,aj.le.refl _⟩
end
theorem X9{P:Int->Prop}{l:List Int}{i:Nat}{x:Int}(aa:l[i]?=some x)(aw:P x):∃w∈l,P w:=⟨x,et aa,aw⟩
section
variable {Q:c7 Tryz.prog}{g0:Nat}{J:aj}
theorem atQ{g:db}{cg bi:Option Addr}{bS ci:Nat}{x:eY}{a' bf bV:Option Addr}{bb br cc:Nat}(ae:iL J (.slice bf x.ws.length br) x.ws)(aD:iL J (.slice bV x.ig.length cc) x.ig)(aw:g.pl<=4)(hZ:addrEq bi bi=true)(uU:addrEq cg cg=true)(aL:addrEq a' a'=true):
 Fn (aU Q g0) 56 [uc g cg bS bi ci,CK x a' bb bf br bV cc] [] J (fun u m' af=>u=.int .i64 (fK g x)/\m'=[]/\J=af):=by
 have aG:addrEq bf bf=true:=by obtain⟨e,h⟩:=ae;exact h.addr
 have bt:addrEq bV bV=true:=by obtain⟨e,h⟩:=aD;exact h.addr
 have jA:=ae.Ay [];have uA:=aD.Ay [];refine Fn.b5 (b2 Tryz.func56) rfl rfl fun H=>?_;refine rg ?_;refine eQ fun bd=>?_;refine eQ fun cm=>?_;refine U 0x17c0899d5f0a6e702 ?_;refine If (fun ep=>?_) fun ep=>?_
 ·refine c4 [3] ?_;refine a2 ?_;refine' az.en 0 [(45,.bool (decide ((x.p≠0\/x.i≠0\/0<x.ig.length\/x.an.length<1\/60<x.an.length\/x.ws.length≠x.an.length))))] ?Bl ?Bq;case Bl=>
   refine U 0x1229ba ?_;refine c0 14 (fun al1=>?_) fun al1=>?_
   ·refine U 0xc237bdef7bd851bdef6146f7bd851bdef6146f7b ?_;exact ce
   ·refine U 0x14114d ?_;refine c0 19 (fun HJ=>?_) fun HJ=>?_
    ·refine U 0x611bdef7bdec28def7b0a37bdec28def7b ?_;exact ce
    ·refine U 0x282154d ?_;refine c0 25 (fun alY=>?_) fun alY=>?_
     ·refine U 0x1846f7bdef7b0a37bdec28def7b ?_;exact ce
     ·refine U 0x282154d ?_;refine c0 31 (fun HH=>?_) fun HH=>?_
      ·
        refine U 0x611bdef7bdec28def7b ?_;exact ce
      ·
        refine U 0x282154d ?_;refine c0 37 (fun al0=>?_) fun al0=>?_
        ·refine U 0x1846f7bdef7b ?_;exact ce
        ·refine U 0x18410aa6954d ?_;exact ce
  case Bq=>
   refine a2 ?_;refine If (fun oy=>?_) fun oy=>?_
   ·refine U 0x1abe059 ?_;refine gZ ?_;refine⟨cC (Value.int .i64) ?_,rfl,rfl⟩;unfold fK
    rw[aV ep]
    rw[aV oy]
   ·refine U 0x6af816757 ?_;refine c3 [(5,.int .i64 ((0):Int)),(3,_)] ?_;refine a2 ?_;refine' az.kv (fun(i:Nat)=>⟨[(5,.int .i64 (i:Int))],i<=x.ws.length/\∀w∈x.ws.take i,¬(w<1\/1000<w),x.ws.length -i⟩) (0) ?hs ?a7;case hs=>exact⟨c5 _,fun x aa=>by cases aa⟩
    case a7=>
     rintro i hinv;try simp only at hinv
     obtain⟨ak,ew⟩:=hinv;refine U 0xbe08553439 ?_;refine If (fun sH=>?_) fun sH=>?_
     ·obtain⟨a,off,cells,rfl,my,fJ⟩:=jA I;obtain⟨w,hw,h6⟩:=fJ i I I;rw[gG] at hw;refine U 0xd5f57 ?_;refine c4 [3,5] ?_;refine a2 ?_;refine' az.en 0 [(66,.bool (decide ((w<1\/1000<w))))] ?Qn ?Qy;case Qn=>
       refine U 0x60a9ba ?_;refine' W.step rfl (Exec.val rfl rfl (ik rfl rfl ?ao (gR (fz rfl) ?av)) ?_);case ao=>exact my.sub (fun _ q=>by cases q)
       case av=>assumption
       refine U 0x24 ?_;refine c0 59 (fun al8=>?_) fun al8=>?_
       ·refine U 0xc237fdef7b ?_;exact ce
       ·refine U 0x3054d ?_;refine' W.LR rfl rfl rfl (Exec.val rfl rfl (ik rfl rfl ?ao (gR (fz rfl) ?av)) ?_);case ao=>exact my.sub (fun _ q=>by cases q)
        case av=>assumption
        refine U 0x6104 ?_;exact ce
      case Qy=>
       refine a2 ?_;refine If (fun Bg=>?_) fun Bg=>?_
       ·refine U 0x1abe059 ?_;refine gZ ?_;refine⟨cC (Value.int .i64) ?_,rfl,rfl⟩;unfold fK
        have c:=ep;rw[aV ep]
        rw[aQ oy,aV (X9 hw Bg)]
       ·refine U 0x60430e757 ?_;refine kx (i+1) ?_;exact⟨I,y6 ew hw Bg⟩
     ·refine U 0x6af816757 ?_;refine gZ ?_;refine⟨cC (Value.int .i64) ?_,rfl,rfl⟩;unfold fK
      have c:=ep;rw[aV ep]
      rw[aQ oy,aQ (by rintro⟨w,ad,ae⟩;rw[cU I] at ew;exact ew w ad ae)]
 ·refine U 0x17c0899 ?_;refine If (fun vK=>?_) fun vK=>?_
  ·refine c4 [2,3] ?_;refine a2 ?_;refine' az.en 0 [(90,.bool (decide ((0<x.ig.length\/0<x.ws.length\/x.an.length<1\/10<x.an.length))))] ?Ql ?Qw;case Ql=>
    refine U 0x242a9ba ?_;refine c0 73 (fun alz=>?_) fun alz=>?_
    ·refine U 0x308def7b0a37bdec28def7b ?_;exact ce
    ·refine U 0x282154d ?_;refine c0 79 (fun alx=>?_) fun alx=>?_
     ·refine U 0xc237bdec28def7b ?_;exact ce
     ·refine U 0x282154d ?_;refine c0 85 (fun aly=>?_) fun aly=>?_
      ·
        refine U 0x308def7b ?_;exact ce
      ·
        refine U 0x3082154d ?_;exact ce
   case Qw=>
    refine a2 ?_;refine If (fun Ln=>?_) fun Ln=>?_
    ·refine U 0x1abe059 ?_;refine gZ ?_;refine⟨cC (Value.int .i64) ?_,rfl,rfl⟩;unfold fK
     rw[aQ ep,aV vK]
     rw[aV Ln]
    ·refine hx ?_;refine c4 [2,3] ?_;refine a2 ?_;refine' az.en 2 [(113,.bool (decide ((x.p<0\/g.pl<=x.p\/x.i<0\/(g.is.length:Int)<=x.i))))] ?aiH ?ajE;case aiH=>
      refine U 0x1229ba ?_;refine c0 94 (fun alE=>?_) fun alE=>?_
      ·
        refine U 0xc237bdef7b0a37bd851bdef7b ?_;exact ce
      ·
        refine U 0x5045354d ?_;refine c0 101 (fun alC=>?_) fun alC=>?_
        ·refine U 0x1846f7bdef6146f7b ?_;exact ce
        ·refine U 0x14114d ?_;refine c0 106 (fun alD=>?_) fun alD=>?_
         ·refine U 0xc237bdef7b ?_;exact ce
         ·refine U 0xc20855354d ?_;exact ce
     case ajE=>
      refine a2 ?_;refine If (fun xy=>?_) fun xy=>?_
      ·
        refine U 0x1abe059 ?_;refine gZ ?_;refine⟨cC (Value.int .i64) ?_,rfl,rfl⟩;unfold fK
        rw[aQ ep,aV vK]
        rw[aQ Ln,aV xy]
      ·
        refine U 0x6af816757 ?_;refine gZ ?_;refine⟨cC (Value.int .i64) ?_,rfl,rfl⟩;unfold fK
        rw[aQ ep,aV vK]
        rw[aQ Ln,aQ xy]
  ·refine U 0x17c0899 ?_;refine If (fun GR=>?_) fun GR=>?_
   ·refine c4 [2,3] ?_;refine a2 ?_;refine' az.en 1 [(143,.bool (decide ((x.p≠0\/x.i≠0\/0<x.an.length\/0<x.ws.length\/(x.ig.length:Int)≠g.pl))))] ?xG ?xM;case xG=>
     refine U 0x1229ba ?_;refine c0 119 (fun alK=>?_) fun alK=>?_
     ·refine U 0x1846f7bdef6146f7bd851bdef6146f7b ?_;exact ce
     ·refine U 0x14114d ?_;refine c0 124 (fun Q'=>?_) fun Q'=>?_
      ·
        refine U 0xc237bdef7b0a37bdec28def7b ?_;exact ce
      ·
        refine U 0x282154d ?_;refine c0 130 (fun alH=>?_) fun alH=>?_
        ·refine U 0x308def7bdec28def7b ?_;exact ce
        ·refine U 0x282154d ?_;refine c0 136 (fun alJ=>?_) fun alJ=>?_
         ·refine U 0xc237bdef7b ?_;exact ce
         ·refine U 0xc208a6954d ?_;exact ce
    case xM=>
     refine a2 ?_;refine If (fun D7=>?_) fun D7=>?_
     ·refine U 0x1abe059 ?_;refine gZ ?_;refine⟨cC (Value.int .i64) ?_,rfl,rfl⟩;unfold fK
      rw[aQ ep,aQ vK,aV GR]
      rw[aV D7]
     ·refine U 0x6af816757 ?_;refine c3 [(6,.int .i64 ((0):Int)),(3,_)] ?_;refine a2 ?_;refine' az.kv (fun(i:Nat)=>⟨[(6,.int .i64 (i:Int))],i<=x.ig.length/\∀w∈x.ig.take i,¬(w< -1000000\/1000000<w),x.ig.length -i⟩) (0) ?hs ?a7;case hs=>exact⟨c5 _,fun x aa=>by cases aa⟩
      case a7=>
        rintro i hinv;try simp only at hinv
        obtain⟨ak,ew⟩:=hinv;refine U 0xbe08553439 ?_;refine If (fun ahj=>?_) fun ahj=>?_
        ·obtain⟨a,off,cells,rfl,my,fJ⟩:=uA I;obtain⟨w,hw,h6⟩:=fJ i I I;rw[gG] at hw;refine U 0xd5f57 ?_;refine c4 [3,6] ?_;refine a2 ?_;refine' az.en 0 [(164,.bool (decide ((w< -1000000\/1000000<w))))] ?aiJ ?ajG;case aiJ=>
          refine U 0x60a9ba ?_;refine' W.step rfl (Exec.val rfl rfl (ik rfl rfl ?ao (gR (fz rfl) ?av)) ?_);case ao=>exact my.sub (fun _ q=>by cases q)
          case av=>assumption
          refine U 0x24 ?_;refine c0 157 (fun alT=>?_) fun alT=>?_
          ·refine U 0xc237fdef7b ?_;exact ce
          ·refine U 0x3054d ?_;refine' W.LR rfl rfl rfl (Exec.val rfl rfl (ik rfl rfl ?ao (gR (fz rfl) ?av)) ?_);case ao=>exact my.sub (fun _ q=>by cases q)
           case av=>assumption
           refine U 0x6104 ?_;exact ce
         case ajG=>
          refine a2 ?_;refine If (fun PY=>?_) fun PY=>?_
          ·refine U 0x1abe059 ?_;refine gZ ?_;refine⟨cC (Value.int .i64) ?_,rfl,rfl⟩;unfold fK
           rw[aQ ep,aQ vK,aV GR]
           rw[aQ D7,aV (X9 hw PY)]
          ·refine U 0x60430e757 ?_;refine kx (i+1) ?_;exact⟨I,y6 ew hw PY⟩
        ·refine U 0x6af816757 ?_;refine gZ ?_;refine⟨cC (Value.int .i64) ?_,rfl,rfl⟩;unfold fK
         rw[aQ ep,aQ vK,aV GR]
         rw[aQ D7,aQ (by rintro⟨w,ad,ae⟩;rw[cU I] at ew;exact ew w ad ae)]
   ·refine U 0x1abe059 ?_;refine gZ ?_;refine⟨cC (Value.int .i64) ?_,rfl,rfl⟩;unfold fK
    rw[aQ ep,aQ vK,aQ GR]
end
def sf(g:db)(i:Nat):List (List Int):=(List.range g.is.length).map fun(j:Nat)=>kb (j:Int) 0 (g.ns.take i)
theorem FX{g:db}{i:Nat}:(sf g i).length=g.is.length:=by simp[sf]
theorem NY{g:db}{i j:Nat}(h:j<g.is.length):(sf g i)[j]?=some (kb (j:Int) 0 (g.ns.take i)):=by
 unfold sf;rw[lC,Gn h];rfl
theorem aum{g:db}:sf g 0=List.replicate g.is.length []:=by
 apply ss
 intro j;by_cases aX:j<g.is.length
 ·rw[NY aX,vm,aV aX];rfl
 ·rw[jX (by rw[FX];omega),vm,aQ aX]
theorem auj{g:db}:sf g g.ns.length=jS g:=by unfold sf jS;rw[pM]
theorem auh{j:Int}{x:eY}:∀{l:List eY} {n:Nat},kb j n (l++[x])=kb j n l++(if x.k=2/\x.i=j then[((n+l.length:Nat):Int)] else[]):=by
 intro l;induction l with
 |nil=>intro n;simp only[kj,kb,DG,iD]
 |cons y r aP=>
  intro n;rw[Gm];unfold kb;rw[aP,show n+1+r.length=n+(y::r).length by rw[kR];omega];split<;>rfl
theorem adx{g:db}{j:Int}{i:Nat}{x:eY}(aa:g.ns[i]?=some x):kb j 0 (g.ns.take (i+1))=kb j 0 (g.ns.take i)++(if x.k=2/\x.i=j then[(i:Int)] else[]):=by
 have ak:=(ff.1 aa).1;rw[lD,aa];show kb j 0 (g.ns.take i++[x])=_;rw[auh,eA,g6 I,j2]
theorem auk{g:db}{i:Nat}{x:eY}(aa:g.ns[i]?=some x)(hk:x.k≠2):sf g (i+1)=sf g i:=by
 unfold sf;congr 1
 funext j
 rw[adx aa,aQ (fun q=>hk q.1),hi]
theorem aul{g:db}{i:Nat}{x:eY}(aa:g.ns[i]?=some x)(hk:x.k=2)(aR:0<=x.i)(ad:x.i<g.is.length):sf g (i+1)=(sf g i).set x.i.toNat (kb x.i 0 (g.ns.take i)++[(i:Int)]):=by
 apply ss
 intro j;rw[mS,FX];by_cases aX:j<g.is.length
 ·rw[NY aX,NY aX,adx aa]
  by_cases q:x.i.toNat=j
  ·rw[aV ⟨hk,I⟩,aV q,aV I,show(j:Int)=x.i by omega]
  ·rw[aQ (fun r=>q I),aQ q,hi]
 ·rw[jX (by rw[FX];omega),jX (by rw[FX];omega),aQ I]
theorem aug{j:Int}:∀{l:List eY} {n:Nat},(kb j n l).length<=l.length:=by
 intro l;induction l with
 |nil=>intro n;exact bU _
 |cons y r aP=>
  intro n;have:=aP (n:=n+1);unfold kb;split<;>(simp only[kR];omega)
section
variable {Q:c7 Tryz.prog}{g0:Nat}{J:aj}
abbrev sK(kS:Nat)(d:Int):Nat×dI:=(kS,.row [.int .i64 d] 3)
abbrev Hg(zI:Int)(es:List kA):Int:=es.foldl (fun m e=>max m e.2.1) zI
theorem at6{g:db}{cg bi:Option Addr}{bS ci:Nat}{kS:Nat}(ay:pE J g cg bS bi ci)(df:g.ns.length<=2000)(aq:∀x∈g.ns,x.an.length<=60):∀(f a:Nat) (mg d zI:Int),g.ns.length<a+f->a<=g.ns.length->0<=d->d<=a->
 Fn (aU Q g0) 57 [uc g cg bS bi ci,.int .i64 (a:Int),.int .i64 d,.pointer (some ⟨kS,0,none⟩)] [sK kS zI] J (fun u m' af=>J=af/\∃XJ r,m'=[sK kS XJ]/\u=.int .i64 r/\match hE g.ns f mg d a with
  |none=>r=-1
  |some (b1,es)=>r=(b1:Int)/\XJ=Hg zI es):=by
 obtain⟨_,lN⟩:=ay.n.at;have uT:addrEq bi bi=true:=ay.i.addr;have uU:addrEq cg cg=true:=ay.n.addr;intro f;induction f with
 |zero=>intro a mg d zI ad ae;omega
 |succ f aP=>
 intro a mg d zI aA aF l8 Mk;refine Fn.b5 (b2 Tryz.func57) rfl rfl fun H=>?_;refine rg ?_;refine eQ fun cQ=>?_;refine U 0x2f82154d0e702 ?_;refine If (fun fV=>?_) fun fV=>?_
 ·refine U 0x1abe059 ?_;refine'⟨.inr rfl,rfl,_,[sK kS _],.tmp rfl .nil,(by exact .cons _ (.refl _)),?_⟩;refine⟨rfl,_,_,rfl,rfl,?_⟩
  rw[show hE g.ns (f+1) mg d a=none by unfold hE;rw[jX I]]
 ·obtain⟨K4,off,cells,bD,rfl,fY,fJ⟩:=lN I;obtain⟨x,cs,aa,g3,mx,c1⟩:=fJ a I I;obtain⟨a',bb,bf,br,bV,cc,rfl,hr,mB,lP⟩:=c1;have sY:=mx 3 _ bI rfl;have yn:g.ns[a]?=some x:=by simpa using aa
  have apb:=aq x (et yn);have SI:=hr.Ay [];refine U 0xaac10e757 ?_;refine' W.step rfl (Exec.val rfl rfl (wY rfl rfl rfl rfl rfl) ?_);refine U 0x2fabe059c0861ce396 ?_;refine az.ri (List.Perm.swap _ _ _) ?_;refine c3 [(9,.int .i64 ((a+1):Int)),(10,.int .i64 ((0):Int)),(1,_),(2,_),(3,_),(4,_)] ?_;refine a2 ?_;refine' az.bH (fun(bK:Nat×Nat×(List kA)×Int)=>match bK with|(k,cur,es,d1)=>⟨[(9,.int .i64 (cur:Int)),(10,.int .i64 (k:Int))],[sK kS d1,(cQ,.row (np g (some ⟨K4,off,none⟩) bS bi ci) 25)],J,k<=x.an.length/\jw (hE g.ns f a (d+1)) (x.an.take k) (a+1)=some (cur,es)/\d1=Hg (max zI d) es,x.an.length -k⟩) ⟨0,a+1,[],max zI d⟩ ?hs ?a7
  case hs=>exact⟨c5 _,rfl,rfl⟩
  case a7=>
   rintro⟨k,cur,es,d1⟩ hinv;try simp only at hinv
   obtain⟨hk,q0,EI⟩:=hinv;refine U 0xbe085534c153439 ?_;refine If (fun ow=>?_) fun ow=>?_
   ·obtain⟨dw,aAD,ayf,rfl,my,anG⟩:=SI I;obtain⟨Dm,S',h6⟩:=anG k I I;have Cq:x.an[k]?=some Dm:=by simpa using S'
    obtain⟨p5,gm,qZ⟩:=Ls (fun p q r s=>J4 _ _ _ p q r s) q0 I;refine U 0x60a9a60a9b9d5f57 ?_;refine' W.step rfl (Exec.val rfl rfl (ik rfl rfl ?ao (gR (fz rfl) ?av)) ?_);case ao=>exact my.sub (fun _ q=>by cases q)
    case av=>assumption
    refine U 0xbe081 ?_;refine If (fun zA=>?_) fun zA=>?_
    ·refine U 0x1abe059 ?_;refine'⟨.inr rfl,rfl,_,[sK kS _],.tmp rfl .nil,(by exact .cons_cons _ (i' _)),?_⟩;refine⟨rfl,_,_,rfl,rfl,?_⟩
     rw[N8 yn (Lt (k:=k+1) (by rw[D' q0 Cq,aV zA]))]
    ·refine U 0x8c215e757 ?_;refine' W.step rfl (Exec.call rfl rfl rfl rfl rfl rfl rfl (bm:=[sK kS d1]) (cN:=[_]) (.refl _) trivial (aP cur a (d+1) d1 I gm I I) ?_);rintro v m' af hle ⟨rfl,d2,c2,rfl,rfl,hm⟩;refine U 0x5f040e702 ?_;refine If (fun o7=>?_) fun o7=>?_
     ·refine U 0x1abe059 ?_;refine'⟨.inr rfl,rfl,_,[sK kS _],.tmp rfl .nil,(by exact .cons_cons _ (i' _)),?_⟩;refine⟨rfl,_,_,rfl,rfl,?_⟩
      have:hE g.ns f a (d+1) cur=none:=by
       cases ia:hE g.ns f a (d+1) cur with
       |none=>rfl
       |some p=>obtain⟨b1,ax⟩:=p;rw[ia] at hm;simp only at hm;omega
      rw[N8 yn (Lt (k:=k+1) (by rw[D' q0 Cq,this];split<;>rfl))]
     ·obtain⟨b1,ax,ia,ix,v8⟩:∃b1 ax,hE g.ns f a (d+1) cur=some (b1,ax)/\c2=(b1:Int)/\d2=Hg d1 ax:=by
       cases ia:hE g.ns f a (d+1) cur with
       |none=>rw[ia] at hm;simp only at hm;omega
       |some p=>obtain⟨b1,ax⟩:=p;rw[ia] at hm;exact⟨b1,ax,rfl,hm.1,hm.2⟩
      subst v8;refine U 0x60430e757 ?_;refine dN ⟨k+1,b1,es++ax,Hg d1 ax⟩ ?_;exact⟨I,by rw[D' q0 Cq,aQ I,ia],by rw[EI];simp[Hg,List.foldl_append]⟩
   ·refine U 0xd5f020e757 ?_;refine'⟨.inr rfl,rfl,_,[sK kS _],.tmp rfl .nil,(by exact .cons_cons _ (i' _)),?_⟩;refine⟨rfl,_,_,rfl,rfl,?_⟩
    rw[cU I] at q0
    rw[aep yn q0];exact⟨rfl,EI⟩
end
theorem arB{l:List Value}{j k:Nat}{v:Value}(h:l[j]?=some v)(hk:k=j:=by omega):nth l k=some v:=by subst hk;rw[lT];exact h
theorem auM{l:List Value}{j k:Nat}{v:Value}(h:j<l.length)(hk:k=j:=by omega):gS k l [v]=some (l.set j v):=by
 subst hk;rw[y3 _ _ _ (by simp;omega),OS,aV h];simp
section
variable {Q:c7 Tryz.prog}{g0:Nat}{J:aj}
theorem auo{g:db}{cg bi:Option Addr}{bS ci:Nat}(ay:pE J g cg bS bi ci)(df:g.ns.length<=2000)(i2:g.is.length<=200)(aE:∀x∈g.ns,fK g x=0):
 Fn (aU Q g0) 58 [uc g cg bS bi ci] [] J (fun u m' af=>∃b c,u=.slice b (jS g).length c/\m'=[]/\J.le af/\dD af 45 1 (Wi af) (.slice b (jS g).length c) (jS g)):=by
 obtain⟨_,lN⟩:=ay.n.at;have uT:addrEq bi bi=true:=ay.i.addr;have uU:addrEq cg cg=true:=ay.n.addr;refine Fn.b5 (b2 Tryz.func58) rfl rfl fun H=>?_;refine rg ?_;refine eQ fun ba=>?_;refine U 0xaa6e702 ?_;refine' W.step rfl (.of (nf rfl rfl rfl rfl rfl (eW rfl) ?aR ?ad ?ae fun ho=>?_));case aR=>exact ck
 case ad=>exact ck
 case ae=>exact ck
 refine U 0x302 ?_;rw[VB,gG];refine U 0x1abe059 ?_;refine c3 [(4,.int .i64 ((0):Int)),(1,_),(3,_)] ?_;refine a2 ?_;refine' az.bH (fun(bK:Nat×(List Value)×(List aN)×aN)=>match bK with|(i,vs,lS,BA)=>⟨[(4,.int .i64 (i:Int))],(ho,.row vs 45)::(BA++[(ba,.row (np g cg bS bi ci) 25)]),J,i<=g.ns.length/\tv 3 (sf g i) vs lS/\BA=lS.flatten,g.ns.length -i⟩) ⟨0,List.replicate g.is.length (.slice none 0 0),List.replicate g.is.length [],[]⟩ ?hs ?a7
 case hs=>exact⟨c5 _,by rw[aum];exact tv.init _,ak6.symm⟩
 case a7=>
  rintro⟨i,vs,lS,BA⟩ hinv;try simp only at hinv
  obtain⟨ak,n0,jz⟩:=hinv;refine U 0xbe08553439 ?_;refine If (fun fc=>?_) fun fc=>?_
  ·obtain⟨a,off,cells,bD,rfl,fY,fJ⟩:=lN I;obtain⟨x,cs,aa,g3,_,c1⟩:=fJ i I I;obtain⟨a',bb,bf,br,bV,cc,rfl,hr,mB,lP⟩:=c1;rw[gG] at aa;have e7:=aa;have h6:=aE x (et e7);refine U 0x1660a9b9d5f57 ?_;refine fa fun dw=>?_;refine U 0xbe08a6e71c ?_;refine If (fun sG=>?_) fun sG=>?_
   ·have Ip:=Nj h6 (by simpa using sG);obtain⟨v,bc,ao2,an2,eT⟩:=n0.get (NY (g:=g) (i:=i) (j:=x.i.toNat) I);rw[show((x.i.toNat:Nat):Int)=x.i by omega] at eT;obtain⟨bv,lH,rfl⟩:=eT.form;have aAX:=eT.addr;have azI:nth vs (0+x.i.toNat*1)=some (.slice bv (kb x.i 0 (g.ns.take i)).length lH):=arB ao2;have hlen:(kb x.i 0 (g.ns.take i)).length<=2000:=by have:=aug (j:=x.i) (l:=g.ns.take i) (n:=0);rw[eA] at this;omega
    have mc:vs.length=g.is.length:=by rw[n0.r6,FX]
    have rZ:lS.length=g.is.length:=by rw[n0.Cz,FX]
    refine a2 ?_;refine az.draw rfl (by kernel_rfl) (a1:=[.val 0,.val 1,.val 2,.val 3,.val 4,.val 5,.val 6,.val 7,.val 8,.kG 9,.b9 [8,7,6,5,4,3,2,1,0],.bE 10,.val 11,.b9 [2,1,0],.bE 12]) (by kernel_rfl) ?_;refine U 0x15194d0a9a1 ?_;refine ct.buildSlice rfl rfl rfl rfl rfl rfl (eW rfl) rfl rfl rfl fun axN=>?_;refine ct.b9 fD ?_;refine' ct.vL rfl rfl (afa rfl rfl rfl rfl rfl rfl (eW rfl) (av6 Q g0) (fun i q=>by cases q) ?eT ?hm ?aa ?dT ?dX ?aq fun aBd abD RH=>?_);case eT=>assumption
    case hm=>exact WG (by rw[jz];exact Yh an2)
    case aa=>exact yV
    case dT=>rfl
    case dX=>rfl
    case aq=>exact ck
    obtain⟨ax5,qP,rfl⟩:=RH.form;refine U 0x3a6 ?_;refine' ct.vL rfl rfl (AP rfl rfl rfl rfl (u2 rfl) rfl rfl rfl ?ad ?hs ?aw ?_);case aw=>repeat first|exact .head _ _ _ _|apply gB.tail|apply gB.app
    case hs=>exact auM (j:=x.i.toNat) I
    case ad=>rfl
    refine ct.nil ?_
    have apc:=RH;refine az.ri (WG (ak7 (j:=x.i.toNat) (l:=lS) I)) ?_
    refine U 0x1810c39 ?_;refine dN ⟨i+1,vs.set x.i.toNat _,lS.set x.i.toNat abD,(lS.set x.i.toNat abD).flatten⟩ ?_ (hm:=.cons _ (.cons _ (.refl _)));refine⟨I,?_,rfl⟩;rw[aul e7 (by simpa using sG) Ip.1 Ip.2.1];exact n0.set (by simpa using RH)
   ·refine hx ?_
    skip
    refine U 0x1810c39 ?_;refine dN ⟨i+1,vs,lS,BA⟩ ?_ (hm:=.cons _ (.refl _));refine⟨I,by rw[auk e7 (by simpa using sG)];exact n0,jz⟩
  ·refine U 0x357 ?_;have lk:i=g.ns.length:=I
   rw[lk,auj] at n0;refine az.asY n0 (fo:=(ho,.row vs 45)::[(ba,.row (np g cg bS bi ci) 25)]) (by rw[jz];exact List.perm_middle.symm) fun cZ bG ew=>?_;refine az.ie rfl fun cR=>?_;have hf:=aj2 (aj.iE cZ ho (vs,45)) n0.r6 (by rw[JY];unfold cO;omega) fun j s v ad ae=>(ew j s v ad ae).mono cR;refine U 0x357c0839 ?_;refine gZ ?_;exact⟨some ⟨ho,0,none⟩,(jS g).length,by rw[JY];rfl,rfl,bG.trans cR,hf⟩
end
end
end Go.Opn
