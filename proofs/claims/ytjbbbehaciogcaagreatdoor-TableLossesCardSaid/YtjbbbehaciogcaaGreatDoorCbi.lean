/- A part of the proof of TableLosses. -/
import Derived.Test.YtjbbbehaciogcaaGreatDoorCbh
import Derived.Test.YtjbbbehaciogcaaGreatDoorCbd
import Derived.Test.YtjbbbehaciogcaaGreatDoorCbg
import Derived.Test.YtjbbbehaciogcaaGreatDoorCbf
set_option maxRecDepth 100000
set_option maxHeartbeats 4000000
set_option linter.unusedVariables false
set_option linter.unusedSimpArgs false
namespace Go.Opn
noncomputable section
open Go.Cre Go.RowKit Go.Proofs
theorem Mj{s:List Int}{x:Int}(h:s[0]?=some x):rQ s=x:=by
 cases s with
 |nil=>cases h
 |cons y r=>simp at h;subst h;rfl
section
variable {Q:c7 Tryz.prog}{g0:Nat}{J:aj}
theorem atM{g:db}{cg bi:Option Addr}{bS ci:Nat}(ay:pE J g cg bS bi ci):
 Fn (aU Q g0) 25 [uc g cg bS bi ci] [] J (Wy (.int .i64 (iF g)) J):=by
 obtain⟨_,lN⟩:=ay.n.at;obtain⟨_,B3⟩:=ay.i.at;have uT:addrEq bi bi=true:=ay.i.addr;have uU:addrEq cg cg=true:=ay.n.addr;refine Fn.b5 (b2 Tryz.func25) rfl rfl fun H=>?_;refine rg ?_;refine eQ fun ba=>?_;refine U 0x302 ?_;refine c4 [1] ?_;refine a2 ?_;refine' az.en 0 [(36,.bool (decide ((g.pl<1\/4<g.pl\/g.ns.length<1\/2000<g.ns.length\/200<g.is.length))))] ?jh ?ji;case jh=>
  refine U 0x1229ba ?_;refine c0 14 (fun g2=>?_) fun g2=>?_
  ·refine U 0x611bdef6146f7bd851bdef6146f7b ?_;exact ce
  ·refine U 0x14114d ?_;refine c0 19 (fun BG=>?_) fun BG=>?_
   ·refine U 0x308def7b0a37bdec28def7b ?_;exact ce
   ·refine U 0x282154d ?_;refine c0 25 (fun BE=>?_) fun BE=>?_
    ·refine U 0xc237bdec28def7b ?_;exact ce
    ·refine U 0x282154d ?_;refine c0 31 (fun BF=>?_) fun BF=>?_
     ·refine U 0x308def7b ?_;exact ce
     ·refine U 0x3082154d ?_;exact ce
 case ji=>
  refine a2 ?_;refine If (fun iP=>?_) fun iP=>?_
  ·refine U 0x1abe059 ?_;refine gZ ?_;refine⟨cC (Value.int .i64) ?_,rfl,by exact aj.le.refl _⟩;symm
   exact Yl iP
  ·refine U 0x6af816757 ?_;refine c3 [(3,.int .i64 ((0):Int)),(1,_)] ?_;refine a2 ?_;refine' az.bH (fun(i:Nat)=>⟨[(3,.int .i64 (i:Int))],[(ba,.row (np g cg bS bi ci) 25)],J,i<=g.ns.length/\∀x∈g.ns.take i,fK g x=0,g.ns.length -i⟩) (0) ?hs ?a7;case hs=>exact⟨c5 _,fun x aa=>by cases aa⟩
   case a7=>
    rintro i hinv;try simp only at hinv
    obtain⟨ak,ew⟩:=hinv;refine U 0xbe08553439 ?_;refine If (fun vJ=>?_) fun vJ=>?_
    ·obtain⟨a,off,cells,bD,rfl,fY,fJ⟩:=lN I;obtain⟨x,cs,aa,g3,_,c1⟩:=fJ i I I;obtain⟨a',bb,bf,br,bV,cc,rfl,hr,mB,lP⟩:=c1;have aL:addrEq a' a'=true:=by obtain⟨e,h⟩:=hr;exact h.addr
     have aG:addrEq bf bf=true:=by obtain⟨e,h⟩:=mB;exact h.addr
     have bt:addrEq bV bV=true:=by obtain⟨e,h⟩:=lP;exact h.addr
     rw[gG] at aa;refine U 0x17d5f57 ?_;refine az.draw rfl (by kernel_rfl) (a1:=[.val 0,.val 1,.val 2,.val 3,.val 4,.val 5,.bE 6,.val 7]) (by kernel_rfl) ?_;refine U 0x1660a9ab ?_;refine dl rfl (G:=atQ mB lP I uT uU aL) (h:=?_);rintro v m' af hle ⟨rfl,rfl,rfl⟩;refine U 0x5f040e702 ?_;refine If (fun xz=>?_) fun xz=>?_
     ·refine U 0x357c0839 ?_;refine gZ ?_;refine⟨cC (Value.int .i64) ?_,rfl,by exact aj.le.refl _⟩;symm
      exact(Yj iP (by rw[Nk ew aa xz];exact xz)).trans (Nk ew aa xz)
     ·refine U 0x60430e757 ?_;refine dN (i+1) ?_;exact⟨I,y6 ew aa (zg.1 xz)⟩
    ·have e6:∀x∈g.ns,fK g x=0:=by
        rw[cU I] at ew;exact ew
     have ux:=ab3 e6;have Sd:∀x∈g.ns,x.an.length<=60:=fun x aa=>(ab2 (e6 x aa) I).1;refine U 0x6757 ?_;refine fa fun dw=>?_;refine U 0x5f1c ?_;refine az.draw rfl (by kernel_rfl) (a1:=[.val 0,.val 2,.val 3,.val 4,.bE 1,.val 5,.b9 [4,3,2]]) (by kernel_rfl) ?_;refine U 0x2a9ab ?_;refine' ct.call rfl rfl rfl rfl rfl rfl rfl rfl rfl rfl (bm:=[sK dw 0]) (cN:=[_]) (.refl _) trivial (at6 ay I Sd (g.ns.length+1) 0 (-1) 0 0 I (c5 _) I I) ?_;rintro v m' af hle ⟨rfl,d2,c2,rfl,rfl,hm⟩;refine U 0xbe3a4 ?_;refine If (fun zB=>?_) fun zB=>?_
     ·refine U 0x1abe059 ?_;refine gZ ?_;refine⟨cC (Value.int .i64) ?_,rfl,by exact aj.le.refl _⟩;symm
      exact Yk iP ux (fun⟨es,q⟩=>by rw[q] at hm;simp only at hm;omega)
     ·obtain⟨es,ia,v8⟩:∃es,hE g.ns (g.ns.length+1) (-1) 0 0=some (g.ns.length,es)/\d2=vP es:=by
        cases ia:hE g.ns (g.ns.length+1) (-1) 0 0 with
        |none=>rw[ia] at hm;simp only at hm;omega
        |some p=>obtain⟨b1,ax⟩:=p;rw[ia] at hm;simp only at hm;exact⟨ax,by rw[show b1=g.ns.length by omega],hm.2⟩
      subst v8;refine U 0x5f0456757 ?_;refine If (fun tQ=>?_) fun tQ=>?_
      ·
        refine U 0x1abe059 ?_;refine gZ ?_;refine⟨cC (Value.int .i64) ?_,rfl,by exact aj.le.refl _⟩;symm
        exact Yi iP ux ia tQ
      ·
        refine U 0x6af816757 ?_;refine c3 [(6,.int .i64 ((0):Int)),(1,_)] ?_;refine a2 ?_;refine' az.bH (fun(i:Nat)=>⟨[(6,.int .i64 (i:Int))],[sK dw (vP es),(ba,.row (np g cg bS bi ci) 25)],J,i<=g.ns.length/\∀x∈g.ns.take i,x.k=2->g.is[x.i.toNat]?=some (x.p,(x.an.length:Int)),g.ns.length -i⟩) (0) ?hs ?a7;case hs=>exact⟨c5 _,fun x aa=>by cases aa⟩
        case a7=>
         rintro i hinv;try simp only at hinv
         obtain⟨ak,ew⟩:=hinv;refine U 0xbe08553439 ?_;refine If (fun Bg=>?_) fun Bg=>?_
         ·obtain⟨a,off,cells,bD,rfl,fY,fJ⟩:=lN I;obtain⟨x,cs,aa,g3,_,c1⟩:=fJ i I I;obtain⟨a',bb,bf,br,bV,cc,rfl,hr,mB,lP⟩:=c1;have aL:addrEq a' a'=true:=by obtain⟨e,h⟩:=hr;exact h.addr
          rw[gG] at aa;have h6:=e6 x (et aa);refine U 0x1660a9b9d5f57 ?_;refine fa fun eP=>?_;refine U 0x5f1c ?_;refine az.Br [] rfl (by kernel_rfl) (a1:=[.val 0,.val 1,.val 2,.val 3,.val 4,.val 5,.val 6,.val 7,.val 8,.val 9,.val 10,.val 11,.val 12,.val 13,.val 14,.val 15,.val 16,.val 17,.val 18,.val 19,.val 20,.val 21,.val 22,.val 23,.val 24,.val 25,.val 26,.val 27]) (by kernel_rfl) ?_;refine U 0x914d ?_;refine sA 77 (fun HG=>?_) fun HG=>?_
          ·have Ip:=Nj h6 (by simpa using HG);obtain⟨xn,arR,ahV,aj1,rfl,BO,R4⟩:=B3 I;obtain⟨y,cs,ap,ane,Zt,rfl⟩:=R4 x.i I I;have Ie:=Zt 0 _ bI rfl;have z4:=Zt 1 _ bI rfl;refine U 0x48a6a9a65354d ?_;refine sA 88 (fun Ra=>?_) fun Ra=>?_
           ·refine U 0x1abe059d5f0846f7bdef7bdef7b ?_;refine gZ ?_;refine⟨cC (Value.int .i64) ?_,rfl,by exact aj.le.refl _⟩;symm
            rw[Es iP ux ia tQ]
            unfold uY
            rw[aV ⟨x,et aa,by simpa using HG,fun q=>by rw[ap] at q;injection q with q;rw[q] at Ra;exact Ra rfl⟩]
           ·refine U 0x5f08410aa6a9a65354d ?_;refine If (fun PX=>?_) fun PX=>?_
            ·refine U 0x1abe059 ?_;refine gZ ?_;refine⟨cC (Value.int .i64) ?_,rfl,by exact aj.le.refl _⟩;symm
             rw[Es iP ux ia tQ]
             unfold uY
             rw[aV ⟨x,et aa,by simpa using HG,fun q=>by rw[ap] at q;injection q with q;rw[q] at PX;exact PX rfl⟩]
            ·refine U 0x60430e757 ?_;refine dN (i+1) ?_ (hm:=.cons _ (.refl _));refine⟨I,y6 ew aa fun hk=>?_⟩;(rw[ap];have ax:y.1=x.p:=I;have aS:y.2=(x.an.length:Int):=I;rw[<-ax,<-aS])
          ·refine U 0x3021873abeaf846f7bdef7bdef7bdef7bdef7bdef7b ?_;refine dN (i+1) ?_ (hm:=.cons _ (.refl _));refine⟨I,y6 ew aa fun hk=>?_⟩;exact absurd hk (by simpa using HG)
         ·have hW:¬∃x∈g.ns,x.k=2/\g.is[x.i.toNat]?≠some (x.p,(x.an.length:Int)):=by
           rintro⟨x,ad,ae,aD⟩;rw[cU I] at ew;exact aD (ew x ad ae)
          refine U 0x5e757 ?_;refine bC (G:=auo ay I I e6) (h:=?_);rintro v m' bu aY ⟨km,hq,rfl,rfl,_,hf⟩;refine U 0x302 ?_;obtain⟨_,jl⟩:=hf.at;have n6:(jS g).length<=200:=by rw[JY];omega
          refine U 0x1abe059 ?_;refine c3 [(9,.int .i64 ((0):Int)),(8,_)] ?_;refine a2 ?_;refine' az.bH (fun(i:Nat)=>⟨[(9,.int .i64 (i:Int))],[sK dw (vP es),(ba,.row (np g cg bS bi ci) 25)],bu,i<=(jS g).length/\∀s∈(jS g).take i,s≠[],(jS g).length -i⟩) (0) ?hs ?a7;case hs=>exact⟨c5 _,fun x aa=>by cases aa⟩
          case a7=>
           rintro i hinv;try simp only at hinv
           obtain⟨ak,ew⟩:=hinv;refine U 0x5f0428439 ?_;refine If (fun ahb=>?_) fun ahb=>?_
           ·obtain⟨agK,arS,ahW,m1,rfl,pa,Mm⟩:=jl I;obtain⟨s,cs,hs,g3,mx,b,c,rfl,MC⟩:=Mm i I I;have Ie:=mx 0 _ bI rfl;rw[gG] at hs;refine U 0x17c10aa30439d5f57 ?_;refine If (fun Lg=>?_) fun Lg=>?_
            ·refine U 0x1abe059 ?_;refine gZ ?_;refine⟨cC (Value.int .i64) ?_,rfl,by exact aY⟩;symm
             rw[Es iP ux ia tQ]
             unfold uY
             rw[aQ hW]
             rw[aV ⟨s,et hs,w'.1 I⟩]
            ·refine U 0x60430e757 ?_;refine dN (i+1) ?_;exact⟨I,y6 ew hs (fun q=>by subst q;exact Lg rfl)⟩
           ·have dX:∀s∈jS g,s≠[]:=by
             rw[cU I] at ew;exact ew
            refine U 0x6af816757 ?_;refine c3 [(10,.int .i64 ((1):Int)),(8,_)] ?_;refine a2 ?_;refine' az.bH (fun(i:Nat)=>⟨[(10,.int .i64 (i:Int))],[sK dw (vP es),(ba,.row (np g cg bS bi ci) 25)],bu,1<=i/\(∀(j:Nat) (s t:List Int),j+1<i->(jS g)[j]?=some s->(jS g)[j+1]?=some t->¬rQ t<rQ s),(jS g).length -i⟩) (1) ?hs ?a7;case hs=>exact⟨bU _,fun j s t h=>by omega⟩
            case a7=>
             rintro i hinv;try simp only at hinv
             obtain⟨ak,ew⟩:=hinv;refine U 0x5f0428439 ?_;refine If (fun ahd=>?_) fun ahd=>?_
             ·obtain⟨agK,arS,ahW,m1,rfl,pa,Mm⟩:=jl I;obtain⟨s1,gD,m7,Mi,Zs,a',bb,rfl,aoy⟩:=Mm i I I;obtain⟨oV,jG,eB,azg,anR,gI,vG,rfl,aox⟩:=Mm ((i:Int) -1) I I;have z4:=Zs 0 _ bI rfl;have Ie:=anR 0 _ bI rfl;rw[gG] at m7;have SL:(jS g)[i -1]?=some oV:=by rw[<-eB];congr 1;omega
              have b1:0<s1.length:=V7.2 (dX _ (et m7));have Ji:0<oV.length:=V7.2 (dX _ (et SL));obtain⟨ba,aAB,ayd,rfl,aor,anE⟩:=aoy.Ay [] b1;obtain⟨dn,aAA,Xn,rfl,aoq,anD⟩:=aox.Ay [] Ji;obtain⟨dW,hr,an6⟩:=anE 0 I I;obtain⟨h8,dC,ZH⟩:=anD 0 I I;have aae:s1[0]?=some dW:=hr;have aad:oV[0]?=some h8:=dC;refine U 0x17d5f57 ?_;refine az.draw rfl (by kernel_rfl) (a1:=[.val 0,.val 1,.val 2,.val 3,.val 4,.val 5,.val 6,.val 7,.val 8,.val 9,.val 10,.val 11,.val 12,.val 13]) (by kernel_rfl) ?_;refine U 0x651821 ?_;refine' ct.val rfl rfl rfl rfl (ik rfl rfl ?ao (gR (fz rfl) ?av)) ?_;case ao=>exact aor.sub (fun _ q=>by cases q)
              case av=>assumption
              refine U 0xca30c21 ?_;refine' ct.val rfl rfl rfl rfl (ik rfl rfl ?ao (gR (fz rfl) ?av)) ?_;case ao=>exact aoq.sub (fun _ q=>by cases q)
              case av=>assumption
              refine U 0x5f04 ?_;refine If (fun D6=>?_) fun D6=>?_
              ·refine U 0x1abe059 ?_;refine gZ ?_;refine⟨cC (Value.int .i64) ?_,rfl,by exact aY⟩;symm
               rw[Es iP ux ia tQ]
               unfold uY
               rw[aQ hW]
               rw[aQ (fun⟨s,ad,ae⟩=>dX s ad ae)]
               rw[aV ⟨i -1,oV,s1,SL,by rw[show i -1+1=i by omega];exact m7,by rw[Mj aad,Mj aae];exact D6⟩]
              ·refine U 0x60430e757 ?_;refine dN (i+1) ?_;refine⟨I,fun j s t aX ad ae=>?_⟩;by_cases q:j+1<i;(exact ew j s t q ad ae);(obtain rfl:j=i -1:=by omega);(rw[SL] at ad;rw[show i -1+1=i by omega,m7] at ae;injection ad with ad;injection ae with ae;subst ad;subst ae;rw[Mj aad,Mj aae];omega)
             ·refine U 0x6af816757 ?_;refine gZ ?_;refine⟨cC (Value.int .i64) ?_,rfl,by exact aY⟩;symm
              rw[Es iP ux ia tQ]
              unfold uY
              rw[aQ hW]
              rw[aQ (fun⟨s,ad,ae⟩=>dX s ad ae)]
              rw[aQ (fun⟨j,s,t,ad,ae,aD⟩=>ew j s t (by have:=(ff.1 ae).1;omega) ad ae aD)]
end
end
end Go.Opn
namespace Go.Opn
noncomputable section
open Classical
structure OJ (ns:List eY) (a n:Nat):Prop where
 mg:∀j:Nat,a<j->j<n->∃p x,p<j/\ns[p]?=some x/\(j:Int)∈x.an
 I1:∀(p:Nat) x c,a<=p->p<n->ns[p]?=some x->c∈x.an->(p:Int)<c/\c<(n:Int)
theorem ahX{ns:List eY}{rec:Nat->Option (Nat×List kA)}(ao:∀m n e,rec m=some (n,e)->m<n/\OJ ns m n):∀{cs:List Int} {m n:Nat} {e:List kA},jw rec cs m=some (n,e)->m<=n/\(∀j:Nat,m<=j->j<n->(j:Int)∈cs\/∃p x,p<j/\ns[p]?=some x/\(j:Int)∈x.an)/\(∀(p:Nat) x c,m<=p->p<n->ns[p]?=some x->c∈x.an->(p:Int)<c/\c<(n:Int))/\(∀c∈cs,(m:Int)<=c/\c<(n:Int)):=by
 intro cs;induction cs with
 |nil=>
  intro m n e h;simp only[jw,cn,dr] at h;obtain⟨rfl,rfl⟩:=h;exact⟨bU _,fun j ad ae=>by omega,fun p x c ad ae=>by omega,fun c aC=>by cases aC⟩
 |cons c r aP=>
  intro m n e h
  have h:(if c≠(m:Int) then none else match rec m with
   |none=>none
   |some (b1,es)=>match jw rec r b1 with
    |none=>none
    |some (df,Ho)=>some (df,es++Ho))=some (n,e):=h
  split at h
  ·cases h
  ·rename_i aC;have aC:c=(m:Int):=zg.1 aC;split at h
   ·cases h
   ·rename_i b1 ax ad;obtain⟨ba,bd⟩:=ao _ _ _ ad;split at h
    ·cases h
    ·rename_i df aS ae;simp only[cn,dr] at h;obtain⟨rfl,rfl⟩:=h;obtain⟨a',bf,bV,dx⟩:=aP ae;refine⟨I,fun j aL aG=>?_,fun p x d aL aG aa au=>?_,fun d au=>?_⟩
     ·rcases hH j b1 with q|q
      ·rcases OX aL with z|z
       ·subst z;exact .inl (by rw[aC];exact .head _)
       ·exact .inr (bd.mg j z q)
      ·rcases bf j q aG with z|z
       ·exact .inl (.tail _ z)
       ·exact .inr z
     ·rcases hH p b1 with q|q
      ·have:=bd.I1 p x d aL q aa au;omega
      ·exact bV p x d q aG aa au
     ·rcases gj.1 au with q|q
      ·omega
      ·have:=dx d q;omega
theorem avT{ns:List eY}:∀(f:Nat) (p d:Int) (a n:Nat) (e:List kA),hE ns f p d a=some (n,e)->a<n/\OJ ns a n:=by
 intro f;induction f with
 |zero=>intro p d a n e h;cases h
 |succ f aP=>
  intro p d a n e h;unfold hE at h;split at h
  ·cases h
  ·rename_i x aa;split at h
   ·cases h
   ·rename_i df es ae;simp only[cn,dr] at h;obtain⟨rfl,rfl⟩:=h;obtain⟨a',bf,bV,dx⟩:=ahX (ns:=ns) (fun m n e q=>aP _ _ m n e q) ae;refine⟨I,fun j aL aG=>?_,fun q y c aL aG ap aC=>?_⟩
    ·rcases bf j aL aG with z|z
     ·exact⟨a,x,aL,aa,z⟩
     ·exact z
    ·rcases OX aL with z|z
     ·subst z;rw[aa] at ap;injection ap with ap;subst ap
      have:=dx c aC;omega
     ·exact bV q y c z aG ap aC
theorem tA.Cv{g:db}(h:tA g):OJ g.ns 0 g.ns.length:=by
 obtain⟨es,ad,_⟩:=h.walk;exact(avT _ _ _ _ _ _ ad).2
theorem FB{g:db}{x:eY}(h:fK g x=0):(x.k=1/\1<=x.an.length/\x.an.length<=60)\/(x.k=2/\1<=x.an.length/\x.an.length<=60/\0<=x.p/\x.p<g.pl/\0<=x.i/\x.i<g.is.length)\/(x.k=3/\x.an=[]/\(x.ig.length:Int)=g.pl/\∀w∈x.ig,-1000000<=w/\w<=1000000):=by
 unfold fK at h;split at h
 ·rename_i hk;split at h
  ·omega
  ·left;omega
 ·split at h
  ·rename_i hk;split at h
   ·omega
   ·split at h
    ·omega
    ·right;left;omega
  ·split at h
   ·rename_i hk;split at h
    ·omega
    ·split at h
     ·omega
     ·rename_i ad ae;right;right
      refine⟨hk,oj I,I,fun w hw=>?_⟩;have:¬(w< -1000000\/1000000<w):=fun q=>ae ⟨w,hw,q⟩;omega
   ·omega
theorem tA.last{g:db}(h:tA g):∃x,g.ns[g.ns.length -1]?=some x/\x.k=3:=by
 have ad:=h.b1;have aa:g.ns[g.ns.length -1]?=some (g.ns[g.ns.length -1]'I):=ey I;refine⟨_,aa,?_⟩;have aE:=FB (h.nodes _ (et aa));have hk:∀c∈(g.ns[g.ns.length -1]'I).an,False:=fun c aC=>by
  have:=h.Cv.I1 _ _ c (c5 _) I aa aC;omega
 rcases aE with q|q|q
 ·obtain⟨c,aC⟩:=afJ (l:=(g.ns[g.ns.length -1]'I).an) I;exact(hk c aC).elim
 ·obtain⟨c,aC⟩:=afJ (l:=(g.ns[g.ns.length -1]'I).an) I;exact(hk c aC).elim
 ·exact q.1
structure A4 where
 ab:List bx
 dt:bx
 ak:Int
 lo:Int
def yS(a b:bx):bx:=bk (a.z*b.d+b.z*a.d) (a.d*b.d)
def sO(a b:bx):Prop:=b.z*a.d<a.z*b.d
def ka(ab:List bx)(b:bx)(an:List Int):List bx:=an.foldl (fun l c=>l.set c.toNat b) ab
def atR(ab:List bx)(i:Nat):bx:=(ab[i]?).getD ⟨0,1⟩
def tL (cK:Nat->bx)(pl:Int)(x:eY)(a:bx):bx:=if x.k=2/\x.p=pl then yS a (cK x.i.toNat) else a
def nG(x:eY)(pl:Int):Int:=(x.ig[pl.toNat]?).getD 0
def rm (cK:Nat->bx)(pl:Int)(i:Nat)(x:eY)(s:A4):A4:=
 ⟨ka s.ab (tL cK pl x (atR s.ab i)) x.an,if x.k=3/\sO (atR s.ab i) s.dt then atR s.ab i else s.dt,if x.k=3 then max s.ak (nG x pl) else s.ak,if x.k=3 then min s.lo (nG x pl) else s.lo⟩
def od (cK:Nat->bx)(pl:Int)(ns:List eY):Nat->A4
 |0=>⟨List.replicate ns.length ⟨0,1⟩,⟨0,1⟩,-1000000,1000000⟩
 |i+1=>match ns[i]? with
  |none=>od cK pl ns i
  |some x=>rm cK pl i x (od cK pl ns i)
theorem N2{cK:Nat->bx}{pl:Int}{ns:List eY}{i:Nat}{x:eY}(aa:ns[i]?=some x):od cK pl ns (i+1)=rm cK pl i x (od cK pl ns i):=by
 show(match ns[i]? with|none=>od cK pl ns i|some x=>rm cK pl i x (od cK pl ns i))=_
 rw[aa]
theorem adW{cK:Nat->bx}{pl:Int}{i:Nat}{x:eY}{A:List bx}{dt:bx}{fF gv:Int}(hk:x.k=3)(ay:sO (atR A i) dt):rm cK pl i x ⟨A,dt,fF,gv⟩=⟨ka A (atR A i) x.an,atR A i,max fF (nG x pl),min gv (nG x pl)⟩:=by
 unfold rm tL;rw[aQ (fun q=>by omega),aV ⟨hk,ay⟩,aV hk,aV hk]
theorem adX{cK:Nat->bx}{pl:Int}{i:Nat}{x:eY}{A:List bx}{dt:bx}{fF gv:Int}(hk:x.k=3)(ay:¬sO (atR A i) dt):rm cK pl i x ⟨A,dt,fF,gv⟩=⟨ka A (atR A i) x.an,dt,max fF (nG x pl),min gv (nG x pl)⟩:=by
 unfold rm tL;rw[aQ (fun q=>by omega),aQ (fun q=>ay q.2),aV hk,aV hk]
theorem avf{cK:Nat->bx}{pl:Int}{i:Nat}{x:eY}{A:List bx}{dt:bx}{fF gv:Int}(hk:x.k=2)(aw:x.p=pl):rm cK pl i x ⟨A,dt,fF,gv⟩=⟨ka A (yS (atR A i) (cK x.i.toNat)) x.an,dt,fF,gv⟩:=by
 unfold rm tL;rw[aV ⟨hk,aw⟩,aQ (fun q=>by omega),aQ I,aQ I]
theorem adY{cK:Nat->bx}{pl:Int}{i:Nat}{x:eY}{A:List bx}{dt:bx}{fF gv:Int}(hk:¬x.k=3)(aw:¬(x.k=2/\x.p=pl)):rm cK pl i x ⟨A,dt,fF,gv⟩=⟨ka A (atR A i) x.an,dt,fF,gv⟩:=by
 unfold rm tL;rw[aQ aw,aQ (fun q=>hk q.1),aQ hk,aQ hk]
theorem ave{cK:Nat->bx}{pl:Int}{i:Nat}{x:eY}{A:List bx}{dt:bx}{fF gv:Int}(hk:¬x.k=3):rm cK pl i x ⟨A,dt,fF,gv⟩=⟨ka A (tL cK pl x (atR A i)) x.an,dt,fF,gv⟩:=by
 unfold rm;rw[aQ (fun q=>hk q.1),aQ hk,aQ hk]
theorem agY{cK:Nat->bx}{pl:Int}{x:eY}{a:bx}(hk:x.k=2/\x.p=pl):tL cK pl x a=yS a (cK x.i.toNat):=aV hk
theorem PL{cK:Nat->bx}{pl:Int}{x:eY}{a:bx}(hk:¬(x.k=2/\x.p=pl)):tL cK pl x a=a:=aQ hk
theorem FO{b:bx}:∀{an:List Int} {ab:List bx},(ka ab b an).length=ab.length:=by
 intro an;induction an with
 |nil=>intro ab;rfl
 |cons c r aP=>intro ab;show(ka (ab.set c.toNat b) b r).length=_;rw[aP,im]
theorem acO{b:bx}{ab:List bx}{an:List Int}{k:Nat}{c:Int}(h:an[k]?=some c):ka ab b (an.take (k+1))=(ka ab b (an.take k)).set c.toNat b:=by
 rw[lD,h];unfold ka;rw[List.foldl_append];rfl
theorem as5{b:bx}:∀{an:List Int} {ab:List bx} {j:Nat},(∀c∈an,0<=c)->j<ab.length->(ka ab b an)[j]?=if(j:Int)∈an then some b else ab[j]?:=by
 intro an;induction an with
 |nil=>intro ab j _ _;rw[aQ (fun h=>by cases h)];rfl
 |cons c r aP=>
  intro ab j h aX;show(ka (ab.set c.toNat b) b r)[j]?=_;rw[aP (fun d au=>h d (.tail _ au)) (by rw[im];exact aX)];have aC:=h c (.head _);by_cases q:(j:Int)∈r
  ·rw[aV q,aV (.tail _ q)]
  ·rw[aQ q];by_cases aG:c.toNat=j
   ·rw[aV (by rw[show(j:Int)=c by omega];exact .head _),aG,V4 aX]
   ·rw[OM aG,aQ (fun z=>by rcases gj.1 z with z|z;omega;exact q z)]
theorem as6{b r:bx}:∀{an:List Int} {ab:List bx},r∈ka ab b an->r∈ab\/r=b:=by
 intro an;induction an with
 |nil=>intro ab h;exact .inl h
 |cons c l aP=>
  intro ab h;rcases aP (ab:=ab.set c.toNat b) h with q|q
  ·rcases Wb q with z|z
   ·exact .inl z
   ·exact .inr z
  ·exact .inr q
theorem K9{ab:List bx}{i:Nat}(h:i<ab.length):ab[i]?=some (atR ab i):=by
 unfold atR;rw[ey h];rfl
structure kz (k:Nat) (r:bx):Prop where
 bS:r.hG
 nE:0<=r.z
 n:(ag r.z.natAbs).length<=k
 d:(ag r.d).length<=k
theorem kz.mono{k j:Nat}{r:bx}(h:kz k r)(hk:k<=j):kz j r:=⟨h.bS,h.nE,cX h.n hk,cX h.d hk⟩
theorem PK{k:Nat}(hk:1<=k):kz k ⟨0,1⟩:=⟨⟨by decide,by decide⟩,VR _,by show(ag 0).length<=k;rw[lR];exact c5 _,cX (kJ (x:=1) (k:=1) bI) hk⟩
theorem PJ{k n d:Nat}(au:0<d)(ad:(ag n).length<=k)(ae:(ag d).length<=k):kz k (bk (n:Int) d):=by
 have aD:=Np (z:=(n:Int)) au;rw[iC] at aD;refine⟨me au,?_,cX (nD aD.1) ad,cX (nD aD.2) ae⟩;have:=(Nq (z:=(n:Int)) au).2.1;rcases vh (bk (n:Int) d).z 0 with q|q
 ·have:=this.1 q;omega
 ·exact q
theorem kz.plus{k j:Nat}{a b:bx}(aF:kz k a)(ai:kz j b):kz (k+j+1) (yS a b):=by
 obtain⟨x,aa⟩:∃x:Nat,a.z=x:=⟨a.z.toNat,by have:=aF.nE;omega⟩;obtain⟨y,ap⟩:∃y:Nat,b.z=y:=⟨b.z.toNat,by have:=ai.nE;omega⟩;have ad:=aF.n;have ae:=ai.n;have aD:=aF.d;have a6:=ai.d;rw[aa,iC] at ad;rw[ap,iC] at ae;unfold yS;rw[aa,ap,<-gY,<-gY,<-so];exact PJ (jr aF.bS.1 ai.bS.1) (MZ (pn ad a6) (cX (pn ae aD) (DN (Gq _ _)))) (cX (pn aD a6) (Nat.le_succ _))
structure Wh (n i:Nat) (s:A4):Prop where
 l:s.ab.length=n
 ab:∀r∈s.ab,kz (101*i+1) r
 dt:kz (101*i+1) s.dt
 ak:-1000000<=s.ak/\s.ak<=1000000
 lo:-1000000<=s.lo/\s.lo<=1000000
theorem Pz{n i j:Nat}{s:A4}(h:Wh n i s)(aX:j<n):kz (101*i+1) (atR s.ab j):=h.ab _ (et (K9 (by rw[h.l];exact aX)))
theorem agZ{cK:Nat->bx}{pl:Int}{x:eY}{a:bx}{i:Nat}(pb:∀s,kz 99 (cK s))(aF:kz (101*i+1) a):kz (101*i+102) (tL cK pl x a):=by
 unfold tL;split
 ·exact(aF.plus (pb _)).mono I
 ·exact aF.mono I
theorem NE{g:db}{x:eY}{pl:Int}(h:fK g x=0)(hk:x.k=3)(aR:0<=pl)(ad:pl<g.pl):x.ig[pl.toNat]?=some (nG x pl)/\-1000000<=nG x pl/\nG x pl<=1000000:=by
 rcases FB h with q|q|⟨_,_,bt,du⟩
 ·omega
 ·omega
 ·have aq:pl.toNat<x.ig.length:=I;have e:x.ig[pl.toNat]?=some (nG x pl):=by unfold nG;rw[ey aq];rfl
  exact⟨e,du _ (et e)⟩
theorem FZ{g:db}{cK:Nat->bx}{pl:Int}(h:tA g)(pb:∀s,kz 99 (cK s))(aR:0<=pl)(ad:pl<g.pl):∀i,i<=g.ns.length->Wh g.ns.length i (od cK pl g.ns i):=by
 intro i;induction i with
 |zero=>intro _;exact⟨kE,fun r ao=>by rw[OK ao];exact PK I,PK I,⟨by show(-1000000:Int)<=-1000000;omega,by show(-1000000:Int)<=1000000;omega⟩,⟨by show(-1000000:Int)<=1000000;omega,by show(1000000:Int)<=1000000;omega⟩⟩
 |succ i aP=>
  intro ak;have k:=aP I;have aa:g.ns[i]?=some (g.ns[i]'I):=ey I;have aE:=h.nodes _ (et aa);rw[N2 aa];have aax:=Pz k (j:=i) I;refine⟨by show(ka _ _ _).length=_;rw[FO];exact k.l,fun r ao=>?_,?_,?_,?_⟩
  ·rcases as6 ao with q|q
   ·exact(k.ab r q).mono I
   ·rw[q];exact agZ pb aax
  ·show kz _ (if _ then _ else _);split
   ·exact aax.mono I
   ·exact k.dt.mono I
  ·have apU:=k.ak;show _<=(if _ then _ else _)/\(if _ then _ else _)<=_;split
   ·rename_i hk;have:=NE aE hk aR ad;rw[Int.max_def];split<;>omega
   ·exact apU
  ·have MW:=k.lo;show _<=(if _ then _ else _)/\(if _ then _ else _)<=_;split
   ·rename_i hk;have:=NE aE hk aR ad;rw[Int.min_def];split<;>omega
   ·exact MW
theorem UW{g:db}{cK:Nat->bx}{pl:Int}(h:tA g):(od cK pl g.ns g.ns.length).lo<=(od cK pl g.ns g.ns.length).ak:=by
 obtain⟨x,aa,hk⟩:=h.last;have ad:=h.b1;have e:od cK pl g.ns g.ns.length=od cK pl g.ns (g.ns.length -1+1):=by rw[zp ad]
 rw[e,N2 aa];show(if x.k=3 then min _ _ else _)<=(if x.k=3 then max _ _ else _);rw[aV hk,aV hk];omega
def AM(ns:List eY)(i j:Nat):Prop:=j=0\/∃p x,p<i/\ns[p]?=some x/\(j:Int)∈x.an
theorem aeX{g:db}(h:tA g){i:Nat}(ak:i<g.ns.length):AM g.ns i i:=by
 rcases jq i with q|q
 ·exact .inl q
 ·exact .inr (h.Cv.mg i q ak)
theorem awQ{ns:List eY}{i j:Nat}{x:eY}(aa:ns[i]?=some x)(h:AM ns (i+1) j):AM ns i j\/(j:Int)∈x.an:=by
 rcases h with q|⟨p,y,aL,aG,bt⟩
 ·exact .inl (.inl q)
 ·rcases hH p i with z|z
  ·exact .inl (.inr ⟨p,y,z,aG,bt⟩)
  ·obtain rfl:p=i:=I;rw[aa] at aG;injection aG with aG;subst aG
   exact .inr bt
def o3 (m:List (List cf))(ts:List (List Int))(M:Nat)(s:Nat):bx:=match m[s]?,ts[s]? with
 |some l,some t=>bk (gT (g1 l) M (iJ l) (t.map Int.toNat):Int) (g1 l*M*2)
 |_,_=>⟨0,1⟩
theorem U1:∀{l:List Int} {M:Nat},uZ M l->(((l.map Int.toNat).sum:Nat):Int)=l.sum:=by
 intro l;induction l with
 |nil=>intro M _;rfl
 |cons a l aP=>
  intro M h;have ad:=h a (.head _);rw[rD,vo,vo,so,aP (M:=M) fun s hs=>h s (.tail _ hs)];omega
theorem WV{m:List (List cf)}{ts:List (List Int)}{M:Nat}(hm:∀l∈m,mL l=0)(hs:∀l∈m,qz l)(aI:∀t∈ts,nI M t=0)(l7:M<=1073741824)(p1:0<M)(s:Nat):kz 99 (o3 m ts M s):=by
 unfold o3;split
 ·rename_i l t ad ae;have h7:=hm l (et ad);have aW:=Qh h7 (hs l (et ad));obtain⟨hz,iX,l1,tu⟩:=NU h7;obtain⟨e',fj,pA,Ge⟩:=NV (aI t (et ae));have Gf:(t.map Int.toNat).sum=M:=by have:=U1 pA;omega
  have apN:(ag M).length<=4:=kJ (k:=4) (mU l7 bI);have aT:(ag (g1 l*M)).length<=41+4:=pn aW apN;have bo:(ag (g1 l*M*2)).length<=41+4+1:=pn aT (kJ bI);have cu:=Vi (sa:=g1 l) (b6:=M) (ps:=iJ l) (dO:=t.map Int.toNat);rw[tu,Gf,dP M,<-Nat.mul_two] at cu;exact PJ (jr (jr (tT l1) p1) bI) (cX (nD cu) I) I
 ·exact PK bI
def J7(g:db)(m:List (List cf))(ts:List (List Int)):Prop:=∀(i:Nat) x,g.is[i]?=some x->∃l t,m[i]?=some l/\ts[i]?=some t/\(l.length:Int)=x.2/\(t.length:Int)=x.2
theorem aet{g:db}{m:List (List cf)}{ts:List (List Int)}{i:Nat}{x:Int×Int}{l:List cf}{t:List Int}(aa:g.is[i]?=some x)(aq:m[i]?=some l)(aI:ts[i]?=some t)(h:¬((l.length:Int)=x.2/\(t.length:Int)=x.2)):¬J7 g m ts:=fun q=>by
 obtain⟨l',lx,ad,ae,aD⟩:=q i x aa;rw[aq] at ad;rw[aI] at ae;injection ad with ad;injection ae with ae
 subst ad;subst ae;exact h aD
def uL (cK:Nat->bx)(pl:Int)(g:db):bx:=bk ((od cK pl g.ns g.ns.length).dt.z*((od cK pl g.ns g.ns.length).ak -(od cK pl g.ns g.ns.length).lo)) ((od cK pl g.ns g.ns.length).dt.d*1)
theorem apV{g:db}(h:tA g){i:Nat}{x:eY}(aa:g.ns[i]?=some x){A:List bx}{b:bx}(aq:A.length=g.ns.length)(ak:i<g.ns.length):atR (ka A b x.an) i=atR A i:=by
 have hk:=fun c aC=>h.Cv.I1 i x c (c5 _) ak aa aC;unfold atR;rw[as5 (fun c aC=>by have:=hk c aC;omega) I,aQ (fun q=>by have:=hk _ q;omega)]
theorem abd{g:db}{cK:Nat->bx}{pl:Int}(h:tA g)(pb:∀s,kz 99 (cK s))(aR:0<=pl)(ad:pl<g.pl)(aE:g.ns.length<=60):kz 6100 (uL cK pl g):=by
 have k:=FZ h pb aR ad g.ns.length (bU _);have aT:=UW (cK:=cK) (pl:=pl) h;unfold uL;generalize od cK pl g.ns g.ns.length=S at k aT;obtain⟨x,aa⟩:∃x:Nat,S.dt.z=x:=⟨S.dt.z.toNat,by have:=k.dt.nE;omega⟩;obtain⟨y,ap⟩:∃y:Nat,S.ak -S.lo=y:=⟨(S.ak -S.lo).toNat,I⟩;have bo:=k.dt.n;have cu:=k.ak;have fm:=k.lo;rw[aa,iC] at bo;have iG:(ag y).length<=4:=kJ (k:=4) (mU (show y<=2000000 by omega) bI);rw[aa,ap,<-gY,ha];exact PJ k.dt.bS.1 (cX (pn bo iG) I) (cX k.dt.d I)
end
end Go.Opn
set_option maxHeartbeats 8000000
namespace Go.Opn
noncomputable section
open Go.Cre Go.RowKit Go.Proofs
theorem acP{full new:List Value}{p m:Nat}(h:p+new.length<=full.length):(full.take p++new++full.drop (p+new.length))[m]?=if m<p then full[m]? else if m<p+new.length then new[m -p]? else full[m]?:=by
 have ad:(full.take p).length=p:=by rw[eA];omega
 by_cases q:m<p
 ·rw[aV q,lB,DF I,jY,aV q]
 ·rw[aQ q]
  by_cases aG:m<p+new.length
  ·rw[aV aG,DF (by rw[eX];omega),A0 I,ad]
  ·rw[aQ aG,A0 (by rw[eX];omega),o0,eX,ad]
   congr 1;omega
theorem hh.get{α:Type}{sz:Nat}{R:Nat->α->List Value->Prop}{d:List Value}{xs:List α}(h:hh sz R d xs){i:Nat}{x:α}(aa:xs[i]?=some x):∃cs,takeN sz (pY (0+i*sz) d)=some cs/\R i x cs:=by
 have ak:=(ff.1 aa).1;have hs:i*sz+sz<=xs.length*sz:=by rw[<-o2];exact fq _ ak
 exact⟨_,by rw[j2,xO,y5 (by rw[jZ,h.1];omega)],h.2 i x aa⟩
theorem hh.set{α:Type}{sz:Nat}{R R':Nat->α->List Value->Prop}{d new:List Value}{xs:List α}(h:hh sz R d xs){k p:Nat}{y:α}(aw:p=k*sz)(hk:k<xs.length)(aE:new.length=sz)(c1:∀i x cs,i≠k->R i x cs->R' i x cs)(ap:R' k y new):hh sz R' (d.take p++new++d.drop (p+new.length)) (xs.set k y):=by
 subst aw;have aq:=h.1;have mx:k*sz+sz<=xs.length*sz:=by rw[<-o2];exact fq _ hk
 refine⟨by rw[eX,eX,eA,jZ,im];omega,fun i x aa=>?_⟩;have ak:i<xs.length:=by have:=(ff.1 aa).1;rw[im] at this;exact this
 have azp:i*sz+sz<=xs.length*sz:=by rw[<-o2];exact fq _ ak
 by_cases q:i=k
 ·subst q
  rw[V4 hk] at aa;injection aa with aa;subst aa
  rw[show((d.take (i*sz)++new++d.drop (i*sz+new.length)).drop (i*sz)).take sz=new from ?_]
  ·exact ap
  ·apply ss
   intro j;rw[jY];by_cases C4:j<sz
   ·rw[aV C4,o0,acP I,aQ I,aV I]
    congr 1;omega
   ·rw[aQ C4,jX I]
 ·rw[OM (fun r=>q r.symm)] at aa
  have ae:=c1 _ _ _ q (h.2 i x aa);have au:i*sz+sz<=k*sz\/k*sz+sz<=i*sz:=by
   rcases hH i k with r|r
   ·exact .inl (by rw[<-o2];exact fq _ r)
   ·exact .inr (by rw[<-o2];exact fq _ I)
  rw[show((d.take (k*sz)++new++d.drop (k*sz+new.length)).drop (i*sz)).take sz=(d.drop (i*sz)).take sz from ?_]
  ·exact ae
  ·apply ss
   intro j;rw[jY,jY];by_cases C4:j<sz
   ·rw[aV C4,aV C4,o0,o0,acP I]
    rcases au with r|r
    ·rw[aV I]
    ·rw[aQ I,aQ I]
   ·rw[aQ C4,aQ C4]
theorem Vx{z:List Value}:∀n,(fM z n).length=n*z.length
 |0=>by rw[Ks,jE];rfl
 |n+1=>by rw[AS,eX,Vx n,o2,Gq]
theorem afh{z:List Value}:∀n i,i<n->((fM z n).drop (i*z.length)).take z.length=z
 |0,i,h=>by omega
 |n+1,0,_=>by rw[AS,jE,gO,Wg]
 |n+1,i+1,h=>by
  rw[AS,o2,Gq,<-zk,List.drop_left];exact afh n i I
theorem hh.zero{α:Type}{sz:Nat}{R:Nat->α->List Value->Prop}{z:List Value}{x:α}(n:Nat)(aM:z.length=sz)(h:∀i,R i x z):hh sz R (fM z n) (List.replicate n x):=by
 subst aM;refine⟨by rw[Vx,kE],fun i y ap=>?_⟩;have ak:=(ff.1 ap).1;rw[kE] at ak;rw[vm,aV ak] at ap;injection ap with ap
 subst ap;rw[afh n i ak];exact h i
theorem kz.d'{k:Nat}{r:bx}(h:kz k r):h2 k r:=⟨cX (CF _) h.n,cX (CF _) h.d⟩
theorem Xs{a b:bx}(aF:0<=a.z)(ai:0<=b.z):0<l4 (a.z.natAbs*b.d) (b.z.natAbs*a.d)↔sO a b:=by
 obtain⟨x,aa⟩:∃x:Nat,a.z=x:=⟨a.z.toNat,I⟩;obtain⟨y,ap⟩:∃y:Nat,b.z=y:=⟨b.z.toNat,I⟩;have e:sO a b↔y*a.d<x*b.d:=by
  unfold sO;rw[aa,ap,<-gY,<-gY];omega
 rw[e,aa,ap,iC,iC];unfold l4;split
 ·omega
 ·split<;>omega
section
variable {Q:c7 Tryz.prog}{g0:Nat}{J:aj}
theorem reduced_fn{n d:Nat}{neg:Bool}{v w:Value}(z9:neg=false)(ad:cJ J v n)(ae:cJ J w d)(au:0<d)(ec:(aO n).length<=30000)(dA:(aO d).length<=30000):Fn (aU Q g0) 46 [.bool neg,v,w] [] J (pS J (bk (n:Int) d)):=by
 subst z9;have k0:=ad;have kq:=ae;obtain⟨a',b1,bb,rfl,aL,_,_⟩:=ad.bN;obtain⟨bf,df,br,rfl,aG,_,_⟩:=ae.bN;have ay:Nat.gcd n d≠0:=j1 (xb _ au);have Tu:(aO (Nat.gcd n d)).length<=30000:=cX (jN (OY _ au)) dA;have Yb:(bk (n:Int) d).z=((n / Nat.gcd n d:Nat):Int):=by
  show(n:Int) / ((Nat.gcd (n:Int).natAbs d:Nat):Int)=_;rw[iC,Int.natCast_ediv]
 have XR:(bk (n:Int) d).d=d / Nat.gcd n d:=rfl;have nr:=me (z:=(n:Int)) au;refine Fn.b5 (b2 Tryz.func46) rfl rfl fun H=>?_;refine rg ?_;refine fa fun e0=>?_;refine U 0x8738 ?_;refine bC (G:=Xx k0 kq I I) (h:=?_);rintro v' m' bu aY ⟨_,rfl,lP⟩;have MJ:=lP;obtain⟨bV,ef,cc,rfl,bt,_,_⟩:=lP.bN;refine U 0x210e702 ?_;refine bC (G:=wT (k0.mono aY) MJ I I ay) (h:=?_);rintro v' m' cZ bG ⟨_,rfl,aah⟩;have ao4:=aah;obtain⟨dx,e9,ej,rfl,du,_,_⟩:=aah.bN;refine U 0x21 ?_;refine bC (G:=wT ((kq.mono aY).mono bG) (MJ.mono bG) I I ay) (h:=?_);rintro v' m' gi cR ⟨_,rfl,m8⟩;have qh:=m8;obtain⟨fs,hv,gl,rfl,fU,_,_⟩:=m8.bN;refine bC (G:=Ja (r:=bk (n:Int) d) (by rw[Yb,iC];exact ao4.mono cR) qh (fun _=>by rw[Yb];exact(fW (Int.not_lt.2 (pI _))).symm) (Ly nr) (j1 nr.1) (by have:=jN (show(bk (n:Int) d).d<=d from tC _ _);omega)) (h:=?_);rintro v' m' qI gE ⟨_,rfl,dW,fi,rfl,bM⟩;have ch:=bM;obtain⟨fb,fe,eo,rfl,ih,_,_⟩:=bM.n.bN;obtain⟨iq,mG,fC,rfl,mK,_,_⟩:=bM.d.bN;refine U 0xd5f1c ?_;refine bp ?_;exact⟨((aY.trans bG).trans cR).trans gE,rfl,_,_,rfl,ch⟩
theorem atu{n d:Nat}(aE:n<9223372036854775808)(au:d<9223372036854775808)(l8:0<d):Fn (aU Q g0) 21 [.int .i64 (n:Int),.int .i64 (d:Int)] [] J (pS J (bk (n:Int) d)):=by
 have ec:(aO n).length<=1:=yG I;have dA:(aO d).length<=1:=yG I;refine Fn.b5 (b2 Tryz.func21) rfl rfl fun H=>?_;refine rg ?_;refine fa fun cQ=>?_;refine U 0x120738 ?_;refine bC (G:=TK aE) (h:=?_);rintro v' m' bu aY ⟨_,rfl,m8⟩;have qh:=m8;obtain⟨fs,hv,gl,rfl,fU,_,_⟩:=m8.bN;refine eZ V.kK ?_;refine bC (G:=TK au) (h:=?_);rintro v' m' cZ bG ⟨_,rfl,uH⟩;have qi:=uH;obtain⟨fb,fe,eo,rfl,ih,_,_⟩:=uH.bN;refine bC (G:=reduced_fn (fW I) (qh.mono bG) qi l8 I I) (h:=?_);rintro v' m' gi cR ⟨_,rfl,dW,fi,rfl,bM⟩;have ch:=bM;obtain⟨iq,mG,fC,rfl,mK,_,_⟩:=bM.n.bN;obtain⟨km,m9,hq,rfl,oS,_,_⟩:=bM.d.bN;refine U 0xd5f1c ?_;refine bp ?_;exact⟨(aY.trans bG).trans cR,rfl,_,_,rfl,ch⟩
end
section
variable {Q:c7 Tryz.prog}{g0:Nat}{J:aj}
theorem aqK{g:db}{pl:Int}{cK:Nat->bx}{qL:List bx}{cg bi b:Option Addr}{bS ci c:Nat}(aA:tA g)(ay:pE J g cg bS bi ci)(ma:0<=pl)(r0:pl<g.pl)(pb:∀s,kz 99 (cK s))(dT:g.ns.length<=60)
 (eS:dD J 63 3 (lA J) (.slice b qL.length c) qL)(lL:qL.length=g.is.length)(has:∀s x,g.is[s]?=some x->x.1=pl->qL[s]?=some (cK s)):
 Fn (aU Q g0) 24 [uc g cg bS bi ci,.int .i64 pl,.slice b qL.length c] [] J (pS J (uL cK pl g)):=by
 have ix:=aA.b1;have uT:addrEq bi bi=true:=ay.i.addr;have uU:addrEq cg cg=true:=ay.n.addr;have k6:addrEq b b=true:=eS.addr;obtain⟨_,lN⟩:=ay.n.at;obtain⟨_,Ml⟩:=eS.at;obtain⟨kl,off,cells,bD,rfl,EB,fJ⟩:=lN I;refine Fn.b5 (b2 Tryz.func24) rfl rfl fun H=>?_;refine rg ?_;refine eQ fun cm=>?_;refine fa fun e0=>?_;refine Jo ?_;refine fa fun eP=>?_;refine U 0x54b738 ?_;refine' W.step rfl (.of (nf rfl rfl rfl rfl rfl (eW rfl) ?aR ?ad ?ae fun Pm=>?_));case aR=>exact ck
 case ad=>exact ck
 case ae=>exact ck
 refine U 0x302 ?_;rw[gG];refine U 0xd5f012a5b9c0859 ?_;refine c3 [(23,.int .i64 ((0):Int)),(9,.int .i64 (-1000000)),(10,.int .i64 (1000000)),(1,_),(2,_),(6,_),(7,_),(8,_),(21,_),(22,_)] ?_;refine a2 ?_;refine' az.bH (fun(bK:Nat×(List bx)×bx×Int×Int×(List Value)×Value×Value×aj)=>match bK with|(i,A,dt,fF,gv,d,bl,b7,cq)=>⟨[(23,.int .i64 (i:Int)),(9,.int .i64 fF),(10,.int .i64 gv)],[(Pm,.row d 63),(eP,.row (ko dt bl b7) 63),(e0,.row [.bool false,.slice none 0 0,.slice none 0 0] 63),(cm,.row (np g (some ⟨kl,off,none⟩) bS bi ci) 25)],cq,i<=g.ns.length/\J.le cq/\od cK pl g.ns i=⟨A,dt,fF,gv⟩/\hh 3 (fun _=>lA cq) d A/\gh cq dt bl b7,g.ns.length -i⟩) ⟨0,List.replicate g.ns.length ⟨0,1⟩,⟨0,1⟩,-1000000,1000000,fM [.bool false,.slice none 0 0,.slice none 0 0] g.ns.length,.slice none 0 0,.slice none 0 0,J⟩ ?hs ?a7
 case hs=>exact⟨c5 _,aj.le.refl _,rfl,hh.zero _ rfl fun _=>⟨_,_,rfl,cJ.nil,cJ.nil⟩,cJ.nil,cJ.nil⟩
 case a7=>
  rintro⟨i,A,dt,fF,gv,d,bl,b7,cq⟩ hinv;try simp only at hinv
  obtain⟨ak,cA,al,iv,ch⟩:=hinv;refine U 0xbe099 ?_;refine If (fun sG=>?_) fun sG=>?_
  ·obtain⟨x,cs,aa,g3,mx,c1⟩:=fJ i I I;obtain⟨a',bb,bf,br,bV,cc,rfl,hr,mB,lP⟩:=c1;have aL:addrEq a' a'=true:=by obtain⟨e,h⟩:=hr;exact h.addr
   have aG:addrEq bf bf=true:=by obtain⟨e,h⟩:=mB;exact h.addr
   have bt:addrEq bV bV=true:=by obtain⟨e,h⟩:=lP;exact h.addr
   rw[gG] at aa;have EB:=cA _ _ EB;have e6:=aA.nodes x (et aa);have bn:=FZ aA pb ma r0 i ak;rw[al] at bn;have vZ:A.length=g.ns.length:=bn.l;obtain⟨gD,Mi,v1,v2,rfl,bM⟩:=iv.get (K9 (ab:=A) (i:=i) I);have kH:=bM;obtain⟨dx,e9,ej,rfl,du,_,_⟩:=bM.n.bN;obtain⟨fs,hv,gl,rfl,fU,_,_⟩:=bM.d.bN;have lh:=ch;obtain⟨fb,fe,eo,rfl,ih,_,_⟩:=ch.n.bN;obtain⟨iq,mG,fC,rfl,mK,_,_⟩:=ch.d.bN;have ea:=Pz bn (j:=i) I;have o9:=bn.dt;have Ce:=N2 (cK:=cK) (pl:=pl) aa;rw[al] at Ce;have Ir:x.an.length<=60:=by rcases FB e6 with q|q|q;omega;omega;(rw[q.2.1];decide)
   have Sa:=fun c aC=>aA.Cv.I1 i x c (c5 _) I aa aC;refine U 0x61839d5f57 ?_;refine fa fun zv=>?_;refine U 0x61821ce382 ?_;refine fa fun Pl=>?_;refine U 0x3096e71c ?_;refine c4 [9,10,33,1,2,6,7,8,12,13,21,22,23] ?_;refine a2 ?_;refine' az.lb 3 (fun(bK:(bx)×(bx)×(Int)×(Int)×(Value)×(Value)×(Value)×(Value)×(aj))=>match bK with|(bZ,be,eE,dA,hz,iX,u1,bT,cZ)=>⟨[(9,.int .i64 eE),(10,.int .i64 dA)],[(Pl,.row (ko be u1 bT) 63),(zv,.row [.int .i64 x.k,.int .i64 x.p,.int .i64 x.i,.slice a' x.an.length bb,.slice bf x.ws.length br,.slice bV x.ig.length cc] 72),(Pm,.row d 63),(eP,.row (ko bZ hz iX) 63),(e0,.row [.bool false,.slice none 0 0,.slice none 0 0] 63),(cm,.row (np g (some ⟨kl,off,none⟩) bS bi ci) 25)],cZ,cq.le cZ/\gh cZ bZ hz iX/\gh cZ be u1 bT/\rm cK pl i x ⟨A,dt,fF,gv⟩=⟨ka A be x.an,bZ,eE,dA⟩⟩) ?G1 ?Hf
   case G1=>
    refine U 0x2f81133a ?_;refine If (fun Be=>?_) fun Be=>?_
    ·have sY:x.k=3:=I
     obtain⟨Iw,aof,aog⟩:=NE e6 sY ma r0;obtain⟨B',Ca⟩:=bn.ak;obtain⟨B7,B8⟩:=bn.lo;have SB:=(ff.1 Iw).1;obtain⟨vC,JJ,G9,Hp,rfl,pa,uu⟩:=lP.wR I;have pa:=cA _ _ pa;obtain⟨y,ap,oG⟩:=uu pl.toNat SB;rw[Iw] at ap;injection ap with ap
     subst ap;refine a2 ?_;refine az.draw rfl (by kernel_rfl) (a1:=[.val 0,.val 1,.val 2,.val 3,.val 4,.val 5,.val 6,.val 7,.val 8,.val 9,.val 10,.val 11,.val 12,.val 13,.bE 14,.b9 [13,12,11,10,9,8,7],.bE 15]) (by kernel_rfl) ?_;refine U 0x1260a5a1 ?_;refine' ct.val rfl rfl rfl rfl (wY rfl rfl rfl rfl rfl) ?_;refine U 0x1260a5a1 ?_;refine' ct.val rfl rfl rfl rfl (F3 rfl rfl rfl rfl rfl) ?_;refine OB rfl V.GJ ?_;refine ct.b9 ⟨?h7,?aW,?aT,?bo,?cu,?fm,?iG,trivial⟩ ?_;case h7=>
      refine' e3.val rfl rfl rfl (F3 rfl rfl rfl rfl rfl) rfl ?he;case he=>exact gy
     case aW=>
      refine' e3.val rfl rfl rfl (ik rfl rfl ?ao (gR (fz rfl) ?av)) rfl ?he;case ao=>exact qr
      case av=>assumption
      case he=>exact gy
     case aT=>
      refine' e3.val rfl rfl rfl (Vd rfl rfl rfl (U3 rfl) ?aR ?ad) rfl ?he;case aR=>exact ck
      case ad=>exact ck
      case he=>exact gy
     case bo=>
      refine' e3.val rfl rfl rfl (AJ rfl rfl) rfl ?he;case he=>exact gy
     case cu=>
      refine' e3.val rfl rfl rfl (ik rfl rfl ?ao (gR (fz rfl) ?av)) rfl ?he;case ao=>exact qr
      case av=>rfl
      case he=>exact gy
     case fm=>
      refine' e3.val rfl rfl rfl (qE rfl rfl (qB rfl rfl)) rfl ?he;case he=>exact gy
     case iG=>
      refine' e3.val rfl rfl rfl (AJ rfl rfl) rfl ?he;case he=>exact gy
     refine U 0xc66702 ?_;refine bC (G:=Xq kH lh ea.bS o9.bS ea.nE o9.nE ea.d' o9.d' I I) (h:=?_);rintro v' m' bu aY ⟨rfl,rfl,aY⟩;refine U 0x5f04 ?_;refine If (fun Lj=>?_) fun Lj=>?_
     ·have hD:sO (atR A i) dt:=(Xs ea.nE o9.nE).1 I;refine U 0xc7199 ?_;refine fG ⟨atR A i,atR A i,max fF (nG x pl),min gv (nG x pl),.slice dx e9 ej,.slice fs hv gl,.slice dx e9 ej,.slice fs hv gl,bu⟩ ?_;exact⟨aY,kH.mono aY,kH.mono aY,adW sY hD⟩
     ·have hD:¬sO (atR A i) dt:=fun q=>Lj (by have:=(Xs ea.nE o9.nE).2 q;omega);refine hx ?_;refine fG ⟨dt,atR A i,max fF (nG x pl),min gv (nG x pl),.slice fb fe eo,.slice iq mG fC,.slice dx e9 ej,.slice fs hv gl,bu⟩ ?_;exact⟨aY,lh.mono aY,kH.mono aY,adX sY hD⟩
    ·have sY:¬x.k=3:=I
     refine U 0x17c0899 ?_;refine If (fun D8=>?_) fun D8=>?_
     ·refine U 0x5f040a5b9 ?_;refine If (fun ahu=>?_) fun ahu=>?_
      ·
        have rW:x.k=2:=I
        have MA:x.p=pl:=I
        have hW:=aA.types x (et aa) rW;have EQ:=(ff.1 hW).1;have jB:0<=x.i:=by rcases FB e6 with q|q|q<;>omega
        obtain⟨K4,aAE,ayg,XQ,rfl,l6,anL⟩:=Ml I;obtain⟨r,ayh,ao,azi,azt,e',fj,rfl,p3⟩:=anL x.i I I;rw[has _ _ hW MA] at ao;injection ao with ao
        subst ao;have l6:=cA _ _ l6;have amQ:=p3.mono cA;obtain⟨km,m9,hq,rfl,oS,_,_⟩:=p3.n.bN;obtain⟨ir,qo,ep,rfl,oT,_,_⟩:=p3.d.bN;have wo:eg 8 (dm (atR A i) (.slice dx e9 ej) (.slice fs hv gl)) (dm (atR A i) (.slice dx e9 ej) (.slice fs hv gl))=true:=by simp[eg,je,du,fU,m0]
        have E3:eg 8 (dm (cK x.i.toNat) (.slice km m9 hq) (.slice ir qo ep)) (dm (cK x.i.toNat) (.slice km m9 hq) (.slice ir qo ep))=true:=by simp[eg,je,oS,oT,m0]
        refine a2 ?_;refine az.draw rfl (by kernel_rfl) (a1:=[.val 0,.val 1,.val 2,.val 3,.val 4,.val 5,.bE 6,.bE 7]) (by kernel_rfl) ?_;refine U 0x79864b42c ?_;refine' bz.dE rfl rfl rfl rfl rfl rfl rfl rfl rfl dF (Po kH amQ ea.bS (pb _).bS ea.d' (pb _).d' I I) ?_;rintro v' m' bu aY ⟨_,rfl,dW,fi,rfl,hV⟩;have BM:gh bu (yS (atR A i) (cK x.i.toNat)) dW fi:=hV;obtain⟨kT,tf,dp,rfl,oa,_,_⟩:=hV.n.bN;obtain⟨xq,yE,kn,rfl,JP,_,_⟩:=hV.d.bN;refine U 0x639e ?_;refine fG ⟨dt,yS (atR A i) (cK x.i.toNat),fF,gv,.slice fb fe eo,.slice iq mG fC,.slice kT tf dp,.slice xq yE kn,bu⟩ ?_;exact⟨aY,lh.mono aY,BM,avf rW MA⟩
      ·
        refine hx ?_;refine fG ⟨dt,atR A i,fF,gv,.slice fb fe eo,.slice iq mG fC,.slice dx e9 ej,.slice fs hv gl,cq⟩ ?_;exact⟨aj.le.refl _,lh,kH,adY sY (fun q=>by omega)⟩
     ·refine hx ?_;refine fG ⟨dt,atR A i,fF,gv,.slice fb fe eo,.slice iq mG fC,.slice dx e9 ej,.slice fs hv gl,cq⟩ ?_;exact⟨aj.le.refl _,lh,kH,adY sY (fun q=>by omega)⟩
   case Hf=>
    rintro⟨bZ,be,eE,dA,hz,iX,u1,bT,cZ⟩ hinv;try simp only at hinv
    obtain⟨HU,BL,BI,dB⟩:=hinv;obtain⟨DZ,Fy,fc,rfl,acR,_,_⟩:=BI.n.bN;obtain⟨D1,Fz,fV,rfl,acS,_,_⟩:=BI.d.bN;refine U 0xd5f012a5b9 ?_;refine c3 [(71,.int .i64 ((0):Int)),(1,_),(2,_),(6,_),(7,_),(8,_),(9,_),(10,_),(13,_),(21,_),(22,_),(23,_),(69,_),(70,_)] ?_;refine a2 ?_;refine' az.bH (fun(bK:Nat×(List Value))=>match bK with|(k,d2)=>⟨[(71,.int .i64 (k:Int))],[(Pl,.row (ko be (.slice DZ Fy fc) (.slice D1 Fz fV)) 63),(zv,.row [.int .i64 x.k,.int .i64 x.p,.int .i64 x.i,.slice a' x.an.length bb,.slice bf x.ws.length br,.slice bV x.ig.length cc] 72),(Pm,.row d2 63),(eP,.row (ko bZ hz iX) 63),(e0,.row [.bool false,.slice none 0 0,.slice none 0 0] 63),(cm,.row (np g (some ⟨kl,off,none⟩) bS bi ci) 25)],cZ,k<=x.an.length/\hh 3 (fun _=>lA cZ) d2 (ka A be (x.an.take k)),x.an.length -k⟩) ⟨0,d⟩ ?hs ?a7
    case hs=>exact⟨c5 _,iv.mono fun _ _ _ ⟨p,q,ad,ae⟩=>⟨p,q,ad,ae.mono HU⟩⟩
    case a7=>
     rintro⟨k,d2⟩ hinv;try simp only at hinv
     obtain⟨hk,p7⟩:=hinv;refine U 0xbe099 ?_;refine If (fun Lm=>?_) fun Lm=>?_
     ·obtain⟨at_,Ui,ayi,ayz,rfl,xZ,anI⟩:=hr.wR I;have xZ:=(cA.trans HU) _ _ xZ;obtain⟨jg,zX,azy⟩:=anI k I;obtain⟨p5,gm⟩:=Sa jg (et zX);have v8:=p7.1;rw[FO,vZ] at v8;have fv:(ka A be (x.an.take k)).length=g.ns.length:=by rw[FO,vZ]
      have ur:hh 3 (fun _=>lA cZ) (d2.take (0+jg.toNat*3)++ko be (.slice DZ Fy fc) (.slice D1 Fz fV)++d2.drop (0+jg.toNat*3+3)) (ka A be (x.an.take (k+1))):=by
        rw[acO zX];exact p7.set (new:=ko be (.slice DZ Fy fc) (.slice D1 Fz fV)) (by rw[j2]) I rfl (fun _ _ _ _ q=>q) ⟨_,_,rfl,BI⟩
      refine U 0xcc08738124d9d5f57 ?_;refine' iN ?hs ?_;case hs=>exact y3 _ _ _ (by show 0+jg.toNat*3+3<=d2.length;omega)
      refine U 0x1808f38 ?_;refine dN ⟨k+1,d2.take (0+jg.toNat*3)++ko be (.slice DZ Fy fc) (.slice D1 Fz fV)++d2.drop (0+jg.toNat*3+3)⟩ ?_;exact⟨I,ur⟩
     ·obtain rfl:k=x.an.length:=I
      rw[pM] at p7;refine U 0x3011e757 ?_;refine dN ⟨i+1,ka A be x.an,bZ,eE,dA,d2,hz,iX,cZ⟩ ?_ (hm:=.cons _ (.cons _ (.refl _)));exact⟨I,cA.trans HU,by rw[Ce,dB],p7,BL⟩
  ·obtain rfl:i=g.ns.length:=I
   have bn:=FZ aA pb ma r0 g.ns.length ak;have Ic:=UW (cK:=cK) (pl:=pl) aA;rw[al] at bn Ic;obtain⟨B',Ca⟩:=bn.ak;obtain⟨B7,B8⟩:=bn.lo;have o9:=bn.dt;have B':-1000000<=fF:=B';have Ca:fF<=1000000:=Ca;have B7:-1000000<=gv:=B7;have B8:gv<=1000000:=B8;have Ic:gv<=fF:=Ic;obtain⟨N,jy⟩:∃N:Nat,fF -gv=(N:Int):=⟨(fF -gv).toNat,I⟩;have lh:=ch;obtain⟨fb,fe,eo,rfl,ih,_,_⟩:=ch.n.bN;obtain⟨iq,mG,fC,rfl,mK,_,_⟩:=ch.d.bN;have wo:eg 8 (dm dt (.slice fb fe eo) (.slice iq mG fC)) (dm dt (.slice fb fe eo) (.slice iq mG fC))=true:=by simp[eg,je,ih,mK,m0]
   have nt:uL cK pl g=bk (dt.z*(N:Int)) (dt.d*1):=by unfold uL;rw[al];show bk (dt.z*(fF -gv)) (dt.d*1)=_;rw[jy]
   refine U 0x5f57 ?_;refine az.draw rfl (by kernel_rfl) (a1:=[.val 0,.val 1,.val 2,.val 3,.bE 4,.b9 [0],.bE 5,.bE 6]) (by kernel_rfl) ?_;refine U 0x1842c ?_;rw[jy];refine ct.ace ?_;refine' bz.dE rfl rfl rfl rfl rfl rfl rfl rfl rfl dF (Tj (n:=N) I) ?_;rintro v' m' bu aY ⟨_,rfl,dW,fi,rfl,hV⟩;have BM:=hV;obtain⟨kT,tf,dp,rfl,oa,_,_⟩:=hV.n.bN;obtain⟨xq,yE,kn,rfl,JP,_,_⟩:=hV.d.bN;refine bz.b9 fD ?_;refine' bz.dE rfl rfl rfl rfl rfl rfl rfl rfl rfl (dj (eC rfl) dF) (abH (lh.mono aY) BM o9.bS ⟨Nat.one_pos,afY _⟩ o9.d' (h2.mk (k:=1) (yG (by show(N:Int).natAbs<_;omega)) (yG (show(1:Nat)<18446744073709551616 by decide))) I I) ?_;rintro v' m' cZ bG ⟨_,rfl,dW,fi,rfl,e1⟩;have zS:=e1;obtain⟨K',Ak,j3,rfl,NL,_,_⟩:=e1.n.bN;obtain⟨La,M',tO,rfl,NM,_,_⟩:=e1.d.bN;refine U 0x1abe39e ?_;refine bp ?_;exact⟨cA.trans (aY.trans bG),rfl,_,_,HB nt.symm,zS.cast nt.symm⟩
end
end
end Go.Opn
