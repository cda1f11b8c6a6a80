/- A part of the proof of TableLosses. -/
import Derived.Test.YtjbbbehaciogcaaGreatDoorCas
set_option linter.unusedVariables false
namespace Go.Opn
noncomputable section
structure eY where
 k:Int
 p:Int
 i:Int
 an:List Int
 ws:List Int
 ig:List Int
structure db where
 pl:Int
 ns:List eY
 is:List (Int×Int)
open Classical
def fK (g:db)(x:eY):Int:=
 if x.k=1 then
  if x.p≠0\/x.i≠0\/0<x.ig.length\/x.an.length<1\/60<x.an.length\/x.ws.length≠x.an.length then 3
  else if ∃w∈x.ws,w<1\/1000<w then 2 else 0
 else if x.k=2 then
  if 0<x.ig.length\/0<x.ws.length\/x.an.length<1\/10<x.an.length then 3
  else if x.p<0\/g.pl<=x.p\/x.i<0\/(g.is.length:Int)<=x.i then 2 else 0
 else if x.k=3 then
  if x.p≠0\/x.i≠0\/0<x.an.length\/0<x.ws.length\/(x.ig.length:Int)≠g.pl then 3
  else if ∃w∈x.ig,w< -1000000\/1000000<w then 2 else 0
 else 3
def rf (g:db):List eY->Int
 |[]=>0
 |x::r=>if fK g x≠0 then fK g x else rf g r
abbrev kA:=Int×Int×Int
def jw(rec:Nat->Option (Nat×List kA)):List Int->Nat->Option (Nat×List kA)
 |[],n=>some (n,[])
 |c::r,n=>if c≠(n:Int) then none else match rec n with
  |none=>none
  |some (b1,es)=>match jw rec r b1 with
   |none=>none
   |some (df,Ho)=>some (df,es++Ho)
def hE(ns:List eY):Nat->Int->Int->Nat->Option (Nat×List kA)
 |0,_,_,_=>none
 |f+1,mg,d,a=>match ns[a]? with
  |none=>none
  |some x=>match jw (hE ns f a (d+1)) x.an (a+1) with
   |none=>none
   |some (n,es)=>some (n,(mg,d,(n:Int) -1)::es)
def vP(es:List kA):Int:=es.foldl (fun m e=>max m e.2.1) 0
def kb(i:Int):Nat->List eY->List Int
 |_,[]=>[]
 |j,x::r=>if x.k=2/\x.i=i then(j:Int)::kb i (j+1) r else kb i (j+1) r
def jS(g:db):List (List Int):=(List.range g.is.length).map fun(i:Nat)=>kb (i:Int) 0 g.ns
def rQ(l:List Int):Int:=match l with|[]=>-1|x::_=>x
def iF (g:db):Int:=
 if g.pl<1\/4<g.pl\/g.ns.length<1\/2000<g.ns.length\/200<g.is.length then 2
 else if rf g g.ns≠0 then rf g g.ns
 else match hE g.ns (g.ns.length+1) (-1) 0 0 with
  |none=>9
  |some (n,es)=>
   if n≠g.ns.length then 9
   else if 40<vP es then 5
   else if ∃x∈g.ns,x.k=2/\g.is[x.i.toNat]?≠some (x.p,(x.an.length:Int)) then 10
   else if ∃s∈jS g,s=[] then 18
   else if ∃(i:Nat) (s t:List Int),(jS g)[i]?=some s/\(jS g)[i+1]?=some t/\rQ t<rQ s then 9
   else 0
theorem arv{g:db}:∀{l:List eY},rf g l=0->∀x∈l,fK g x=0:=by
 intro l;induction l with
 |nil=>intro _ x aa;cases aa
 |cons y r aP=>
  intro h x aa;have h:(if fK g y≠0 then fK g y else rf g r)=0:=h;by_cases q:fK g y=0
  ·rw[aQ (fun k=>k q)] at h;rcases gj.1 aa with e|e
   ·rw[e];exact q
   ·exact aP h x e
  ·rw[aV q] at h;exact absurd h q
theorem ab2{g:db}{x:eY}(h:fK g x=0)(aw:g.pl<=4):x.an.length<=60/\x.ws.length<=60/\x.ig.length<=60:=by
 unfold fK at h;split at h
 ·split at h
  ·omega
  ·split at h<;>omega
 ·split at h
  ·split at h
   ·omega
   ·split at h<;>omega
  ·split at h
   ·split at h
    ·omega
    ·split at h<;>omega
   ·omega
structure tA (g:db):Prop where
 dg:1<=g.pl
 yQ:g.pl<=4
 b1:1<=g.ns.length
 df:g.ns.length<=2000
 i2:g.is.length<=200
 nodes:∀x∈g.ns,fK g x=0
 walk:∃es,hE g.ns (g.ns.length+1) (-1) 0 0=some (g.ns.length,es)/\vP es<=40
 types:∀x∈g.ns,x.k=2->g.is[x.i.toNat]?=some (x.p,(x.an.length:Int))
 aA2:∀s∈jS g,s≠[]
theorem QZ{g:db}(h:iF g=0):tA g:=by
 unfold iF at h;split at h
 ·omega
 rename_i ad;split at h
 ·rename_i q;exact absurd h q
 rename_i ae;split at h
 ·omega
 rename_i n es aD;split at h
 ·omega
 rename_i a6;split at h
 ·omega
 rename_i eM;split at h
 ·omega
 rename_i fH;split at h
 ·omega
 rename_i oC;have a6:n=g.ns.length:=zg.1 a6;subst a6;refine⟨I,I,I,I,I,arv (zg.1 ae),⟨es,aD,I⟩,fun x aa hk=>?_,fun s hs q=>oC ⟨s,hs,q⟩⟩;exact jD fun q=>fH ⟨x,aa,hk,q⟩
end
end Go.Opn
set_option maxRecDepth 100000
set_option maxHeartbeats 4000000
set_option linter.unusedSimpArgs false
namespace Go.Opn
noncomputable section
open Go.Cre Go.RowKit Go.Proofs
def pQ(bc:aN)(J:aj)(b:Option Addr)(l:List Int):Prop:=0<l.length->∃a off cells,b=some ⟨a,off,none⟩/\mq bc J a cells/\∀i:Int,0<=i->i<l.length->∃x,l[i.toNat]?=some x/\nth cells (off+i.toNat*1)=some (.int .i64 x)
theorem iL.Ay{J:aj}{b:Option Addr}{n c:Nat}{l:List Int}(h:iL J (.slice b n c) l)(bc:aN):pQ bc J b l:=fun aw=>by
 obtain⟨_,_,aD⟩:=h.get;obtain⟨a,off,cells,e,a6,eM,fH⟩:=aD aw;exact⟨a,off,cells,a6,.ei eM,fH⟩
theorem pQ.own{a:Nat}{e:TypeId}{J:aj}{l:List Int}{m:aN}(h:(a,dI.row (l.map (Value.int .i64)) e)∈m):pQ m J (some ⟨a,0,none⟩) l:=fun aw=>
 ⟨a,0,_,rfl,.own h,fun i i0 i1=>⟨_,ey I,arC i.toNat (ey I)⟩⟩
def vt(J:aj)(x:eY)(cs:List Value):Prop:=∃a' bb bf br bV cc,cs=[.int .i64 x.k,.int .i64 x.p,.int .i64 x.i,.slice a' x.an.length bb,.slice bf x.ws.length br,.slice bV x.ig.length cc]/\iL J (.slice a' x.an.length bb) x.an/\iL J (.slice bf x.ws.length br) x.ws/\iL J (.slice bV x.ig.length cc) x.ig
theorem vt.mono{J af:aj}(hle:J.le af){x:eY}{cs:List Value}(h:vt J x cs):vt af x cs:=by
 obtain⟨a',bb,bf,br,bV,cc,ad,ae,aD,a6⟩:=h;exact⟨a',bb,bf,br,bV,cc,ad,ae.mono hle,aD.mono hle,a6.mono hle⟩
def KC(x:Int×Int)(cs:List Value):Prop:=cs=[.int .i64 x.1,.int .i64 x.2]
structure pE (J:aj) (g:db) (cg:Option Addr) (bS:Nat) (bi:Option Addr) (ci:Nat):Prop where
 n:dD J 72 6 (vt J) (.slice cg g.ns.length bS) g.ns
 i:dD J 59 2 KC (.slice bi g.is.length ci) g.is
theorem pE.mono{J af:aj}(hle:J.le af){g:db}{cg bi:Option Addr}{bS ci:Nat}(h:pE J g cg bS bi ci):pE af g cg bS bi ci:=⟨h.n.mono hle fun _ _ q=>q.mono hle,h.i.mono hle fun _ _ q=>q⟩
abbrev np(g:db)(cg:Option Addr)(bS:Nat)(bi:Option Addr)(ci:Nat):List Value:=[.int .i64 g.pl,.slice cg g.ns.length bS,.slice bi g.is.length ci]
abbrev uc(g:db)(cg:Option Addr)(bS:Nat)(bi:Option Addr)(ci:Nat):Value:=.agg (np g cg bS bi ci).toArray
abbrev af'(v:Value)(J:aj):Value->aN->aj->Prop:=fun w m' af=>w=v/\m'=[]/\af=J
abbrev Wy(v:Value)(J:aj):Value->aN->aj->Prop:=fun w m' af=>w=v/\m'=[]/\J.le af
theorem Acc.addr{e:TypeId}{sz k n c:Nat}{b:Option Addr}{cells:List Value}{bc:aN}(h:Acc e sz (.slice b n c) k cells bc):addrEq b b=true:=by
 cases h<;>simp[addrEq]
theorem agI{P:Int->Bool}{l:List Int}{i:Nat}{x:Int}(aa:l[((i:Nat):Int).toNat]?=some x)(h:(l.take i).any P=false)(aw:P x=false):(l.take (i+1)).any P=false:=by
 rw[gG] at aa;rw[lD,aa,List.any_append,h];simp[aw]
theorem agH{P:Int->Bool}{l:List Int}{i:Nat}{x:Int}(aa:l[((i:Nat):Int).toNat]?=some x)(aw:P x=true):l.any P=true:=by
 rw[List.any_eq_true];exact⟨x,et aa,aw⟩
section
variable {Q:c7 Tryz.prog}{g0:Nat}{J:aj}
def qt(lo ak:Int)(n:Int):Bool:=decide (n<lo)||decide (ak<n)
theorem apv{fw:aN}{b:Option Addr}{c:Nat}{l:List Int}{HA:FuncId}{cap:Array Value}{P:Int->Bool}(aq:pQ fw J b l)(aE:l.length<=1000000)
 (aw:∀x,Fn (aU Q g0) HA (.int .i64 x::cap.toList) fw J (fun u m' af=>u=.bool (P x)/\m'=fw/\J=af)):
 Fn (aU Q g0) 160 [.slice b l.length c,.func (.func HA) #[] cap] fw J (fun u m' af=>∃k,u=.int .i64 k/\(0<=k↔l.any P=true)/\m'=fw/\J=af):=by
 refine Fn.b5 (b2 Tryz.func160) rfl rfl fun H=>?_;refine U 0x357c04a1ce059 ?_;refine c3 [(8,.int .i64 ((0):Int)),(0,_),(1,_),(7,_)] ?_;refine a2 ?_;refine' az.bH (fun(i:Nat)=>⟨[(8,.int .i64 (i:Int))],fw,J,i<=l.length/\(l.take i).any P=false,l.length -i⟩) (0) ?hs ?a7;case hs=>exact⟨c5 _,rfl⟩
 case a7=>
  rintro i hinv;try simp only at hinv
  obtain⟨ak,RJ⟩:=hinv;refine U 0xbe099 ?_;refine If (fun ep=>?_) fun ep=>?_
  ·obtain⟨a,off,cells,rfl,my,fJ⟩:=aq I;obtain⟨x,aa,h6⟩:=fJ i I I;refine U 0x608439c0839d5f57 ?_;refine' W.step rfl (Exec.val rfl rfl (ik rfl rfl ?ao (gR (fz rfl) ?av)) ?_);case ao=>exact my
   case av=>assumption
   refine' W.step rfl (Exec.call rfl rfl rfl rfl rfl rfl rfl (bm:=fw) (cN:=[]) (by simp) trivial (aw x) ?_);rintro v m' af hle ⟨rfl,rfl,rfl⟩;rw[hi];refine ns ?_;refine If (fun kV=>?_) fun kV=>?_
   ·refine U 0x357c0839 ?_;refine ja ?_
    exact⟨_,rfl,⟨fun _=>agH aa (by simpa using kV),fun _=>by omega⟩,rfl,rfl⟩
   ·refine U 0x3011e757 ?_;refine dN (i+1) ?_;exact⟨I,agI aa RJ (by simpa using kV)⟩
  ·refine U 0x6af816757 ?_;refine ja ?_
   refine⟨_,rfl,⟨fun q=>absurd q bI,fun q=>?_⟩,rfl,rfl⟩
   rw[cU I] at RJ;rw[RJ] at q;cases q
theorem aiB{fw:aN}{b:Option Addr}{c:Nat}{l:List Int}{HA:FuncId}{cap:Array Value}{P:Int->Bool}(aq:pQ fw J b l)(aE:l.length<=1000000)
 (aw:∀x,Fn (aU Q g0) HA (.int .i64 x::cap.toList) fw J (fun u m' af=>u=.bool (P x)/\m'=fw/\J=af)):
 Fn (aU Q g0) 149 [.slice b l.length c,.func (.func HA) #[] cap] fw J (fun u m' af=>u=.bool (l.any P)/\m'=fw/\J=af):=by
 refine Fn.b5 (b2 Tryz.func149) rfl rfl fun H=>?_;refine U 0x21ce059 ?_;refine' W.step rfl (Exec.call rfl rfl rfl rfl rfl rfl rfl (bm:=fw) (cN:=[]) (by simp) trivial (apv aq aE aw) ?_);rintro v m' af hle ⟨k,rfl,hk,rfl,rfl⟩;rw[hi];refine U 0x1abe044 ?_;refine ja ?_;refine⟨cC Value.bool ?_,rfl,rfl⟩;rw[qG,Hd];exact hk
theorem aw'{cm cQ:Nat}{lo ak x:Int}{bc:aN}:Fn (aU Q g0) 150 [.int .i64 x,.pointer (some ⟨cm,0,none⟩),.pointer (some ⟨cQ,0,none⟩)] ((cQ,.row [.int .i64 ak] 3)::(cm,.row [.int .i64 lo] 3)::bc) J (fun u m' af=>u=.bool (qt lo ak x)/\m'=((cQ,.row [.int .i64 ak] 3)::(cm,.row [.int .i64 lo] 3)::bc)/\J=af):=by
 refine Fn.b5 (b2 Tryz.func150) rfl rfl fun H=>?_;refine U 0x9141ce059 ?_;refine c0 8 (fun g2=>?_) fun g2=>?_
 ·refine U 0xd5f0246f7b ?_;refine ja ?_;refine⟨cC Value.bool ?_,rfl,rfl⟩;rw[show qt lo ak x=(decide (x<lo)||decide (ak<x)) from rfl];(rw[jx g2];rfl)
 ·refine U 0xd5f0241141 ?_;refine ja ?_;refine⟨cC Value.bool ?_,rfl,rfl⟩;rw[show qt lo ak x=(decide (x<lo)||decide (ak<x)) from rfl];(rw[fW g2];rfl)
theorem On{b:Option Addr}{c:Nat}{l:List Int}{lo ak:Int}{bc:aN}(aq:pQ bc J b l)(aE:l.length<=1000000):Fn (aU Q g0) 129 [.int .i64 lo,.int .i64 ak,.slice b l.length c] bc J (fun u m' af=>u=.int .i64 (if l.any (qt lo ak)=true then 2 else 0)/\m'=[]/\J=af):=by
 refine Fn.b5 (b2 Tryz.func129) rfl rfl fun H=>?_;refine rg ?_;refine eQ fun cm=>?_;refine eQ fun cQ=>?_;refine U 0x120e702 ?_;refine' W.step rfl (Exec.call rfl rfl rfl rfl rfl rfl rfl (bm:=(cQ,.row [.int .i64 ak] 3)::(cm,.row [.int .i64 lo] 3)::bc) (cN:=[]) (by rw[hi];exact .refl _) trivial (aiB (P:=qt lo ak) (fun h=>by obtain⟨a,off,cells,ad,ae,aD⟩:=aq h;exact⟨a,off,cells,ad,ae.cons.cons,aD⟩) aE (fun x=>aw')) ?_);rintro v m' af hle ⟨rfl,rfl,rfl⟩;rw[hi];refine ns ?_;refine If (fun ep=>?_) fun ep=>?_
 ·refine U 0x1abe059 ?_;refine gZ ?_
  exact⟨by rw[aV ep];rfl,rfl,rfl⟩
 ·refine U 0x6af816757 ?_;refine gZ ?_
  exact⟨by rw[aQ (by simp[ep])];rfl,rfl,rfl⟩
end
theorem K7{l:List Int}{lo ak:Int}:l.any (qt lo ak)=true↔∃w∈l,w<lo\/ak<w:=by
 rw[List.any_eq_true];constructor
 ·rintro⟨w,ad,ae⟩;exact⟨w,ad,by simpa[qt] using ae⟩
 ·rintro⟨w,ad,ae⟩;exact⟨w,ad,by simpa[qt] using ae⟩
section
variable {Q:c7 Tryz.prog}{g0:Nat}{J:aj}
abbrev awW(g:db)(cg:Option Addr)(bS:Nat)(bi:Option Addr)(ci:Nat)(jC hy hS:Value):List Value:=[.int .i64 g.pl,.slice cg g.ns.length bS,.slice bi g.is.length ci,jC,hy,hS]
abbrev ke(gb:Nat)(g:db)(cg:Option Addr)(bS:Nat)(bi:Option Addr)(ci:Nat)(jC hy hS:Value):Nat×dI:=(gb,.row (awW g cg bS bi ci jC hy hS) 121)
abbrev CK(x:eY)(a':Option Addr)(bb:Nat)(bf:Option Addr)(br:Nat)(bV:Option Addr)(cc:Nat):Value:=.agg #[.int .i64 x.k,.int .i64 x.p,.int .i64 x.i,.slice a' x.an.length bb,.slice bf x.ws.length br,.slice bV x.ig.length cc]
theorem ahZ{gb:Nat}{g:db}{cg bi:Option Addr}{bS ci:Nat}{jC hy hS:Value}{x:eY}{a' bf bV:Option Addr}{bb br cc:Nat}(ae:iL J (.slice bf x.ws.length br) x.ws)(hk:x.k=1):
 Fn (aU Q g0) 103 [.pointer (some ⟨gb,0,none⟩),CK x a' bb bf br bV cc] [ke gb g cg bS bi ci jC hy hS] J (fun u m' af=>u=.int .i64 (fK g x)/\m'=[ke gb g cg bS bi ci jC hy hS]/\J=af):=by
 refine Fn.b5 (b2 Tryz.func103) rfl rfl fun H=>?_;refine rg ?_;refine eQ fun cm=>?_;refine U 0x302 ?_;refine c4 [3] ?_;refine a2 ?_;refine' az.en 0 [(39,.bool (decide ((x.p≠0\/x.i≠0\/0<x.ig.length\/x.an.length<1\/60<x.an.length\/x.ws.length≠x.an.length))))] ?jh ?ji;case jh=>
  refine U 0x1229ba ?_;refine c0 8 (fun g2=>?_) fun g2=>?_
  ·refine U 0xc237bdef7bd851bdef6146f7bd851bdef6146f7b ?_;exact ce
  ·refine U 0x14114d ?_;refine c0 13 (fun BG=>?_) fun BG=>?_
   ·refine U 0x611bdef7bdec28def7b0a37bdec28def7b ?_;exact ce
   ·refine U 0x282154d ?_;refine c0 19 (fun BE=>?_) fun BE=>?_
    ·refine U 0x1846f7bdef7b0a37bdec28def7b ?_;exact ce
    ·refine U 0x282154d ?_;refine c0 25 (fun BF=>?_) fun BF=>?_
     ·refine U 0x611bdef7bdec28def7b ?_;exact ce
     ·refine U 0x282154d ?_;refine c0 31 (fun alQ=>?_) fun alQ=>?_
      ·
        refine U 0x1846f7bdef7b ?_;exact ce
      ·
        refine U 0x18410aa6954d ?_;exact ce
 case ji=>
  refine a2 ?_;refine If (fun tP=>?_) fun tP=>?_
  ·refine U 0x1abe059 ?_;refine'⟨.inr rfl,rfl,_,_,.tmp rfl .nil,.cons _ (.refl _),?_⟩
   refine⟨?_,rfl,rfl⟩
   unfold fK;rw[aV hk,aV tP];rfl
  ·refine U 0xa6e757 ?_;refine' W.step rfl (Exec.call rfl rfl rfl rfl rfl rfl rfl (bm:=[]) (cN:=[_,_]) (.refl _) trivial (On (ae.Ay []) I) ?_);rintro v m' bu hle ⟨rfl,rfl,rfl⟩;refine U 0xd5f02 ?_;refine'⟨.inr rfl,rfl,_,_,.tmp rfl .nil,.cons _ (.refl _),?_⟩
   refine⟨?_,rfl,rfl⟩
   unfold fK;rw[aV hk,aQ tP];by_cases q:x.ws.any (qt 1 1000)=true
   ·rw[aV q,aV (K7.1 q)];rfl
   ·rw[aQ q,aQ (fun k=>q (K7.2 k))];rfl
theorem Pt{lo ak n:Int}:([n].any (qt lo ak)=true)↔(n<lo\/ak<n):=by simp[qt]
theorem aj3{gb:Nat}{g:db}{cg bi:Option Addr}{bS ci:Nat}{jC hy hS:Value}{x:eY}{a' bf bV:Option Addr}{bb br cc:Nat}(aD:iL J (.slice bV x.ig.length cc) x.ig)(hk:x.k=3)(aw:g.pl<=4)(aL:addrEq a' a'=true)(aG:addrEq bf bf=true)(bt:addrEq bV bV=true):
 Fn (aU Q g0) 105 [.pointer (some ⟨gb,0,none⟩),CK x a' bb bf br bV cc] [ke gb g cg bS bi ci jC hy hS] J (fun u m' af=>u=.int .i64 (fK g x)/\m'=[ke gb g cg bS bi ci jC hy hS]/\J=af):=by
 refine Fn.b5 (b2 Tryz.func105) rfl rfl fun H=>?_;refine rg ?_;refine eQ fun cm=>?_;refine U 0x302 ?_;refine c4 [0,3] ?_;refine a2 ?_;refine' az.en 1 [(35,.bool (decide ((x.p≠0\/x.i≠0\/0<x.an.length\/0<x.ws.length\/(x.ig.length:Int)≠g.pl))))] ?jh ?ji;case jh=>
  refine az.Br [] rfl (by kernel_rfl) (a1:=[.val 0,.val 1,.val 2,.val 3,.val 4,.val 5,.val 6,.val 7,.val 8,.val 9,.val 10,.val 11,.val 12,.val 13,.val 14,.val 15,.val 16,.val 17,.val 18,.val 19,.val 20,.val 21,.val 22,.val 23,.val 24,.val 25,.val 26,.val 27,.val 28,.val 29,.val 30]) (by kernel_rfl) ?_;refine U 0x914d ?_;refine sA 8 (fun g2=>?_) fun g2=>?_
  ·refine U 0xc237bdef7bdef6146f7bd851bdef6146f7b ?_;exact ce
  ·refine U 0x14114d ?_;refine sA 13 (fun BG=>?_) fun BG=>?_
   ·refine U 0x611bdef7bdef7b0a37bdec28def7b ?_;exact ce
   ·refine U 0x282154d ?_;refine sA 19 (fun BE=>?_) fun BE=>?_
    ·refine U 0x1846f7bdef7bdec28def7b ?_;exact ce
    ·refine U 0x282154d ?_;refine sA 25 (fun BF=>?_) fun BF=>?_
     ·refine U 0x611bdef7bdef7b ?_;exact ce
     ·refine U 0x6104535b60954d ?_;exact ce
 case ji=>
  refine a2 ?_;refine If (fun qP=>?_) fun qP=>?_
  ·refine U 0x1abe059 ?_;refine'⟨.inr rfl,rfl,_,_,.tmp rfl .nil,.cons _ (.refl _),?_⟩
   refine⟨?_,rfl,rfl⟩
   unfold fK;rw[aQ (show ¬x.k=1 by omega),aQ (show ¬x.k=2 by omega),aV hk,aV qP];rfl
  ·refine U 0xa6e757 ?_;refine' W.step rfl (Exec.call rfl rfl rfl rfl rfl rfl rfl (bm:=[]) (cN:=[_,_]) (.refl _) trivial (On (aD.Ay []) I) ?_);rintro v m' bu hle ⟨rfl,rfl,rfl⟩;refine U 0xd5f02 ?_;refine'⟨.inr rfl,rfl,_,_,.tmp rfl .nil,.cons _ (.refl _),?_⟩
   refine⟨?_,rfl,rfl⟩
   unfold fK;rw[aQ (show ¬x.k=1 by omega),aQ (show ¬x.k=2 by omega),aV hk,aQ qP];by_cases q:x.ig.any (qt (-1000000) 1000000)=true
   ·rw[aV q,aV (K7.1 q)];rfl
   ·rw[aQ q,aQ (fun k=>q (K7.2 k))];rfl
theorem aq5{gb:Nat}{g:db}{cg bi:Option Addr}{bS ci:Nat}{jC hy hS:Value}{x:eY}{a' bf bV:Option Addr}{bb br cc:Nat}(hk:x.k=2)(r0:1<=g.pl)(aw:g.pl<=4)(ak:g.is.length<=200)(hZ:addrEq bi bi=true):
 Fn (aU Q g0) 104 [.pointer (some ⟨gb,0,none⟩),CK x a' bb bf br bV cc] [ke gb g cg bS bi ci jC hy hS] J (fun u m' af=>u=.int .i64 (fK g x)/\m'=[ke gb g cg bS bi ci jC hy hS]/\J=af):=by
 refine Fn.b5 (b2 Tryz.func104) rfl rfl fun H=>?_;refine rg ?_;refine eQ fun cm=>?_;refine U 0x302 ?_;refine c4 [0,3] ?_;refine a2 ?_;refine' az.en 0 [(27,.bool (decide ((0<x.ig.length\/0<x.ws.length\/x.an.length<1\/10<x.an.length))))] ?jh ?ji;case jh=>
  refine U 0x242a9ba ?_;refine c0 10 (fun Rb=>?_) fun Rb=>?_
  ·refine U 0x308def7b0a37bdec28def7b ?_;exact ce
  ·refine U 0x282154d ?_;refine c0 16 (fun alL=>?_) fun alL=>?_
   ·refine U 0xc237bdec28def7b ?_;exact ce
   ·refine U 0x282154d ?_;refine c0 22 (fun alO=>?_) fun alO=>?_
    ·refine U 0x308def7b ?_;exact ce
    ·refine U 0x3082154d ?_;exact ce
 case ji=>
  refine a2 ?_;refine If (fun jv=>?_) fun jv=>?_
  ·refine U 0x1abe059 ?_;refine'⟨.inr rfl,rfl,_,_,.tmp rfl .nil,.cons _ (.refl _),?_⟩
   refine⟨?_,rfl,rfl⟩
   unfold fK;rw[aQ (show ¬x.k=1 by omega),aV hk,aV jv];rfl
  ·refine U 0x5f57 ?_;refine az.draw rfl (by kernel_rfl) (a1:=[.val 0,.val 1,.val 2,.val 3,.val 4,.val 5,.val 6,.val 7,.kG 8,.b9 [7,6,5,4,3,2,1,0],.bE 9,.val 10]) (by kernel_rfl) ?_;refine U 0x5346a6b6c1 ?_;refine ct.buildSlice rfl rfl rfl rfl rfl rfl (eW rfl) rfl rfl rfl fun agm=>?_;refine ct.b9 fD ?_;refine' ct.call rfl rfl rfl rfl rfl rfl rfl rfl rfl rfl (bm:=[(agm,_)]) (cN:=[_,_]) (.refl _) trivial (On (l:=[x.p]) (pQ.own (.head _)) (by simp)) ?_;rintro v m' bu hle ⟨rfl,rfl,rfl⟩;refine U 0x5f040e702 ?_;refine If (fun tP=>?_) fun tP=>?_
   ·refine U 0x357c0839 ?_;refine'⟨.inr rfl,rfl,_,_,.tmp rfl .nil,.cons _ (.refl _),?_⟩
    refine⟨?_,rfl,rfl⟩
    unfold fK;rw[aQ (show ¬x.k=1 by omega),aV hk,aQ jv];by_cases q:[x.p].any (qt 0 (g.pl -1))=true
    ·rw[aV q,aV (by rw[Pt] at q;omega)];rfl
    ·rw[aQ q] at tP;exact absurd rfl tP
   ·refine U 0x5f57 ?_;refine az.draw rfl (by kernel_rfl) (a1:=[.val 0,.val 1,.val 2,.val 3,.val 4,.val 5,.val 6,.val 7,.val 8,.kG 9,.b9 [8,7,6,5,4,3,2,1,0],.bE 10,.val 11]) (by kernel_rfl) ?_;refine U 0xa68caa6b6c1 ?_;refine ct.buildSlice rfl rfl rfl rfl rfl rfl (eW rfl) rfl rfl rfl fun agn=>?_;refine ct.b9 fD ?_;refine' ct.call rfl rfl rfl rfl rfl rfl rfl rfl rfl rfl (bm:=[(agn,_)]) (cN:=[_,_]) (.refl _) trivial (On (l:=[x.i]) (pQ.own (.head _)) (by simp)) ?_;rintro v m' bu hle ⟨rfl,rfl,rfl⟩;refine U 0xd5f02 ?_;refine'⟨.inr rfl,rfl,_,_,.tmp rfl .nil,.cons _ (.refl _),?_⟩
    refine⟨?_,rfl,rfl⟩
    unfold fK;rw[aQ (show ¬x.k=1 by omega),aV hk,aQ jv];by_cases q:[x.p].any (qt 0 (g.pl -1))=true
    ·rw[aV q] at tP;exact absurd bI tP
    ·by_cases aG:[x.i].any (qt 0 ((g.is.length:Int) -1))=true
     ·rw[aV aG,aV (by rw[Pt] at aG;omega)];rfl
     ·rw[aQ aG,aQ (by rw[Pt] at q aG;omega)];rfl
theorem TZ{gb:Nat}{g:db}{cg bi:Option Addr}{bS ci:Nat}{jC hy hS:Value}{x:eY}{a' bf bV:Option Addr}{bb br cc:Nat}{Yg:FuncId}(aL:addrEq a' a'=true)(aG:addrEq bf bf=true)(bt:addrEq bV bV=true)
 (RY:1<=x.k/\x.k<=3->nth ([.nilFunc,.func (.func 103) #[] #[],.func (.func 104) #[] #[],.func (.func 105) #[] #[]]:List Value) (0+x.k.toNat*1)=some (.func (.func Yg) #[] #[]))
 (aA:1<=x.k/\x.k<=3->Fn (aU Q g0) Yg [.pointer (some ⟨gb,0,none⟩),CK x a' bb bf br bV cc] [ke gb g cg bS bi ci jC hy hS] J (fun u m' af=>u=.int .i64 (fK g x)/\m'=[ke gb g cg bS bi ci jC hy hS]/\J=af)):
 Fn (aU Q g0) 76 [.pointer (some ⟨gb,0,none⟩),CK x a' bb bf br bV cc] [ke gb g cg bS bi ci jC hy hS] J (fun u m' af=>u=.int .i64 (fK g x)/\m'=[ke gb g cg bS bi ci jC hy hS]/\J=af):=by
 refine Fn.b5 (b2 Tryz.func76) rfl rfl fun H=>?_;refine rg ?_;refine eQ fun cm=>?_;refine U 0x86702 ?_;refine fa fun dw=>?_;refine U 0x31c ?_;refine c4 [0,3,5] ?_;refine a2 ?_;refine' az.en 0 [(14,.bool (decide ((x.k<1\/3<x.k))))] ?nj ?nl;case nj=>
  refine U 0x1229ba ?_;refine c0 10 (fun BH=>?_) fun BH=>?_
  ·refine U 0x1846f7b ?_;exact ce
  ·refine U 0x184114d ?_;exact ce
 case nl=>
  refine a2 ?_;refine If (fun fc=>?_) fun fc=>?_
  ·refine U 0x1abe059 ?_;refine'⟨.inr rfl,rfl,_,[ke gb g cg bS bi ci jC hy hS],.tmp rfl .nil,(by exact .cons _ (.cons _ (.refl _))),?_⟩
   refine⟨?_,rfl,rfl⟩
   unfold fK;rw[aQ (show ¬x.k=1 by omega),aQ (show ¬x.k=2 by omega),aQ (show ¬x.k=3 by omega)];rfl
  ·have hk:1<=x.k/\x.k<=3:=I
   refine U 0x5f57 ?_;refine az.draw rfl (by kernel_rfl) (a1:=[.val 0,.val 1,.val 2,.val 3,.val 4,.val 5,.bE 6,.val 7]) (by kernel_rfl) ?_;refine U 0x554d ?_;refine' ct.val rfl rfl rfl rfl (ik rfl rfl ?ao (gR (fz rfl) ?av)) ?_;case ao=>exact qr
   case av=>exact RY hk
   refine U 0x161 ?_;refine' ct.call rfl rfl rfl rfl rfl rfl rfl rfl rfl rfl (bm:=[ke gb g cg bS bi ci jC hy hS]) (cN:=[_,_]) (j9 2 rfl (j9 0 rfl (j9 0 rfl .nil))) trivial (aA hk) ?_;rintro v m' bu hle ⟨rfl,rfl,rfl⟩;refine U 0xd5f02 ?_;refine'⟨.inr rfl,rfl,_,[ke gb g cg bS bi ci jC hy hS],.tmp rfl .nil,(by exact .cons_cons _ (i' _)),?_⟩
   exact⟨rfl,rfl,rfl⟩
theorem art{gb:Nat}{g:db}{cg bi:Option Addr}{bS ci:Nat}{jC hy hS:Value}{x:eY}{a' bf bV:Option Addr}{bb br cc:Nat}(ad:iL J (.slice a' x.an.length bb) x.an)(ae:iL J (.slice bf x.ws.length br) x.ws)(aD:iL J (.slice bV x.ig.length cc) x.ig)(r0:1<=g.pl)(aw:g.pl<=4)(ak:g.is.length<=200)(hZ:addrEq bi bi=true):
 Fn (aU Q g0) 76 [.pointer (some ⟨gb,0,none⟩),CK x a' bb bf br bV cc] [ke gb g cg bS bi ci jC hy hS] J (fun u m' af=>u=.int .i64 (fK g x)/\m'=[ke gb g cg bS bi ci jC hy hS]/\J=af):=by
 have aL:addrEq a' a'=true:=by obtain⟨e,h⟩:=ad;exact h.addr
 have aG:addrEq bf bf=true:=by obtain⟨e,h⟩:=ae;exact h.addr
 have bt:addrEq bV bV=true:=by obtain⟨e,h⟩:=aD;exact h.addr
 by_cases aW:x.k=1
 ·exact TZ aL aG bt (fun _=>by rw[aW];rfl) (fun _=>ahZ ae aW)
 by_cases aT:x.k=2
 ·exact TZ aL aG bt (fun _=>by rw[aT];rfl) (fun _=>aq5 aT r0 aw ak hZ)
 ·exact TZ aL aG bt (fun _=>by rw[show x.k=3 by omega];rfl) (fun _=>aj3 aD I aw aL aG bt)
end
end
end Go.Opn
namespace Go.Opn
noncomputable section
theorem Lr(rec:Nat->Option (Nat×List kA))(c:Int)(r:List Int)(n:Nat):jw rec (c::r) n=if c≠(n:Int) then none else match rec n with
 |none=>none
 |some (b1,es)=>match jw rec r b1 with
  |none=>none
  |some (df,Ho)=>some (df,es++Ho):=rfl
theorem Xo(rec:Nat->Option (Nat×List kA)):∀(a b:List Int) (n:Nat),jw rec (a++b) n=match jw rec a n with
 |none=>none
 |some (b1,ax)=>match jw rec b b1 with
  |none=>none
  |some (df,aS)=>some (df,ax++aS):=by
 intro a;induction a with
 |nil=>
  intro b n;show jw rec b n=_;cases h:jw rec b n with
  |none=>simp[jw,h]
  |some p=>simp[jw,h]
 |cons c a aP=>
  intro b n;show jw rec (c::(a++b)) n=_;rw[Lr,Lr];by_cases aC:c≠(n:Int)
  ·rw[aV aC,aV aC]
  ·rw[aQ aC,aQ aC];cases ao:rec n with
   |none=>rfl
   |some p=>
    obtain⟨b1,ax⟩:=p;simp only
    rw[aP b b1];cases aF:jw rec a b1 with
    |none=>rfl
    |some q=>
     obtain⟨df,aS⟩:=q;simp only
     cases ai:jw rec b df with
     |none=>rfl
     |some r=>obtain⟨ef,cl⟩:=r;simp
theorem ahY(rec:Nat->Option (Nat×List kA))(c:Int)(n:Nat):jw rec [c] n=if c≠(n:Int) then none else rec n:=by
 rw[Lr];split
 ·rfl
 ·cases h:rec n with
  |none=>rfl
  |some p=>obtain⟨b1,ax⟩:=p;simp[jw]
theorem D'{rec:Nat->Option (Nat×List kA)}{cs:List Int}{n k:Nat}{c:Int}{cur:Nat}{es:List kA}(h:jw rec (cs.take k) n=some (cur,es))(aC:cs[k]?=some c):
 jw rec (cs.take (k+1)) n=if c≠(cur:Int) then none else match rec cur with
  |none=>none
  |some (b1,ax)=>some (b1,es++ax):=by
 rw[lD,aC];show jw rec (cs.take k++[c]) n=_;rw[Xo,h];simp only[ahY];by_cases q:c≠(cur:Int)
 ·rw[aV q,aV q]
 ·rw[aQ q,aQ q]
theorem Lt{rec:Nat->Option (Nat×List kA)}{cs:List Int}{n k:Nat}(h:jw rec (cs.take k) n=none):jw rec cs n=none:=by
 have:=Xo rec (cs.take k) (cs.drop k) n;rw[Gp,h] at this;exact this
theorem Ls{ns:List eY}{rec:Nat->Option (Nat×List kA)}(ao:∀n b1 e,rec n=some (b1,e)->n<b1/\b1<=ns.length/\e.length=b1 -n):∀{cs:List Int} {n b1:Nat} {e:List kA},jw rec cs n=some (b1,e)->n<=ns.length->n<=b1/\b1<=ns.length/\e.length=b1 -n:=by
 intro cs;induction cs with
 |nil=>intro n b1 e h aE;simp only[jw,cn,dr] at h;obtain⟨rfl,rfl⟩:=h;exact⟨bU _,aE,by simp⟩
 |cons c cs aP=>
  intro n b1 e h aE;rw[Lr] at h;split at h
  ·cases h
  ·split at h
   ·cases h
   ·rename_i df aS ae;obtain⟨ba,bd,cm⟩:=ao _ _ _ ae;split at h
    ·cases h
    ·rename_i ef cl aD;simp only[cn,dr] at h;obtain⟨rfl,rfl⟩:=h;obtain⟨a',bf,bV⟩:=aP aD bd;exact⟨I,bf,by rw[eX];omega⟩
theorem J4{ns:List eY}:∀(f:Nat) (p d:Int) (n b1:Nat) (e:List kA),hE ns f p d n=some (b1,e)->n<b1/\b1<=ns.length/\e.length=b1 -n:=by
 intro f;induction f with
 |zero=>intro p d n b1 e h;cases h
 |succ f aP=>
  intro p d n b1 e h;unfold hE at h;split at h
  ·cases h
  ·rename_i x aa;have cD:=(ff.1 aa).1;split at h
   ·cases h
   ·rename_i df es ae;simp only[cn,dr] at h;obtain⟨rfl,rfl⟩:=h;obtain⟨a',bf,bV⟩:=Ls (fun a b c q=>aP _ _ a b c q) ae I;exact⟨I,bf,by rw[kR];omega⟩
def j'(L:List Int)(a:Nat)(vs:List Int):List Int:=L.take a++vs++L.drop (a+vs.length)
theorem C2{L:List Int}{a:Nat}{vs:List Int}(h:a+vs.length<=L.length):(j' L a vs).length=L.length:=by
 unfold j';simp only[eX,eA,jZ];omega
theorem as3(L:List Int)(a:Nat):j' L a []=L:=by simp[j']
theorem Up{L:List Int}{a b:Nat}{vs ws:List Int}(h:a+vs.length<=L.length)(ai:b=a+vs.length):j' (j' L a vs) b ws=j' L a (vs++ws):=by
 subst ai;unfold j';have ad:(L.take a++vs).length=a+vs.length:=by rw[eX,eA];omega
 rw[afT I,cU I,KJ,oi I,ad,kj,zk,eX,<-lB];congr 2
 omega
theorem ady{L:List Int}{a:Nat}{x:Int}(h:a<L.length):L.set a x=j' L a [x]:=by
 rw[OS,aV h];simp[j']
theorem acN{L:List Int}{a:Nat}{vs:List Int}(h:a+vs.length<=L.length)(i:Nat):(j' L a vs)[i]?=if a<=i/\i<a+vs.length then vs[i -a]? else L[i]?:=by
 unfold j';have ae:(L.take a).length=a:=by rw[eA];omega
 by_cases aL:i<a
 ·rw[aQ I,lB,DF I,jY,aV aL]
 ·by_cases aG:i<a+vs.length
  ·rw[aV I,lB,A0 I,ae,DF I]
  ·rw[aQ I,lB,A0 I,ae,A0 I,o0];congr 1;omega
theorem as4{L:List Int}{a:Nat}{x:Int}{vs:List Int}(h:a+1+vs.length<=L.length):(j' L (a+1) vs).set a x=j' L a (x::vs):=by
 apply ss
 intro i;rw[mS,acN h,C2 h,acN (by rw[kR];omega),kR];by_cases q:a=i
 ·subst q;rw[aV rfl,aV I,aV I,zq];rfl
 ·rw[aQ q];by_cases aG:a+1<=i/\i<a+1+vs.length
  ·rw[aV aG,aV I,show i -a=(i -(a+1))+1 by omega,OL]
  ·rw[aQ aG,aQ I]
end
end Go.Opn
namespace Go.Opn
noncomputable section
open Go.Cre Go.RowKit Go.Proofs
theorem dD.tail{α:Type}{J:aj}{e:TypeId}{sz a:Nat}{R:α->List Value->Prop}{w:Value}{xs:List α}{cs:List Value}(aF:a<xs.length)
 (hw:fR J e sz w (((xs.drop a).length:Int) -1).toNat ((cs.drop ((1:Int).toNat*sz)).take ((((xs.drop a).length:Int) -1).toNat*sz)))
 (c1:∀i x,(xs.drop a)[i]?=some x->R x ((cs.drop (i*sz)).take sz)):∃b c,w=.slice b (xs.drop (a+1)).length c/\dD J e sz R (.slice b (xs.drop (a+1)).length c) (xs.drop (a+1)):=by
 have ax:(((xs.drop a).length:Int) -1).toNat=(xs.drop (a+1)).length:=by rw[jZ,jZ];omega
 rw[ax] at hw;obtain⟨b,c,rfl,_⟩:=hw.inv;refine⟨b,c,rfl,⟨_,hw,fun i x aa=>?_⟩⟩;have ak:i<(xs.drop (a+1)).length:=(ff.1 aa).1;have ae:=c1 (i+1) x (by rw[o0] at aa ⊢;rw[<-aa];congr 1;omega);have hle:i*sz+sz<=(xs.drop (a+1)).length*sz:=by rw[<-o2];exact fq _ ak
 rw[KK,zk,su,g6 I,show(1:Int).toNat*sz+i*sz=(i+1)*sz by rw[c6,show(1:Int).toNat=1 from rfl];omega];exact ae
theorem N8{ns:List eY}{f a:Nat}{mg d:Int}{x:eY}(aa:ns[a]?=some x)(h:jw (hE ns f a (d+1)) x.an (a+1)=none):hE ns (f+1) mg d a=none:=by
 unfold hE;rw[aa];simp only;rw[h]
theorem aep{ns:List eY}{f a n:Nat}{mg d:Int}{x:eY}{es:List kA}(aa:ns[a]?=some x)(h:jw (hE ns f a (d+1)) x.an (a+1)=some (n,es)):hE ns (f+1) mg d a=some (n,(mg,d,(n:Int) -1)::es):=by
 unfold hE;rw[aa];simp only;rw[h]
section
variable {Q:c7 Tryz.prog}{g0:Nat}{J:aj}
abbrev US(a n:Nat):Value:=.slice (some ⟨a,0,none⟩) n n
abbrev yu(a:Nat)(L:List Int):Nat×dI:=(a,.row (L.map (Value.int .i64)) 3)
abbrev F7(gb cK kS cV:Nat)(g:db)(cg:Option Addr)(bS:Nat)(bi:Option Addr)(ci:Nat)(P D L:List Int):aN:=[ke gb g cg bS bi ci (US cK g.ns.length) (US kS g.ns.length) (US cV g.ns.length),yu cK P,yu kS D,yu cV L]
def agj(gb cK kS cV:Nat)(g:db)(cg:Option Addr)(bS:Nat)(bi:Option Addr)(ci:Nat)(a:Nat)(P D L:List Int)(r:Option (Nat×List kA))(J:aj):Value->aN->aj->Prop:=fun u m' af=>∃b n c ok DR Ds bX,u=.tuple #[.slice b n c,.bool ok]/\m'=F7 gb cK kS cV g cg bS bi ci DR Ds bX/\J=af/\DR.length=g.ns.length/\Ds.length=g.ns.length/\bX.length=g.ns.length/\
 (match r with
 |none=>ok=false
 |some (b1,es)=>ok=true/\DR=j' P a (es.map fun e=>e.1)/\Ds=j' D a (es.map fun e=>e.2.1)/\bX=j' L a (es.map fun e=>e.2.2)/\n=(g.ns.drop b1).length/\dD J 72 6 (vt J) (.slice b (g.ns.drop b1).length c) (g.ns.drop b1))
theorem awX{g:db}{cg bi:Option Addr}{bS ci:Nat}{gb cK kS cV:Nat}(ay:pE J g cg bS bi ci)(df:g.ns.length<=2000)(aq:∀x∈g.ns,x.an.length<=60):∀(f a:Nat) (mg d:Int) (P D L:List Int) (bv:Option Addr) (lH:Nat),a<=g.ns.length->g.ns.length<a+f->P.length=g.ns.length->D.length=g.ns.length->L.length=g.ns.length->0<=d->d<=a->
 dD J 72 6 (vt J) (.slice bv (g.ns.drop a).length lH) (g.ns.drop a)->
 Fn (aU Q g0) 77 [.pointer (some ⟨gb,0,none⟩),.int .i64 mg,.int .i64 d,.slice bv (g.ns.drop a).length lH] (F7 gb cK kS cV g cg bS bi ci P D L) J (agj gb cK kS cV g cg bS bi ci a P D L (hE g.ns f mg d a) J):=by
 intro f;induction f with
 |zero=>intro a mg d P D L bv lH ad ae;omega
 |succ f aP=>
 intro a mg d P D L bv lH aF aA cI cp a9 l8 Mk hf;have rX:(g.ns.drop a).length=g.ns.length -a:=jZ;have uT:addrEq bi bi=true:=ay.i.addr;have uU:addrEq cg cg=true:=ay.n.addr;refine Fn.b5 (b2 Tryz.func77) rfl rfl fun H=>?_;refine U 0x2f821439c0859 ?_;refine If (fun zz=>?_) fun zz=>?_
 ·refine U 0x357c0859 ?_;refine ja ?_
  exact⟨_,_,_,_,P,D,L,rfl,rfl,rfl,cI,cp,a9,by rw[show hE g.ns (f+1) mg d a=none by unfold hE;rw[jX I]]⟩
 ·have cD:a<g.ns.length:=I
  obtain⟨_,eU⟩:=hf.at;obtain⟨dn,off,cells,bD,rfl,fY,fJ⟩:=eU I;obtain⟨x,cs,aa,g3,mx,c1⟩:=fJ 0 I I;obtain⟨a',bb,bf,br,bV,cc,rfl,hr,mB,lP⟩:=c1;have sY:=mx 3 _ bI rfl;have yn:g.ns[a]?=some x:=by simpa using aa
  have apb:=aq x (et yn);obtain⟨jG,n6,amG⟩:=hf.ex;have SI:=hr.Ay [];refine hx ?_;refine c4 [0,1,2,3] ?_;refine a2 ?_;refine' az.en 0 [(10,.int .i64 (a:Int))] ?G6 ?Hi;case G6=>
   refine U 0xc08650954d6d83a ?_;exact ce
  case Hi=>
   refine a2 ?_;refine az.draw rfl (by kernel_rfl) (a1:=[.val 0,.val 1,.val 2,.val 3,.val 4,.val 5,.val 6,.val 7,.val 8,.val 9,.val 10,.val 11,.val 12,.bE 13,.val 14,.b9 [11,9],.bE 15]) (by kernel_rfl) ?_;refine U 0x60842a6d821536c1 ?_;refine' ct.vL rfl rfl (AP rfl rfl rfl rfl (u2 rfl) rfl rfl rfl ?ad ?hs ?aw ?_);case aw=>repeat first|exact .head _ _ _ _|apply gB.tail|apply gB.app
   case hs=>exact N1 a I
   case ad=>rfl
   refine U 0x3a6 ?_;refine' ct.vL rfl rfl (AP rfl rfl rfl rfl (u2 rfl) rfl rfl rfl ?ad ?hs ?aw ?_);case aw=>repeat first|exact .head _ _ _ _|apply gB.tail|apply gB.app
   case hs=>exact N1 a I
   case ad=>rfl
   refine U 0x738 ?_;refine' W.step rfl (.of (Vr rfl rfl rfl rfl (eW rfl) ?av ?hk rfl rfl ?aR ?ad ?ae fun ae2 ao5=>?_));case av=>assumption
   case hk=>exact ck
   case aR=>exact ck
   case ad=>exact ck
   case ae=>exact ck
   obtain⟨tN,tU,rfl,anm⟩:=dD.tail cD ao5 amG;refine U 0x1abe025534c1ce042 ?_;refine c3 [(11,.slice (tN) (g.ns.drop (a+1)).length (tU)),(48,.int .i64 ((0):Int)),(0,_),(2,_),(10,_),(46,_),(47,_)] ?_;refine a2 ?_;refine' az.bH (fun(bK:Nat×Nat×(List kA)×(Option Addr)×Nat×(List Int)×(List Int)×(List Int))=>match bK with|(k,cur,es,nU,iQ,sy,vc,gH)=>⟨[(11,.slice nU (g.ns.drop cur).length iQ),(48,.int .i64 (k:Int))],F7 gb cK kS cV g cg bS bi ci sy vc gH,J,k<=x.an.length/\jw (hE g.ns f a (d+1)) (x.an.take k) (a+1)=some (cur,es)/\dD J 72 6 (vt J) (.slice nU (g.ns.drop cur).length iQ) (g.ns.drop cur)/\sy=j' P a (mg::es.map fun e=>e.1)/\vc=j' D a (d::es.map fun e=>e.2.1)/\gH=j' L (a+1) (es.map fun e=>e.2.2),x.an.length -k⟩) ⟨0,a+1,[],tN,tU,P.set a mg,D.set a d,L⟩ ?hs ?a7
   case hs=>exact⟨c5 _,rfl,anm,ady I,ady I,(as3 _ _).symm⟩
   case a7=>
    rintro⟨k,cur,es,nU,iQ,sy,vc,gH⟩ hinv;try simp only at hinv
    obtain⟨hk,q0,Zg,x0,LW,qX⟩:=hinv;refine U 0xbe099 ?_;refine If (fun P0=>?_) fun P0=>?_
    ·obtain⟨cQ,aAC,aye,rfl,my,anF⟩:=SI I;obtain⟨Kj,S',h6⟩:=anF k I I;have Cq:x.an[k]?=some Kj:=by simpa using S'
     obtain⟨p5,gm,qZ⟩:=Ls (fun p q r s=>J4 _ _ _ p q r s) q0 I;have ER:(g.ns.drop cur).length=g.ns.length -cur:=jZ;have L3:sy.length=g.ns.length:=by rw[x0,C2 (by simp;omega)];exact cI
     have LX:vc.length=g.ns.length:=by rw[LW,C2 (by simp;omega)];exact cp
     have L1:gH.length=g.ns.length:=by rw[qX,C2 (by simp;omega)];exact a9
     refine U 0xd9d5f57 ?_;refine' W.step rfl (Exec.val rfl rfl (ik rfl rfl ?ao (gR (fz rfl) ?av)) ?_);case ao=>exact my.sub (fun _ q=>by cases q)
     case av=>assumption
     refine U 0xbe083284aa6b6c10e702 ?_;refine If (fun ahv=>?_) fun ahv=>?_
     ·refine U 0x357c0859 ?_;refine ja ?_
      exact⟨_,_,_,_,sy,vc,gH,rfl,rfl,rfl,L3,LX,L1,by rw[N8 yn (Lt (k:=k+1) (by rw[D' q0 Cq,aV I]))]⟩
     ·refine U 0x8c210e757 ?_;refine' W.step rfl (Exec.call rfl rfl rfl rfl rfl rfl rfl (bm:=F7 gb cK kS cV g cg bS bi ci sy vc gH) (cN:=[]) (.refl _) trivial (aP cur a (d+1) sy vc gH nU iQ gm I L3 LX L1 I I Zg) ?_);rintro v m' af hle ⟨b',po,c',ok,vu,OA,hB,rfl,rfl,rfl,sS,Ez,zT,hm⟩;refine U 0x5f110e70211ce1 ?_;refine If (fun tR=>?_) fun tR=>?_
      ·refine U 0x357c0859 ?_;refine ja ?_
       exact⟨_,_,_,_,vu,OA,hB,rfl,rfl,rfl,sS,Ez,zT,by
        have:hE g.ns f a (d+1) cur=none:=by
         cases ia:hE g.ns f a (d+1) cur with
         |none=>rfl
         |some p=>obtain⟨b1,ax⟩:=p;rw[ia] at hm;rw[hm.1] at tR;cases tR
        rw[N8 yn (Lt (k:=k+1) (by rw[D' q0 Cq,this];split<;>rfl))]⟩
      ·obtain⟨b1,ax,ia,Rx,amm,BP,rfl,anl⟩:∃b1 ax,hE g.ns f a (d+1) cur=some (b1,ax)/\vu=j' sy cur (ax.map fun e=>e.1)/\OA=j' vc cur (ax.map fun e=>e.2.1)/\hB=j' gH cur (ax.map fun e=>e.2.2)/\po=(g.ns.drop b1).length/\dD J 72 6 (vt J) (.slice b' (g.ns.drop b1).length c') (g.ns.drop b1):=by
        cases ia:hE g.ns f a (d+1) cur with
        |none=>rw[ia] at hm;rw[hm] at tR;cases tR
        |some p=>obtain⟨b1,ax⟩:=p;rw[ia] at hm;exact⟨b1,ax,rfl,hm.2⟩
       subst Rx;subst amm;subst BP;refine U 0x3011e757 ?_;refine dN ⟨k+1,b1,es++ax,b',c',_,_,_⟩ ?_;refine⟨I,by rw[D' q0 Cq,aQ I,ia],anl,?_,?_,?_⟩;(rw[x0,Up (by simp;omega) (by simp;omega)];simp);(rw[LW,Up (by simp;omega) (by simp;omega)];simp);(rw[qX,Up (by simp;omega) (by simp;omega)];simp)
    ·obtain⟨p5,gm,qZ⟩:=Ls (fun p q r s=>J4 _ _ _ p q r s) q0 I;have ER:(g.ns.drop cur).length=g.ns.length -cur:=jZ;have L3:sy.length=g.ns.length:=by rw[x0,C2 (by simp;omega)];exact cI
     have LX:vc.length=g.ns.length:=by rw[LW,C2 (by simp;omega)];exact cp
     have L1:gH.length=g.ns.length:=by rw[qX,C2 (by simp;omega)];exact a9
     refine U 0x5f57 ?_;refine az.draw rfl (by kernel_rfl) (a1:=[.val 0,.val 1,.val 2,.val 3,.val 4,.val 5,.val 6,.val 7,.val 8,.val 9,.val 10,.val 11,.val 12,.val 13,.val 14,.val 15,.bE 16]) (by kernel_rfl) ?_;refine U 0x30c650954d6d821536c1 ?_;refine' ct.vL rfl rfl (AP rfl rfl rfl rfl (u2 rfl) rfl rfl rfl ?ad ?hs ?aw ?_);case aw=>repeat first|exact .head _ _ _ _|apply gB.tail|apply gB.app
     case hs=>exact N1 a I
     case ad=>rfl
     refine U 0xd5f0210738 ?_;refine ja ?_
     refine⟨_,_,_,_,sy,vc,_,rfl,rfl,rfl,L3,LX,?_,?_⟩
     rw[im];exact L1;rw[cU I] at q0;rw[aep yn q0];refine⟨rfl,x0,LW,?_,rfl,Zg⟩;rw[qX,as4 (by simp;omega),rD];congr 2;show _=(cur:Int) -1;omega
end
end
end Go.Opn
namespace Go.Opn
noncomputable section
def wy(v:Int):List Int->Nat->Int
 |[],_=>-1
 |x::r,n=>if v=x then(n:Int) else wy v r (n+1)
theorem aaq{v:Int}{l:List Int}{i:Nat}{x:Int}(aa:l[i]?=some x):wy v (l.drop i) i=if v=x then(i:Int) else wy v (l.drop (i+1)) (i+1):=by
 have ak:i<l.length:=(ff.1 aa).1;rw[AZ ak];have:l[i]=x:=by rw[ey ak] at aa;injection aa
 rw[this];rfl
theorem apq{v:Int}{l:List Int}{i:Nat}(h:l.length<=i):wy v (l.drop i) i=-1:=by rw[rB h];rfl
theorem apr{v:Int}:∀{l:List Int} {n:Nat},0<=wy v l n↔v∈l:=by
 intro l;induction l with
 |nil=>intro n;simp[wy]
 |cons x r aP=>
  intro n;unfold wy;split
  ·rename_i h;subst h;simp
  ·rename_i h;rw[aP,gj];exact⟨.inr,fun q=>q.resolve_left h⟩
def yD:List Int->Int
 |[]=>0
 |x::r=>r.foldl max x
theorem aqV{l:List Int}{i:Nat}{x:Int}(ad:1<=i)(aa:l[i]?=some x):yD (l.take (i+1))=max (yD (l.take i)) x:=by
 rw[lD,aa];cases l with
 |nil=>cases aa
 |cons y r=>
  cases i with
  |zero=>omega
  |succ i=>simp[yD]
def Oz(l:List Int):Prop:=∀i x y,l[i]?=some x->l[i+1]?=some y->¬y<x
theorem XF{es:List kA}(h:∃e r,es=e::r/\e.2.1=0):vP es=yD (es.map fun e=>e.2.1):=by
 obtain⟨e,r,rfl,aR⟩:=h;unfold vP;simp only[List.foldl_cons,rD,yD,aR];rw[List.foldl_map];rfl
theorem aeo{ns:List eY}{f:Nat}{p d:Int}{a n:Nat}{es:List kA}(h:hE ns f p d a=some (n,es)):∃e r,es=e::r/\e.1=p/\e.2.1=d/\e.2.2=(n:Int) -1:=by
 cases f with
 |zero=>cases h
 |succ f=>
  unfold hE at h;split at h
  ·cases h
  ·split at h
   ·cases h
   ·simp only[cn,dr] at h;obtain⟨rfl,rfl⟩:=h;exact⟨_,_,rfl,rfl,rfl,rfl⟩
def m2(g:db)(i:Nat):List Int:=(List.range g.is.length).map fun(j:Nat)=>rQ (kb (j:Int) i (g.ns.drop i))+1
theorem ua{g:db}{i:Nat}:(m2 g i).length=g.is.length:=by simp[m2]
theorem xX{g:db}{i j:Nat}(h:j<g.is.length):(m2 g i)[j]?=some (rQ (kb (j:Int) i (g.ns.drop i))+1):=by
 unfold m2;rw[lC,Gn h];rfl
theorem akZ{g:db}{i:Nat}(h:g.ns.length<=i):m2 g i=List.replicate g.is.length 0:=by
 apply ss
 intro j;by_cases aX:j<g.is.length
 ·rw[xX aX,rB h,vm,aV aX];rfl
 ·rw[jX (by rw[ua];omega),vm,aQ aX]
theorem adw{g:db}{j:Int}{i:Nat}{x:eY}(aa:g.ns[i]?=some x):kb j i (g.ns.drop i)=if x.k=2/\x.i=j then(i:Int)::kb j (i+1) (g.ns.drop (i+1)) else kb j (i+1) (g.ns.drop (i+1)):=by
 have ak:i<g.ns.length:=(ff.1 aa).1;rw[AZ ak];have:g.ns[i]=x:=by rw[ey ak] at aa;injection aa
 rw[this];rfl
theorem ak0{g:db}{i:Nat}{x:eY}(aa:g.ns[i]?=some x)(hk:x.k≠2):m2 g i=m2 g (i+1):=by
 unfold m2;congr 1
 funext j
 rw[adw aa,aQ (fun q=>hk q.1)]
theorem ak1{g:db}{i:Nat}{x:eY}(aa:g.ns[i]?=some x)(hk:x.k=2)(aR:0<=x.i)(ad:x.i<g.is.length):m2 g i=(m2 g (i+1)).set x.i.toNat ((i:Int)+1):=by
 apply ss
 intro j;rw[mS,ua];by_cases aX:j<g.is.length
 ·rw[xX aX,xX aX,adw aa];by_cases q:x.i.toNat=j
  ·rw[aV ⟨hk,I⟩,aV q,aV I];rfl
  ·rw[aQ (fun r=>q I),aQ q]
 ·rw[jX (by rw[ua];omega),jX (by rw[ua];omega),aQ I]
open Classical
def uY (g:db):Int:=
 if ∃x∈g.ns,x.k=2/\g.is[x.i.toNat]?≠some (x.p,(x.an.length:Int)) then 10
 else if ∃s∈jS g,s=[] then 18
 else if ∃(i:Nat) (s t:List Int),(jS g)[i]?=some s/\(jS g)[i+1]?=some t/\rQ t<rQ s then 9
 else 0
theorem FY{g:db}{j:Nat}(h:j<g.is.length):(jS g)[j]?=some (kb (j:Int) 0 g.ns):=by
 unfold jS;rw[lC,Gn h];rfl
theorem JY{g:db}:(jS g).length=g.is.length:=by simp[jS]
theorem auf{i:Int}:∀{l:List eY} {j:Nat} {y:Int},y∈kb i j l->(j:Int)<=y:=by
 intro l;induction l with
 |nil=>intro j y h;cases h
 |cons x r aP=>
  intro j y h;unfold kb at h;split at h
  ·rcases gj.1 h with q|q
   ·omega
   ·have:=aP q;omega
  ·have:=aP h;omega
theorem Zc{i:Int}{j:Nat}{l:List eY}:rQ (kb i j l)+1=0↔kb i j l=[]:=by
 constructor
 ·intro h;cases hs:kb i j l with
  |nil=>rfl
  |cons y r=>rw[hs] at h;have:=auf (i:=i) (j:=j) (l:=l) (y:=y) (by rw[hs];exact .head _);simp only[rQ] at h;omega
 ·intro h;rw[h];rfl
theorem UN{g:db}:(∃s∈jS g,s=[])↔(0:Int)∈m2 g 0:=by
 constructor
 ·rintro⟨s,hs,rfl⟩;obtain⟨j,aX⟩:=xa.1 hs;have aq:j<g.is.length:=by have:=(ff.1 aX).1;rwa [JY] at this
  rw[FY aq] at aX;injection aX with aX
  have:=xX (g:=g) (i:=0) aq;rw[gO,Zc.2 aX] at this;exact et this
 ·intro h;obtain⟨j,aX⟩:=xa.1 h;have aq:j<g.is.length:=by have:=(ff.1 aX).1;rwa [ua] at this
  rw[xX aq,gO] at aX;injection aX with aX
  exact⟨_,et (FY aq),Zc.1 aX⟩
theorem adA{g:db}:(∃(i:Nat) (s t:List Int),(jS g)[i]?=some s/\(jS g)[i+1]?=some t/\rQ t<rQ s)↔¬Oz (m2 g 0):=by
 constructor
 ·rintro⟨i,s,t,ad,ae,aD⟩ h;have aq:i+1<g.is.length:=by have:=(ff.1 ae).1;rwa [JY] at this
  rw[FY I] at ad;rw[FY aq] at ae;injection ad with ad;injection ae with ae
  refine h i _ _ (xX I) (xX aq) ?_;rw[gO,ad,ae];omega
 ·intro h;refine jD fun q=>h fun i x y aa ap cD=>q ?_;have aq:i+1<g.is.length:=by have:=(ff.1 ap).1;rwa [ua] at this
  rw[xX I,gO] at aa;rw[xX aq,gO] at ap;injection aa with aa;injection ap with ap
  exact⟨i,_,_,FY I,FY aq,I⟩
end
end Go.Opn
