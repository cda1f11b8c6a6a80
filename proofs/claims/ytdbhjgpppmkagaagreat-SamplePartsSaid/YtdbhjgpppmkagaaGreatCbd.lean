/- A part of the proof of SampleParts. -/
import Derived.Test.YtdbhjgpppmkagaaGreatCbc
import Derived.Test.YtdbhjgpppmkagaaGreatCaz
set_option maxRecDepth 100000
set_option maxHeartbeats 4000000
set_option linter.unusedVariables false
set_option linter.unusedSimpArgs false
namespace Go.Opn
noncomputable section
open Go.Cre Go.RowKit Go.Proofs
open Classical in
noncomputable instance (l:List Int):Decidable (JS l):=inferInstance
section
variable {Q:db Tryz.prog}{g0:Nat}{J:aA}
theorem TW{en:aI}{b:Option Addr}{c:Nat}{l:List Int}{v:Int}(ay:iH en J b l)(aM:l.length<=1000000):
 Fn (a2 Q g0) 102 [.slice b l.length c,.int .i64 v] en J (fun u m' ag=>u=.int .i64 (lf v l 0)/\m'=en/\J=ag):=by
 refine Fn.dw (dB Tryz.func102) rfl rfl fun H=>?_;refine rg ?_;refine U V.a7 ?_;refine bP ?_;refine aV ?_;refine ns ?_;refine ae.block ?_;refine' ae.fy (l':=[(8,.int .i64 ((0):Int)),(0,_),(1,_),(7,_)]) ⟨?Af,rfl,rfl,rfl,trivial⟩ (bV _) ?_;case Af=>exact ec
 refine aJ ?_;refine' ae.cf (fun(i:Nat)=>⟨[(8,.int .i64 (i:Int))],en,J,i<=l.length/\lf v l 0=lf v (l.drop i) i,l.length -i⟩) (0) ?al ?cp;case al=>exact⟨dV _,rfl⟩
 case cp=>
  rintro i hinv;try simp only at hinv
  obtain⟨ak,ED⟩:=hinv;refine rg ?_;refine U V.bm ?_;refine ns ?_;refine If (fun jr=>?_) fun jr=>?_
  ·obtain⟨a,off,cells,rfl,mq,fg⟩:=ay (by omega);obtain⟨x,I,gk⟩:=fg i (by omega) (by omega);have fe:l[i]?=some x:=by simpa using I
   refine gn ?_;refine aJ ?_;refine ae.block ?_;refine rg ?_;refine aV ?_;refine bP ?_;refine aV ?_;refine U V.bf ?_;refine' W.step rfl (Exec.val rfl rfl (ix rfl rfl ?ax (iR (hh rfl) ?ap)) ?_);case ax=>exact mq
   case ap=>first|rfl|assumption
   refine U V.bm ?_;refine ns ?_;refine If (fun r8=>?_) fun r8=>?_
   ·refine rg ?_;refine aV ?_;refine ns ?_;refine ae.ret ?_;refine'⟨.inr rfl,rfl,_,_,.tmp rfl .nil,bV _,?_⟩;first
      |exact⟨by rw[ED,Nd fe,aF (by simpa using r8)];rfl,rfl,rfl⟩
      |exact⟨by rw[ED,TS (by omega)];rfl,rfl,rfl⟩
   ·refine aJ ?_;refine ae.skip ?_;refine rg ?_;refine U V.va ?_;refine U V.az ?_;refine bu ?_;refine e2 (i+1) ?_;exact⟨by omega,by rw[ED,Nd fe,aq (by simpa using r8)]⟩
  ·refine aJ ?_;refine ae.exit ?_;refine rg ?_;refine U V.a7 ?_;refine ns ?_;refine ae.ret ?_;refine'⟨.inr rfl,rfl,_,_,.tmp rfl .nil,bV _,?_⟩;first
    |exact⟨by rw[ED,Nd fe,aF (by simpa using r8)];rfl,rfl,rfl⟩
    |exact⟨by rw[ED,TS (by omega)];rfl,rfl,rfl⟩
theorem Zy{en:aI}{b:Option Addr}{c:Nat}{l:List Int}{v:Int}(ay:iH en J b l)(aM:l.length<=1000000):
 Fn (a2 Q g0) 98 [.slice b l.length c,.int .i64 v] en J (fun u m' ag=>u=.bool (decide (v∈l))/\m'=en/\J=ag):=by
 refine Fn.dw (dB Tryz.func98) rfl rfl fun H=>?_;refine rg ?_;refine U V.a7 ?_;refine bP ?_;refine aV ?_;refine' W.step rfl (Exec.call rfl rfl rfl rfl rfl rfl rfl (a4:=en) (b2:=[]) (by simp) trivial (TW ay aM) ?_);rintro v m' ag hle ⟨rfl,rfl,rfl⟩;rw[fb];refine U V.bm ?_;refine U V.a7 ?_;refine ns ?_;refine ae.ret ?_;refine'⟨.inr rfl,rfl,_,_,.tmp rfl .nil,bV _,?_⟩;refine⟨fl Value.bool ?_,rfl,rfl⟩;rw[oc,mN,mN];exact TT
theorem afG{en:aI}{b:Option Addr}{c:Nat}{l:List Int}(ay:iH en J b l)(aM:l.length<=1000000)(aa:1<=l.length):
 Fn (a2 Q g0) 85 [.slice b l.length c] en J (fun u m' ag=>u=.int .i64 (vP l)/\m'=en/\J=ag):=by
 obtain⟨a,off,cells,rfl,mq,fg⟩:=ay (by omega);obtain⟨CB,mW,Ta⟩:=fg 0 (by omega) (by omega);refine Fn.dw (dB Tryz.func85) rfl rfl fun H=>?_;refine rg ?_;refine U V.a7 ?_;refine bP ?_;refine aV ?_;refine U V.bm ?_;refine ns ?_;refine If (fun Dt=>?_) fun Dt=>?_
 ·exfalso;omega
 ·have xm:vP (l.take 1)=CB:=by
   cases l with
   |nil=>cases mW
   |cons y r=>simp at mW;subst mW;rfl
  refine n0 ?_;refine U V.az ?_;refine U V.bf ?_;refine' W.step rfl (Exec.val rfl rfl (ix rfl rfl ?ax (iR (hh rfl) ?ap)) ?_);case ax=>exact mq
  case ap=>first|rfl|assumption
  refine U V.a7 ?_;refine bP ?_;refine U V.a7 ?_;refine ns ?_;refine ae.block ?_;refine' ae.fy (l':=[(3,.int .i64 (vP (l.take (1)))),(4,.int .i64 ((1):Int)),(0,_)]) ⟨?ia,?rQ,rfl,trivial⟩ (bV _) ?_;case ia=>exact ec
  case rQ=>exact ec
  refine aJ ?_;refine' ae.cf (fun(i:Nat)=>⟨[(3,.int .i64 (vP (l.take i))),(4,.int .i64 (i:Int))],en,J,1<=i/\i<=l.length,l.length -i⟩) (1) ?al ?cp;case al=>exact⟨dH _,by omega⟩
  case cp=>
   rintro i hinv;try simp only at hinv
   obtain⟨SU,ak⟩:=hinv;refine rg ?_;refine aV ?_;refine U V.bm ?_;refine ns ?_;refine If (fun KE=>?_) fun KE=>?_
   ·obtain⟨x,I,gk⟩:=fg i (by omega) (by omega);have fe:l[i]?=some x:=by simpa using I
    have MK:=afF SU fe;refine gn ?_;refine aJ ?_;refine ae.block ?_;refine rg ?_;refine aV ?_;refine U V.bf ?_;refine' W.step rfl (Exec.val rfl rfl (ix rfl rfl ?ax (iR (hh rfl) ?ap)) ?_);case ax=>exact mq
    case ap=>first|rfl|assumption
    refine' W.step rfl (Exec.val rfl rfl (JF rfl rfl rfl rfl rfl) ?_);refine U V.a7 ?_;refine bP ?_;refine U V.az ?_;refine U V.va ?_;refine U V.a7 ?_;refine bu ?_;refine e2 (i+1) ?_;exact⟨by omega,by omega⟩
   ·refine aJ ?_;refine ae.exit ?_;refine rg ?_;refine aV ?_;refine ns ?_;refine ae.ret ?_;refine'⟨.inr rfl,rfl,_,_,.tmp rfl .nil,bV _,⟨by rw[fZ (by omega)];rfl,rfl,rfl⟩⟩
theorem ae9{en:aI}{a:Int}:Fn (a2 Q g0) 108 [.int .i64 a] en J (fun u m' ag=>u=.bool false/\m'=en/\J=ag):=by
 refine Fn.dw (dB Tryz.func108) rfl rfl fun H=>?_;refine rg ?_;refine U V.a7 ?_;refine bP ?_;refine aV ?_;refine U V.bm ?_;refine U V.a7 ?_;refine ns ?_;refine ae.ret ?_;refine'⟨.inr rfl,rfl,_,_,.tmp rfl .nil,bV _,⟨by simp[qt],rfl,rfl⟩⟩
theorem afv{a b:Int}:Fn (a2 Q g0) 106 [.int .i64 a,.int .i64 b] [] J (fun u m' ag=>u=.bool (decide (a<b))/\m'=[]/\J=ag):=by
 refine Fn.dw (dB Tryz.func106) rfl rfl fun H=>?_;refine rg ?_;refine U V.a7 ?_;refine bP ?_;refine U V.az ?_;refine cl (G:=ae9 (en:=[])) (h:=?_);rintro v m' ag hle ⟨rfl,rfl,rfl⟩;refine U V.az ?_;refine eu 7 (fun tI=>?_) fun tI=>?_
 ·exfalso;cases tI
 ·refine a0 ?_;refine W.p2 rfl rfl rfl rfl rfl ?_;refine a0 ?_;refine U V.bc ?_;refine U V.az ?_;refine bg V.az ?_;refine bg V.az ?_;refine bg V.bm ?_;refine U V.bc ?_;refine U V.a7 ?_;refine ns ?_;refine ae.ret ?_;refine hk ?_;refine⟨fl Value.bool ?_,rfl,rfl⟩;first|rfl|simp
theorem afa{en:aI}{b:Option Addr}{c:Nat}{l:List Int}(ay:iH en J b l)(aM:l.length<=1000000)(aoz:addrEq b b=true):
 Fn (a2 Q g0) 99 [.slice b l.length c] en J (fun u m' ag=>u=.bool (decide (JS l))/\m'=en/\J=ag):=by
 refine Fn.dw (dB Tryz.func99) rfl rfl fun H=>?_;refine rg ?_;refine U V.a7 ?_;refine bP ?_;refine aV ?_;refine U V.va ?_;refine U V.a7 ?_;refine ns ?_;refine ae.block ?_;refine' ae.fy (l':=[(3,.int .i64 ((l.length:Int) -1)),(0,_)]) ⟨?ia,rfl,trivial⟩ (bV _) ?_;case ia=>exact ec
 refine aJ ?_;refine' ae.cf (fun(i:Int)=>⟨[(3,.int .i64 i)],en,J,i<l.length/\-1<=i/\(∀(j:Nat) x y,i<=j->l[j]?=some x->l[j+1]?=some y->¬y<x),i.toNat⟩) ((l.length:Int) -1) ?al ?cp;case al=>exact⟨by omega,by omega,fun j x y aU I ah=>by have:=(dv.1 ah).1;omega⟩
 case cp=>
  rintro i hinv;try simp only at hinv
  obtain⟨ak,HV,has⟩:=hinv;refine rg ?_;refine U V.az ?_;refine U V.bm ?_;refine ns ?_;refine If (fun yF=>?_) fun yF=>?_
  ·obtain⟨a,off,cells,rfl,mq,fg⟩:=ay (by omega);obtain⟨h4,lc,anH⟩:=fg i (by omega) (by omega);obtain⟨CB,mW,Ta⟩:=fg (i -1) (by omega) (by omega);refine gn ?_;refine aJ ?_;refine ae.block ?_;refine aJ ?_;refine ae.draw rfl (by kernel_rfl) (a8:=[.val 0,.val 1,.val 2,.val 3,.val 4,.val 5,.val 6,.val 7,.val 8,.cv 9]) (by kernel_rfl) ?_;refine cm ?_;refine aB rfl V.bf ?_;refine' a3.val rfl rfl rfl rfl (ix rfl rfl ?ax (iR (hh rfl) ?ap)) ?_;case ax=>exact mq
   case ap=>first|rfl|assumption
   refine cm ?_;refine aB rfl V.va ?_;refine aB rfl V.bf ?_;refine' a3.val rfl rfl rfl rfl (ix rfl rfl ?ax (iR (hh rfl) ?ap)) ?_;case ax=>exact mq
   case ap=>first|rfl|assumption
   refine' a3.call rfl rfl rfl rfl rfl rfl rfl rfl rfl rfl (a4:=[]) (b2:=en) (.refl _) trivial (afv) ?_;rintro v m' ag hle ⟨rfl,rfl,rfl⟩;rw[mB];refine a3.nil ?_;refine aJ ?_;refine If (fun r9=>?_) fun r9=>?_
   ·refine rg ?_;refine U V.a7 ?_;refine ns ?_;refine ae.ret ?_;refine'⟨.inr rfl,rfl,_,_,.tmp rfl .nil,bV _,?_⟩;first
      |(refine⟨fl Value.bool ?_,rfl,rfl⟩
        symm;rw[nG];exact fun q=>q (i -1).toNat _ _ mW (by rw[show(i -1).toNat+1=i.toNat by omega];exact lc) (by simpa using r9))
      |(refine⟨fl Value.bool ?_,rfl,rfl⟩
        symm;rw[mN];exact fun j x y I ah=>has j x y (by omega) I ah)
   ·refine aJ ?_;refine ae.skip ?_;refine rg ?_;refine U V.az ?_;refine U V.va ?_;refine U V.a7 ?_;refine bu ?_;refine e2 (i -1) ?_;refine⟨by omega,by omega,fun j x y aU I ah=>?_⟩;by_cases q:i<=j;(exact has j x y q I ah);(obtain rfl:j=(i -1).toNat:=by omega);(rw[mW] at I;rw[show(i -1).toNat+1=i.toNat by omega,lc] at ah;injection I with I;injection ah with ah;subst I;subst ah;simpa using r9)
  ·refine aJ ?_;refine ae.exit ?_;refine rg ?_;refine U V.a7 ?_;refine ns ?_;refine ae.ret ?_;refine'⟨.inr rfl,rfl,_,_,.tmp rfl .nil,bV _,?_⟩;first
    |(refine⟨fl Value.bool ?_,rfl,rfl⟩
      symm;rw[nG];exact fun q=>q (i -1).toNat _ _ mW (by rw[show(i -1).toNat+1=i.toNat by omega];exact lc) (by simpa using r9))
    |(refine⟨fl Value.bool ?_,rfl,rfl⟩
      symm;rw[mN];exact fun j x y I ah=>has j x y (by omega) I ah)
end
theorem NJ{g:bp}{x:cH}(h:fh g x=0)(aH:x.k=2):0<=x.i/\x.i<g.is.length/\0<=x.p/\x.p<g.pl/\1<=x.af.length/\x.af.length<=10:=by
 unfold fh at h;rw[aq (by omega),aF aH] at h;split at h
 ·omega
 ·split at h<;>omega
theorem agc{g:bp}:∀{l:List cH},(∀x∈l,fh g x=0)->n2 g l=0:=by
 intro l;induction l with
 |nil=>intro _;rfl
 |cons y r aG=>
  intro h;show(if fh g y≠0 then fh g y else n2 g r)=0;rw[aq (by rw[h y (.head _)];simp)];exact aG fun x I=>h x (.tail _ I)
theorem um{g:bp}:∀{l:List cH} {i:Nat} {x:cH},(∀y∈l.take i,fh g y=0)->l[i]?=some x->fh g x≠0->n2 g l=fh g x:=by
 intro l;induction l with
 |nil=>intro i x _ h;cases h
 |cons y r aG=>
  intro i x h I aM;show(if fh g y≠0 then fh g y else n2 g r)=_;cases i with
  |zero=>simp at I;subst I;rw[aF aM]
  |succ i=>
   rw[aq (by rw[h y (.head _)];simp)];exact aG (fun z bC=>h z (.tail _ bC)) (by simpa using I) aM
theorem F0{α:Type}{P:α->Prop}{l:List α}{i:Nat}{x:α}(h:∀y∈l.take i,P y)(I:l[i]?=some x)(au:P x):∀y∈l.take (i+1),P y:=by
 intro y ah;rw[pM,I] at ah;rcases lL.1 ah with q|q
 ·exact h y q
 ·simp at q;subst q;exact au
section
variable {Q:db Tryz.prog}{g0:Nat}{J:aA}
theorem ai5{dm:Nat}{g:bp}{aT bi:Option Addr}{aP ci:Nat}{iE iD g3:Value}{aY:aI}(ar:hB J g aT aP bi ci)(aM:∀x∈g.ns,fh g x=0)(dr:g.ns.length<=2000)(i2:g.is.length<=200):
 Fn (a2 Q g0) 86 [.pointer (some ⟨dm,0,none⟩)] (jk dm g aT aP bi ci iE iD g3::aY) J (fun u m' ag=>u=.int .i64 (Co g)/\m'=jk dm g aT aP bi ci iE iD g3::aY/\J=ag):=by
 obtain⟨_,ky⟩:=ar.n.at;obtain⟨_,nk⟩:=ar.i.at;have kZ:addrEq bi bi=true:=ar.i.addr;have lj:addrEq aT aT=true:=ar.n.addr;refine Fn.dw (dB Tryz.func86) rfl rfl fun H=>?_;refine rg ?_;refine U V.a7 ?_;refine bP ?_;refine aV ?_;refine U V.a9 ?_;refine U V.cr ?_;refine' W.step rfl (.of (CC rfl rfl rfl rfl rfl (hL Q g0) ?bt ?aa ?ab fun ln=>?_));case bt=>exact cQ
 case aa=>exact cQ
 case ab=>exact cQ
 refine U V.a7 ?_;refine bu ?_;rw[yi,ea,show List.replicate g.is.length (0:Int)=lT g g.ns.length from(abf (dH _)).symm];refine rg ?_;refine aV ?_;refine U V.a9 ?_;refine U V.cr ?_;refine U V.va ?_;refine U V.a7 ?_;refine ns ?_;refine ae.block ?_;refine' ae.fy (l':=[(4,.int .i64 (((g.ns.length):Int) -1)),(0,_),(3,_)]) ⟨?rQ,rfl,rfl,trivial⟩ (bV _) ?_;case rQ=>exact ec
 refine aJ ?_;refine' ae.cf (fun(k:Nat)=>⟨[(4,.int .i64 ((k:Int) -1))],vL ln (lT g k)::jk dm g aT aP bi ci iE iD g3::aY,J,k<=g.ns.length,k⟩) (g.ns.length) ?al ?cp;case al=>exact dH _
 case cp=>
  rintro k hinv;try simp only at hinv
  have aH:=hinv;refine rg ?_;refine U V.az ?_;refine U V.bm ?_;refine ns ?_;refine If (fun uY=>?_) fun uY=>?_
  ·obtain⟨a,off,cells,bn,rfl,jP,fg⟩:=ky (by omega);obtain⟨x,cs,I,kx,_,gB⟩:=fg ((k:Int) -1) (by omega) (by omega);obtain⟨bE,bx,bS,bT,cJ,dA,rfl,lc,nX,rq⟩:=gB;have fe:g.ns[k -1]?=some x:=by rw[<-I];congr 1;omega
   have Bj:k -1+1=k:=by omega
   have gk:=aM x (cV fe);refine gn ?_;refine aJ ?_;refine ae.block ?_;refine rg ?_;refine aV ?_;refine U V.a9 ?_;refine U V.az ?_;refine U V.bf ?_;refine U V.hb ?_;refine' W.step rfl (.of (ic rfl rfl rfl (yh Q g0) rfl rfl rfl fun c2=>?_));refine fF ?_;refine bP ?_;refine U V.bU ?_;refine U V.a9 ?_;refine U V.bm ?_;refine ns ?_;refine If (fun wS=>?_) fun wS=>?_
   ·have H4:=NJ gk (by simpa using wS);have jx:(lT g k).length=g.is.length:=sf;refine rg ?_;refine aV ?_;refine U V.a9 ?_;refine U V.az ?_;refine U V.va ?_;refine U V.bf ?_;refine' W.step rfl (.of (jY rfl rfl rfl rfl (h' rfl) rfl rfl rfl ?aa ?al ?au ?_));case au=>repeat first|exact .head _ _ _ _|apply dc.tail|apply dc.app
    case al=>exact pC x.i.toNat (by omega)
    case aa=>first|rfl|assumption
    refine bP ?_;refine U V.az ?_;refine U V.va ?_;refine U V.a7 ?_;refine bu ?_;refine e2 (k -1) ?_ (hm:=(by rw[abh fe (by simpa using wS) (by omega) (by omega),Bj,show((k -1:Nat):Int)=(k:Int) -1 by omega];exact .cons _ (.refl _)));omega
   ·refine aJ ?_;refine ae.skip ?_;refine rg ?_;refine U V.az ?_;refine U V.va ?_;refine U V.a7 ?_;refine bu ?_;refine e2 (k -1) ?_ (hm:=(by rw[abg fe (by simpa using wS),Bj];exact .cons _ (.refl _)));omega
  ·obtain rfl:k=0:=by omega
   refine aJ ?_;refine ae.exit ?_;refine rg ?_;refine aV ?_;refine U V.a9 ?_;refine aV ?_;refine ns ?_;refine ae.block ?_;refine' ae.fy (l':=[(49,.int .i64 ((0):Int)),(0,_),(3,_),(47,_),(48,_)]) ⟨?akV,rfl,rfl,rfl,rfl,trivial⟩ (bV _) ?_;case akV=>exact ec
   refine aJ ?_;refine' ae.cf (fun(i:Nat)=>⟨[(49,.int .i64 (i:Int))],vL ln (lT g 0)::jk dm g aT aP bi ci iE iD g3::aY,J,i<=g.ns.length/\∀x∈g.ns.take i,x.k=2->g.is[x.i.toNat]?=some (x.p,(x.af.length:Int)),g.ns.length -i⟩) (0) ?al ?cp;case al=>exact⟨dV _,fun x I=>by cases I⟩
   case cp=>
    rintro i hinv;try simp only at hinv
    obtain⟨ak,cA⟩:=hinv;refine rg ?_;refine U V.bm ?_;refine ns ?_;refine If (fun ku=>?_) fun ku=>?_
    ·obtain⟨a,off,cells,bn,rfl,jP,fg⟩:=ky (by omega);obtain⟨x,cs,I,kx,_,gB⟩:=fg i (by omega) (by omega);obtain⟨bE,bx,bS,bT,cJ,dA,rfl,lc,nX,rq⟩:=gB;have aZ:addrEq bE bE=true:=by obtain⟨e,h⟩:=lc;exact h.addr
     rw[ea] at I;have gk:=aM x (cV I);refine gn ?_;refine aJ ?_;refine ae.block ?_;refine rg ?_;refine U V.bf ?_;refine U V.hb ?_;refine' W.step rfl (.of (ic rfl rfl rfl (yh Q g0) rfl rfl rfl fun g5=>?_));refine fF ?_;refine ns ?_;refine ae.yP [] rfl (by kernel_rfl) (a8:=[.val 0,.val 1,.val 2,.val 3,.val 4,.val 5,.val 6,.val 7,.val 8,.val 9,.val 10,.val 11,.val 12,.val 13,.val 14,.val 15,.val 16,.val 17,.val 18,.val 19,.val 20]) (by kernel_rfl) ?_;refine dJ rfl V.bU ?_;refine dJ rfl V.a9 ?_;refine dJ rfl V.bm ?_;refine dJ rfl V.az ?_;refine te 56 (fun tH=>?_) fun tH=>?_
     ·have H4:=NJ gk (by simpa using tH);obtain⟨j6,agt,amh,amL,rfl,nM,adm⟩:=nk (by omega);obtain⟨y,cs,ah,xf,_,rfl⟩:=adm x.i (by omega) (by omega);refine eG rfl V.az ?_;refine eG rfl V.l2 ?_;refine eG rfl V.bU ?_;refine eG rfl V.bU ?_;refine eG rfl V.a9 ?_;refine eG rfl V.bU ?_;refine eG rfl V.a9 ?_;refine eG rfl V.bf ?_;refine eG rfl V.hb ?_;refine eG rfl V.bU ?_;refine eG rfl V.a9 ?_;refine eG rfl V.bU ?_;refine eG rfl V.a9 ?_;refine eG rfl V.cr ?_;refine eG rfl V.lp ?_;refine' eb.Cw rfl rfl rfl rfl rfl rfl (akq rfl (.inr ⟨rfl,rfl⟩) rfl rfl (aeY Q g0) (la:=[_,_]) (bs:=[_,_]) rfl rfl rfl rfl) ?_;refine dJ rfl V.bc ?_;refine eb.nil ?_;refine aJ ?_;refine If (fun j9=>?_) fun j9=>?_
      ·
        refine rg ?_;refine U V.a7 ?_;refine ns ?_;refine ae.ret ?_;refine'⟨.inr rfl,rfl,_,jk _ _ _ _ _ _ _ _ _::aY,.tmp rfl .nil,(by first|exact .cons _ (.refl _)|exact .cons _ (.cons _ (.refl _))),?_⟩;refine⟨fl (Value.int .i64) ?_,rfl,rfl⟩;have iq:i>=g.ns.length->¬∃x∈g.ns,x.k=2/\g.is[x.i.toNat]?≠some (x.p,(x.af.length:Int)):=by
         rintro pn ⟨x,aa,ab,aK⟩;rw[fZ (by omega)] at cA;exact aK (cA x aa ab)
        unfold Co;first
         |(have E3:=I;rw[aF ⟨x,cV I,by simpa using tH,fun q=>j9 (by rw[ah] at q;injection q with q;rw[q])⟩])
         |(rw[aq (iq (by omega)),aF (rN.2 pS)])
         |(rw[aq (iq (by omega)),aq (fun q=>pS (rN.1 q)),aF (x3.2 (by simpa using tq))])
         |(rw[aq (iq (by omega)),aq (fun q=>pS (rN.1 q)),aq (fun q=>x3.1 q (by simpa using tq))])
      ·
        refine aJ ?_;refine ae.skip ?_;refine rg ?_;refine U V.va ?_;refine U V.az ?_;refine bu ?_;refine e2 (i+1) ?_ (hm:=.cons _ (.refl _));refine⟨by omega,F0 cA I fun aH=>?_⟩;first|exact absurd aH (by simpa using tH)|(rw[ah];simp at j9;rw[<-j9.1,<-j9.2])
     ·refine cW rfl ?_;refine cW rfl ?_;refine cW rfl ?_;refine cW rfl ?_;refine cW rfl ?_;refine cW rfl ?_;refine cW rfl ?_;refine cW rfl ?_;refine cW rfl ?_;refine cW rfl ?_;refine cW rfl ?_;refine cW rfl ?_;refine cW rfl ?_;refine cW rfl ?_;refine cW rfl ?_;refine eb.JG rfl rfl rfl rfl rfl rfl ?_;refine dJ rfl V.bc ?_;refine eb.nil ?_;refine aJ ?_;refine ae.u4 rfl ?_;refine n0 ?_;refine U V.va ?_;refine U V.az ?_;refine bu ?_;refine e2 (i+1) ?_ (hm:=.cons _ (.refl _));refine⟨by omega,F0 cA I fun aH=>?_⟩;first|exact absurd aH (by simpa using tH)|(rw[ah];simp at j9;rw[<-j9.1,<-j9.2])
    ·refine aJ ?_;refine ae.exit ?_;refine rg ?_;refine U V.az ?_;refine' W.step rfl (Exec.call rfl rfl rfl rfl rfl rfl rfl (a4:=_) (b2:=[]) (by rw[fb]) trivial ((by have h:=Zy (Q:=Q) (g0:=g0) (J:=J) (en:=vL ln (lT g 0)::jk dm g aT aP bi ci iE iD g3::aY) (l:=lT g 0) (c:=g.is.length) (v:=0) (iH.own (.head _)) (by rw[sf];omega);rw[sf] at h;exact h)) ?_);rintro v m' ag hle ⟨rfl,rfl,rfl⟩;rw[fb];refine ns ?_;refine If (fun pS=>?_) fun pS=>?_
     ·refine rg ?_;refine U V.a7 ?_;refine ns ?_;refine ae.ret ?_;refine'⟨.inr rfl,rfl,_,jk _ _ _ _ _ _ _ _ _::aY,.tmp rfl .nil,(by first|exact .cons _ (.refl _)|exact .cons _ (.cons _ (.refl _))),?_⟩;refine⟨fl (Value.int .i64) ?_,rfl,rfl⟩;have iq:i>=g.ns.length->¬∃x∈g.ns,x.k=2/\g.is[x.i.toNat]?≠some (x.p,(x.af.length:Int)):=by
        rintro pn ⟨x,aa,ab,aK⟩;rw[fZ (by omega)] at cA;exact aK (cA x aa ab)
      unfold Co;first
        |(have E3:=I;rw[aF ⟨x,cV I,by simpa using tH,fun q=>j9 (by rw[ah] at q;injection q with q;rw[q])⟩])
        |(rw[aq (iq (by omega)),aF (rN.2 pS)])
        |(rw[aq (iq (by omega)),aq (fun q=>pS (rN.1 q)),aF (x3.2 (by simpa using tq))])
        |(rw[aq (iq (by omega)),aq (fun q=>pS (rN.1 q)),aq (fun q=>x3.1 q (by simpa using tq))])
     ·refine aJ ?_;refine ae.skip ?_;refine rg ?_;refine U V.az ?_;refine' W.step rfl (Exec.call rfl rfl rfl rfl rfl rfl rfl (a4:=_) (b2:=[]) (by rw[fb]) trivial ((by have h:=afa (Q:=Q) (g0:=g0) (J:=J) (en:=vL ln (lT g 0)::jk dm g aT aP bi ci iE iD g3::aY) (l:=lT g 0) (c:=g.is.length) (iH.own (.head _)) (by rw[sf];omega) (by simp[addrEq]);rw[sf] at h;exact h)) ?_);rintro v m' ag hle ⟨rfl,rfl,rfl⟩;rw[fb];refine U V.oL ?_;refine ns ?_;refine If (fun tq=>?_) fun tq=>?_
      ·
        refine rg ?_;refine U V.a7 ?_;refine ns ?_;refine ae.ret ?_;refine'⟨.inr rfl,rfl,_,jk _ _ _ _ _ _ _ _ _::aY,.tmp rfl .nil,(by first|exact .cons _ (.refl _)|exact .cons _ (.cons _ (.refl _))),?_⟩;refine⟨fl (Value.int .i64) ?_,rfl,rfl⟩;have iq:i>=g.ns.length->¬∃x∈g.ns,x.k=2/\g.is[x.i.toNat]?≠some (x.p,(x.af.length:Int)):=by
         rintro pn ⟨x,aa,ab,aK⟩;rw[fZ (by omega)] at cA;exact aK (cA x aa ab)
        unfold Co;first
         |(have E3:=I;rw[aF ⟨x,cV I,by simpa using tH,fun q=>j9 (by rw[ah] at q;injection q with q;rw[q])⟩])
         |(rw[aq (iq (by omega)),aF (rN.2 pS)])
         |(rw[aq (iq (by omega)),aq (fun q=>pS (rN.1 q)),aF (x3.2 (by simpa using tq))])
         |(rw[aq (iq (by omega)),aq (fun q=>pS (rN.1 q)),aq (fun q=>x3.1 q (by simpa using tq))])
      ·
        refine aJ ?_;refine ae.skip ?_;refine rg ?_;refine U V.a7 ?_;refine ns ?_;refine ae.ret ?_;refine'⟨.inr rfl,rfl,_,jk _ _ _ _ _ _ _ _ _::aY,.tmp rfl .nil,(by first|exact .cons _ (.refl _)|exact .cons _ (.cons _ (.refl _))),?_⟩;refine⟨fl (Value.int .i64) ?_,rfl,rfl⟩;have iq:i>=g.ns.length->¬∃x∈g.ns,x.k=2/\g.is[x.i.toNat]?≠some (x.p,(x.af.length:Int)):=by
         rintro pn ⟨x,aa,ab,aK⟩;rw[fZ (by omega)] at cA;exact aK (cA x aa ab)
        unfold Co;first
         |(have E3:=I;rw[aF ⟨x,cV I,by simpa using tH,fun q=>j9 (by rw[ah] at q;injection q with q;rw[q])⟩])
         |(rw[aq (iq (by omega)),aF (rN.2 pS)])
         |(rw[aq (iq (by omega)),aq (fun q=>pS (rN.1 q)),aF (x3.2 (by simpa using tq))])
         |(rw[aq (iq (by omega)),aq (fun q=>pS (rN.1 q)),aq (fun q=>x3.1 q (by simpa using tq))])
end
end
end Go.Opn
