/- A part of the proof of SampleParts. -/
import Derived.Test.YtdbhjgpppmkagaaGreatCay
set_option maxRecDepth 100000
set_option maxHeartbeats 4000000
set_option linter.unusedVariables false
set_option linter.unusedSimpArgs false
namespace Go.Opn
noncomputable section
open Go.Cre Go.RowKit Go.Proofs
theorem fX.at{α:Type}{J:aA}{e:TypeId}{aj n c:Nat}{b:Option Addr}{R:α->List Value->Prop}{xs:List α}(h:fX J e aj R (.slice b n c) xs):n=xs.length/\(0<xs.length->∃a off cells bn,b=some ⟨a,off,none⟩/\J a=some (cells,bn)/\
 ∀i:Int,0<=i->i<xs.length->∃x cs,xs[i.toNat]?=some x/\takeN aj (nI (off+i.toNat*aj) cells)=some cs/\(∀k v,k<aj->nth cs k=some v->nth cells (off+i.toNat*aj+k)=some v)/\R x cs):=by
 obtain⟨aa,ab⟩:=h.get;refine⟨aa,fun au=>?_⟩;obtain⟨a,off,cells,bn,a',bd,bz⟩:=ab au;refine⟨a,off,cells,bn,a',bd,fun i i0 i1=>?_⟩;have I:=du (l:=xs) (i:=i.toNat) (by omega);obtain⟨cs,bx,bT⟩:=bz _ _ I;rw[ea] at bx;refine⟨_,cs,I,bx,fun k v aH ap=>?_,bT⟩;obtain⟨q,_,_⟩:=Cs bx;rw[kk] at ap ⊢;rw[q,vd,kr,aF aH,o2] at ap;exact ap
theorem mX(l:List Int):(l.map (Value.int .i64)).all eT=true:=by
 induction l with
 |nil=>rfl
 |cons a l aG=>rw[k2,CO,aG];rfl
def iH(aY:aI)(J:aA)(b:Option Addr)(l:List Int):Prop:=0<l.length->∃a off cells,b=some ⟨a,off,none⟩/\iI aY J a cells/\∀i:Int,0<=i->i<l.length->∃x,l[i.toNat]?=some x/\nth cells (off+i.toNat*1)=some (.int .i64 x)
theorem ew.l6{J:aA}{b:Option Addr}{n c:Nat}{l:List Int}(h:ew J (.slice b n c) l)(aY:aI):iH aY J b l:=fun au=>by
 obtain⟨_,_,aK⟩:=h.get;obtain⟨a,off,cells,e,bh,ff,gz⟩:=aK au;exact⟨a,off,cells,bh,.fj ff,gz⟩
theorem iH.own{a:Nat}{e:TypeId}{J:aA}{l:List Int}{m:aI}(h:(a,cI.row (l.map (Value.int .i64)) e)∈m):iH m J (some ⟨a,0,none⟩) l:=fun au=>
 ⟨a,0,_,rfl,.own h,fun i i0 i1=>⟨_,du (by omega),NM i.toNat (du (by omega))⟩⟩
theorem iI.cons{m:aI}{J:aA}{a:Nat}{cells:List Value}{x:Nat×cI}(h:iI m J a cells):iI (x::m) J a cells:=by
 cases h with
 |own h=>exact .own (.tail _ h)
 |opn h=>exact .opn (.tail _ h)
 |fj h=>exact .fj h
theorem iI.sub{m m':aI}{J:aA}{a:Nat}{cells:List Value}(h:iI m J a cells)(al:∀x∈m,x∈m'):iI m' J a cells:=by
 cases h with
 |own h=>exact .own (al _ h)
 |opn h=>exact .opn (al _ h)
 |fj h=>exact .fj h
def mE(J:aA)(x:cH)(cs:List Value):Prop:=∃bE bx bS bT cJ dA,cs=[.int .i64 x.k,.int .i64 x.p,.int .i64 x.i,.slice bE x.af.length bx,.slice bS x.ws.length bT,.slice cJ x.gw.length dA]/\ew J (.slice bE x.af.length bx) x.af/\ew J (.slice bS x.ws.length bT) x.ws/\ew J (.slice cJ x.gw.length dA) x.gw
theorem mE.mono{J ag:aA}(hle:J.le ag){x:cH}{cs:List Value}(h:mE J x cs):mE ag x cs:=by
 obtain⟨bE,bx,bS,bT,cJ,dA,aa,ab,aK,bh⟩:=h;exact⟨bE,bx,bS,bT,cJ,dA,aa,ab.mono hle,aK.mono hle,bh.mono hle⟩
def yp(x:Int×Int)(cs:List Value):Prop:=cs=[.int .i64 x.1,.int .i64 x.2]
structure hB (J:aA) (g:bp) (aT:Option Addr) (aP:Nat) (bi:Option Addr) (ci:Nat):Prop where
 n:fX J 92 6 (mE J) (.slice aT g.ns.length aP) g.ns
 i:fX J 87 2 yp (.slice bi g.is.length ci) g.is
theorem hB.mono{J ag:aA}(hle:J.le ag){g:bp}{aT bi:Option Addr}{aP ci:Nat}(h:hB J g aT aP bi ci):hB ag g aT aP bi ci:=⟨h.n.mono hle fun _ _ q=>q.mono hle,h.i.mono hle fun _ _ q=>q⟩
abbrev w9(g:bp)(aT:Option Addr)(aP:Nat)(bi:Option Addr)(ci:Nat):List Value:=[.int .i64 g.pl,.slice aT g.ns.length aP,.slice bi g.is.length ci]
abbrev p0(g:bp)(aT:Option Addr)(aP:Nat)(bi:Option Addr)(ci:Nat):Value:=.agg (w9 g aT aP bi ci).toArray
abbrev XX(v:Value)(J:aA):Value->aI->aA->Prop:=fun w m' ag=>w=v/\m'=[]/\ag=J
abbrev GB(v:Value)(J:aA):Value->aI->aA->Prop:=fun w m' ag=>w=v/\m'=[]/\J.le ag
section
variable {Q:db Tryz.prog}{g0:Nat}{J:aA}
end
section
variable {Q:db Tryz.prog}{g0:Nat}{J:aA}
end
theorem Acc.JB{e:TypeId}{aj k fw:Nat}{v:Value}{cells cells':List Value}{aY:aI}(h:Acc e aj v k cells aY)(aH:k=fw)(av:cells=cells'):Acc e aj v fw cells' aY:=by subst aH;subst av;exact h
theorem Acc.addr{e:TypeId}{aj k n c:Nat}{b:Option Addr}{cells:List Value}{aY:aI}(h:Acc e aj (.slice b n c) k cells aY):addrEq b b=true:=by
 cases h<;>simp[addrEq]
section
variable {Q:db Tryz.prog}{g0:Nat}{J:aA}
end
theorem Qu{P:Int->Bool}{l:List Int}{i:Nat}{x:Int}(I:l[((i:Nat):Int).toNat]?=some x)(h:(l.take i).any P=false)(au:P x=false):(l.take (i+1)).any P=false:=by
 rw[ea] at I;rw[pM,I,List.any_append,h];simp[au]
theorem Kt{P:Int->Bool}{l:List Int}{i:Nat}{x:Int}(I:l[((i:Nat):Int).toNat]?=some x)(au:P x=true):l.any P=true:=by
 rw[J3];exact⟨x,cV I,au⟩
section
variable {Q:db Tryz.prog}{g0:Nat}{J:aA}
def gY(cL ak:Int)(n:Int):Bool:=decide (n<cL)||decide (ak<n)
theorem aeZ{en:aI}{b:Option Addr}{c:Nat}{l:List Int}{w8:FuncId}{cap:Array Value}{P:Int->Bool}(ay:iH en J b l)(aM:l.length<=1000000)
 (au:∀x,Fn (a2 Q g0) w8 (.int .i64 x::cap.toList) en J (fun u m' ag=>u=.bool (P x)/\m'=en/\J=ag)):
 Fn (a2 Q g0) 74 [.slice b l.length c,.func (.func w8) #[] cap] en J (fun u m' ag=>∃k,u=.int .i64 k/\(0<=k↔l.any P=true)/\m'=en/\J=ag):=by
 refine Fn.dw (dB Tryz.func74) rfl rfl fun H=>?_;refine rg ?_;refine U V.a7 ?_;refine bP ?_;refine aV ?_;refine ns ?_;refine ae.block ?_;refine' ae.fy (l':=[(8,.int .i64 ((0):Int)),(0,_),(1,_),(7,_)]) ⟨?Af,rfl,rfl,rfl,trivial⟩ (bV _) ?_;case Af=>exact ec
 refine aJ ?_;refine' ae.cf (fun(i:Nat)=>⟨[(8,.int .i64 (i:Int))],en,J,i<=l.length/\(l.take i).any P=false,l.length -i⟩) (0) ?al ?cp;case al=>exact⟨dV _,rfl⟩
 case cp=>
  rintro i hinv;try simp only at hinv
  obtain⟨ak,vn⟩:=hinv;refine rg ?_;refine U V.bm ?_;refine ns ?_;refine If (fun jr=>?_) fun jr=>?_
  ·obtain⟨a,off,cells,rfl,mq,fg⟩:=ay (by omega);obtain⟨x,I,gk⟩:=fg i (by omega) (by omega);refine gn ?_;refine aJ ?_;refine ae.block ?_;refine rg ?_;refine aV ?_;refine bP ?_;refine aV ?_;refine U V.bf ?_;refine' W.step rfl (Exec.val rfl rfl (ix rfl rfl ?ax (iR (hh rfl) ?ap)) ?_);case ax=>exact mq
   case ap=>first|rfl|assumption
   refine' W.step rfl (Exec.call rfl rfl rfl rfl rfl rfl rfl (a4:=en) (b2:=[]) (by simp) trivial (au x) ?_);rintro v m' ag hle ⟨rfl,rfl,rfl⟩;rw[fb];refine ns ?_;refine If (fun r8=>?_) fun r8=>?_
   ·refine rg ?_;refine aV ?_;refine ns ?_;refine ae.ret ?_;refine'⟨.inr rfl,rfl,_,_,.tmp rfl .nil,bV _,?_⟩;first
      |exact⟨_,rfl,⟨fun _=>Kt I (by simpa using r8),fun _=>by omega⟩,rfl,rfl⟩
      |(refine⟨_,rfl,⟨fun q=>absurd q (by decide),fun q=>?_⟩,rfl,rfl⟩
        rw[fZ (by omega)] at vn;rw[vn] at q;cases q)
   ·refine aJ ?_;refine ae.skip ?_;refine rg ?_;refine U V.va ?_;refine U V.az ?_;refine bu ?_;refine e2 (i+1) ?_;exact⟨by omega,Qu I vn (by simpa using r8)⟩
  ·refine aJ ?_;refine ae.exit ?_;refine rg ?_;refine U V.a7 ?_;refine ns ?_;refine ae.ret ?_;refine'⟨.inr rfl,rfl,_,_,.tmp rfl .nil,bV _,?_⟩;first
    |exact⟨_,rfl,⟨fun _=>Kt I (by simpa using r8),fun _=>by omega⟩,rfl,rfl⟩
    |(refine⟨_,rfl,⟨fun q=>absurd q (by decide),fun q=>?_⟩,rfl,rfl⟩
      rw[fZ (by omega)] at vn;rw[vn] at q;cases q)
theorem KV{en:aI}{b:Option Addr}{c:Nat}{l:List Int}{w8:FuncId}{cap:Array Value}{P:Int->Bool}(ay:iH en J b l)(aM:l.length<=1000000)
 (au:∀x,Fn (a2 Q g0) w8 (.int .i64 x::cap.toList) en J (fun u m' ag=>u=.bool (P x)/\m'=en/\J=ag)):
 Fn (a2 Q g0) 60 [.slice b l.length c,.func (.func w8) #[] cap] en J (fun u m' ag=>u=.bool (l.any P)/\m'=en/\J=ag):=by
 refine Fn.dw (dB Tryz.func60) rfl rfl fun H=>?_;refine rg ?_;refine U V.a7 ?_;refine bP ?_;refine aV ?_;refine' W.step rfl (Exec.call rfl rfl rfl rfl rfl rfl rfl (a4:=en) (b2:=[]) (by simp) trivial (aeZ ay aM au) ?_);rintro v m' ag hle ⟨k,rfl,aH,rfl,rfl⟩;rw[fb];refine U V.bm ?_;refine U V.a7 ?_;refine ns ?_;refine ae.ret ?_;refine'⟨.inr rfl,rfl,_,_,.tmp rfl .nil,bV _,?_⟩;refine⟨fl Value.bool ?_,rfl,rfl⟩;rw[oc,mN];exact aH
theorem ak9{bO b3:Nat}{cL ak x:Int}{aY:aI}:Fn (a2 Q g0) 87 [.int .i64 x,.pointer (some ⟨bO,0,none⟩),.pointer (some ⟨b3,0,none⟩)] ((b3,.row [.int .i64 ak] 3)::(bO,.row [.int .i64 cL] 3)::aY) J (fun u m' ag=>u=.bool (gY cL ak x)/\m'=((b3,.row [.int .i64 ak] 3)::(bO,.row [.int .i64 cL] 3)::aY)/\J=ag):=by
 refine Fn.dw (dB Tryz.func87) rfl rfl fun H=>?_;refine rg ?_;refine U V.a7 ?_;refine bP ?_;refine U V.az ?_;refine U V.a9 ?_;refine U V.bm ?_;refine U V.az ?_;refine eu 8 (fun sj=>?_) fun sj=>?_
 ·refine a0 ?_;refine a0 ?_;refine a0 ?_;refine U V.bc ?_;refine U V.a7 ?_;refine ns ?_;refine ae.ret ?_;refine'⟨.inr rfl,rfl,_,_,.tmp rfl .nil,bV _,?_⟩;refine⟨fl Value.bool ?_,rfl,rfl⟩;rw[show gY cL ak x=(decide (x<cL)||decide (ak<x)) from rfl];first|(rw[o8 sj];rfl)|(rw[tx sj];rfl)
 ·refine bg V.az ?_;refine bg V.a9 ?_;refine bg V.bm ?_;refine U V.bc ?_;refine U V.a7 ?_;refine ns ?_;refine ae.ret ?_;refine'⟨.inr rfl,rfl,_,_,.tmp rfl .nil,bV _,?_⟩;refine⟨fl Value.bool ?_,rfl,rfl⟩;rw[show gY cL ak x=(decide (x<cL)||decide (ak<x)) from rfl];first|(rw[o8 sj];rfl)|(rw[tx sj];rfl)
theorem Gc{b:Option Addr}{c:Nat}{l:List Int}{cL ak:Int}{aY:aI}(ay:iH aY J b l)(aM:l.length<=1000000):Fn (a2 Q g0) 68 [.int .i64 cL,.int .i64 ak,.slice b l.length c] aY J (fun u m' ag=>u=.int .i64 (if l.any (gY cL ak)=true then 2 else 0)/\m'=[]/\J=ag):=by
 refine Fn.dw (dB Tryz.func68) rfl rfl fun H=>?_;refine rg ?_;refine fG fun bO=>?_;refine fG fun b3=>?_;refine U V.a7 ?_;refine bP ?_;refine aV ?_;refine' W.step rfl (Exec.call rfl rfl rfl rfl rfl rfl rfl (a4:=(b3,.row [.int .i64 ak] 3)::(bO,.row [.int .i64 cL] 3)::aY) (b2:=[]) (by rw[fb];exact .refl _) trivial (KV (P:=gY cL ak) (fun h=>by obtain⟨a,off,cells,aa,ab,aK⟩:=ay h;exact⟨a,off,cells,aa,ab.cons.cons,aK⟩) aM (fun x=>ak9)) ?_);rintro v m' ag hle ⟨rfl,rfl,rfl⟩;rw[fb];refine ns ?_;refine If (fun jr=>?_) fun jr=>?_
 ·refine rg ?_;refine U V.a7 ?_;refine ns ?_;refine ae.ret ?_;refine hk ?_;first
   |exact⟨by rw[aF jr];rfl,rfl,rfl⟩
   |exact⟨by rw[aq (by simp[jr])];rfl,rfl,rfl⟩
 ·refine aJ ?_;refine ae.skip ?_;refine rg ?_;refine U V.a7 ?_;refine ns ?_;refine ae.ret ?_;refine hk ?_;first
   |exact⟨by rw[aF jr];rfl,rfl,rfl⟩
   |exact⟨by rw[aq (by simp[jr])];rfl,rfl,rfl⟩
end
end
end Go.Opn
namespace Go.Opn
noncomputable section
theorem u0(rec:Nat->Option (Nat×List fD))(c:Int)(r:List Int)(n:Nat):gL rec (c::r) n=if c≠(n:Int) then none else match rec n with
 |none=>none
 |some (b5,es)=>match gL rec r b5 with
  |none=>none
  |some (dr,vf)=>some (dr,es++vf):=rfl
theorem Q4(rec:Nat->Option (Nat×List fD)):∀(a b:List Int) (n:Nat),gL rec (a++b) n=match gL rec a n with
 |none=>none
 |some (b5,aD)=>match gL rec b b5 with
  |none=>none
  |some (dr,a5)=>some (dr,aD++a5):=by
 intro a;induction a with
 |nil=>
  intro b n;show gL rec b n=_;cases h:gL rec b n with
  |none=>simp[gL,h]
  |some p=>simp[gL,h]
 |cons c a aG=>
  intro b n;show gL rec (c::(a++b)) n=_;rw[u0,u0];by_cases av:c≠(n:Int)
  ·rw[aF av,aF av]
  ·rw[aq av,aq av];cases ax:rec n with
   |none=>rfl
   |some p=>
    obtain⟨b5,aD⟩:=p;simp only
    rw[aG b b5];cases aW:gL rec a b5 with
    |none=>rfl
    |some q=>
     obtain⟨dr,a5⟩:=q;simp only
     cases ai:gL rec b dr with
     |none=>rfl
     |some r=>obtain⟨ki,cC⟩:=r;simp
theorem Y'(rec:Nat->Option (Nat×List fD))(c:Int)(n:Nat):gL rec [c] n=if c≠(n:Int) then none else rec n:=by
 rw[u0];split
 ·rfl
 ·cases h:rec n with
  |none=>rfl
  |some p=>obtain⟨b5,aD⟩:=p;simp[gL]
theorem u1{rec:Nat->Option (Nat×List fD)}{cs:List Int}{n k:Nat}{c:Int}{cur:Nat}{es:List fD}(h:gL rec (cs.take k) n=some (cur,es))(av:cs[k]?=some c):
 gL rec (cs.take (k+1)) n=if c≠(cur:Int) then none else match rec cur with
  |none=>none
  |some (b5,aD)=>some (b5,es++aD):=by
 rw[pM,av];show gL rec (cs.take k++[c]) n=_;rw[Q4,h];simp only[Y'];by_cases q:c≠(cur:Int)
 ·rw[aF q,aF q]
 ·rw[aq q,aq q]
theorem wV{rec:Nat->Option (Nat×List fD)}{cs:List Int}{n k:Nat}(h:gL rec (cs.take k) n=none):gL rec cs n=none:=by
 have:=Q4 rec (cs.take k) (cs.drop k) n;rw[PW,h] at this;exact this
theorem AM{ns:List cH}{rec:Nat->Option (Nat×List fD)}(ax:∀n b5 e,rec n=some (b5,e)->n<b5/\b5<=ns.length/\e.length=b5 -n):∀{cs:List Int} {n b5:Nat} {e:List fD},gL rec cs n=some (b5,e)->n<=ns.length->n<=b5/\b5<=ns.length/\e.length=b5 -n:=by
 intro cs;induction cs with
 |nil=>intro n b5 e h aM;simp only[gL,b6,da] at h;obtain⟨rfl,rfl⟩:=h;exact⟨dH _,aM,by simp⟩
 |cons c cs aG=>
  intro n b5 e h aM;rw[u0] at h;split at h
  ·cases h
  ·split at h
   ·cases h
   ·rename_i dr a5 ab;obtain⟨bl,bF,bO⟩:=ax _ _ _ ab;split at h
    ·cases h
    ·rename_i ki cC aK;simp only[b6,da] at h;obtain⟨rfl,rfl⟩:=h;obtain⟨bE,bS,cJ⟩:=aG aK bF;exact⟨by omega,bS,by rw[er];omega⟩
theorem qD{ns:List cH}:∀(f:Nat) (p d:Int) (n b5:Nat) (e:List fD),dW ns f p d n=some (b5,e)->n<b5/\b5<=ns.length/\e.length=b5 -n:=by
 intro f;induction f with
 |zero=>intro p d n b5 e h;cases h
 |succ f aG=>
  intro p d n b5 e h;unfold dW at h;split at h
  ·cases h
  ·rename_i x I;have cP:=(dv.1 I).1;split at h
   ·cases h
   ·rename_i dr es ab;simp only[b6,da] at h;obtain⟨rfl,rfl⟩:=h;obtain⟨bE,bS,cJ⟩:=AM (fun a b c q=>aG _ _ a b c q) ab (by omega);exact⟨by omega,bS,by rw[j2];omega⟩
def ji(L:List Int)(a:Nat)(vs:List Int):List Int:=L.take a++vs++L.drop (a+vs.length)
theorem zZ{L:List Int}{a:Nat}{vs:List Int}(h:a+vs.length<=L.length):(ji L a vs).length=L.length:=by
 unfold ji;simp only[er,fc,jJ];omega
theorem ah5(L:List Int)(a:Nat):ji L a []=L:=by simp[ji]
theorem N8{L:List Int}{a b:Nat}{vs ws:List Int}(h:a+vs.length<=L.length)(ai:b=a+vs.length):ji (ji L a vs) b ws=ji L a (vs++ws):=by
 subst ai;unfold ji;have aa:(L.take a++vs).length=a+vs.length:=by rw[er,fc];omega
 rw[PX (by omega),fZ (by omega),List.drop_append,Ar (by omega),aa,mB,Aq,er,<-j0];congr 2
 omega
theorem V8{L:List Int}{a:Nat}{x:Int}(h:a<L.length):L.set a x=ji L a [x]:=by
 rw[Kb,aF h];simp[ji]
theorem Vt{L:List Int}{a:Nat}{vs:List Int}(h:a+vs.length<=L.length)(i:Nat):(ji L a vs)[i]?=if a<=i/\i<a+vs.length then vs[i -a]? else L[i]?:=by
 unfold ji;have ab:(L.take a).length=a:=by rw[fc];omega
 by_cases aZ:i<a
 ·rw[aq (by omega),j0,og (by omega),kr,aF aZ]
 ·by_cases aR:i<a+vs.length
  ·rw[aF (by omega),j0,rY (by omega),ab,og (by omega)]
  ·rw[aq (by omega),j0,rY (by omega),ab,rY (by omega),o2];congr 1;omega
theorem Je{L:List Int}{a:Nat}{x:Int}{vs:List Int}(h:a+1+vs.length<=L.length):(ji L (a+1) vs).set a x=ji L a (x::vs):=by
 apply mb
 intro i;rw[j1,Vt h,zZ h,Vt (by rw[j2];omega),j2];by_cases q:a=i
 ·subst q;rw[aF rfl,aF (by omega),aF (by omega),ta];rfl
 ·rw[aq q];by_cases aR:a+1<=i/\i<a+1+vs.length
  ·rw[aF aR,aF (by omega),show i -a=(i -(a+1))+1 by omega,wy]
  ·rw[aq aR,aq (by omega)]
end
end Go.Opn
namespace Go.Opn
noncomputable section
def lf(v:Int):List Int->Nat->Int
 |[],_=>-1
 |x::r,n=>if v=x then(n:Int) else lf v r (n+1)
theorem Nd{v:Int}{l:List Int}{i:Nat}{x:Int}(I:l[i]?=some x):lf v (l.drop i) i=if v=x then(i:Int) else lf v (l.drop (i+1)) (i+1):=by
 have ak:i<l.length:=(dv.1 I).1;rw[od ak];have:l[i]=x:=by rw[du ak] at I;injection I
 rw[this];rfl
theorem TS{v:Int}{l:List Int}{i:Nat}(h:l.length<=i):lf v (l.drop i) i=-1:=by rw[wv h];rfl
theorem TT{v:Int}:∀{l:List Int} {n:Nat},0<=lf v l n↔v∈l:=by
 intro l;induction l with
 |nil=>intro n;simp[lf]
 |cons x r aG=>
  intro n;unfold lf;split
  ·rename_i h;subst h;simp
  ·rename_i h;rw[aG,ft];exact⟨.inr,fun q=>q.resolve_left h⟩
def vP:List Int->Int
 |[]=>0
 |x::r=>r.foldl max x
theorem afF{l:List Int}{i:Nat}{x:Int}(aa:1<=i)(I:l[i]?=some x):vP (l.take (i+1))=max (vP (l.take i)) x:=by
 rw[pM,I];cases l with
 |nil=>cases I
 |cons y r=>
  cases i with
  |zero=>omega
  |succ i=>simp[vP]
def JS(l:List Int):Prop:=∀i x y,l[i]?=some x->l[i+1]?=some y->¬y<x
theorem DH{es:List fD}(h:∃e r,es=e::r/\e.2.1=0):vc es=vP (es.map fun e=>e.2.1):=by
 obtain⟨e,r,rfl,bt⟩:=h;unfold vc;simp only[J7,k2,vP,bt];rw[List.foldl_map];rfl
theorem F1{ns:List cH}{f:Nat}{p d:Int}{a n:Nat}{es:List fD}(h:dW ns f p d a=some (n,es)):∃e r,es=e::r/\e.1=p/\e.2.1=d/\e.2.2=(n:Int) -1:=by
 cases f with
 |zero=>cases h
 |succ f=>
  unfold dW at h;split at h
  ·cases h
  ·split at h
   ·cases h
   ·simp only[b6,da] at h;obtain⟨rfl,rfl⟩:=h;exact⟨_,_,rfl,rfl,rfl,rfl⟩
def lT(g:bp)(i:Nat):List Int:=(List.range g.is.length).map fun(j:Nat)=>nP (fx (j:Int) i (g.ns.drop i))+1
theorem sf{g:bp}{i:Nat}:(lT g i).length=g.is.length:=by simp[lT]
theorem vj{g:bp}{i j:Nat}(h:j<g.is.length):(lT g i)[j]?=some (nP (fx (j:Int) i (g.ns.drop i))+1):=by
 unfold lT;rw[gG,wz h];rfl
theorem abf{g:bp}{i:Nat}(h:g.ns.length<=i):lT g i=List.replicate g.is.length 0:=by
 apply mb
 intro j;by_cases aU:j<g.is.length
 ·rw[vj aU,wv h,Gt,aF aU];rfl
 ·rw[hg (by rw[sf];omega),Gt,aq aU]
theorem V4{g:bp}{j:Int}{i:Nat}{x:cH}(I:g.ns[i]?=some x):fx j i (g.ns.drop i)=if x.k=2/\x.i=j then(i:Int)::fx j (i+1) (g.ns.drop (i+1)) else fx j (i+1) (g.ns.drop (i+1)):=by
 have ak:i<g.ns.length:=(dv.1 I).1;rw[od ak];have:g.ns[i]=x:=by rw[du ak] at I;injection I
 rw[this];rfl
theorem abg{g:bp}{i:Nat}{x:cH}(I:g.ns[i]?=some x)(aH:x.k≠2):lT g i=lT g (i+1):=by
 unfold lT;congr 1
 funext j
 rw[V4 I,aq (fun q=>aH q.1)]
theorem abh{g:bp}{i:Nat}{x:cH}(I:g.ns[i]?=some x)(aH:x.k=2)(bt:0<=x.i)(aa:x.i<g.is.length):lT g i=(lT g (i+1)).set x.i.toNat ((i:Int)+1):=by
 apply mb
 intro j;rw[j1,sf];by_cases aU:j<g.is.length
 ·rw[vj aU,vj aU,V4 I];by_cases q:x.i.toNat=j
  ·rw[aF ⟨aH,by omega⟩,aF q,aF (by omega)];rfl
  ·rw[aq (fun r=>q (by omega)),aq q]
 ·rw[hg (by rw[sf];omega),hg (by rw[sf];omega),aq (by omega)]
open Classical
def Co (g:bp):Int:=
 if ∃x∈g.ns,x.k=2/\g.is[x.i.toNat]?≠some (x.p,(x.af.length:Int)) then 10
 else if ∃s∈jE g,s=[] then 18
 else if ∃(i:Nat) (s t:List Int),(jE g)[i]?=some s/\(jE g)[i+1]?=some t/\nP t<nP s then 9
 else 0
theorem x2{g:bp}{j:Nat}(h:j<g.is.length):(jE g)[j]?=some (fx (j:Int) 0 g.ns):=by
 unfold jE;rw[gG,wz h];rfl
theorem Cq{g:bp}:(jE g).length=g.is.length:=by simp[jE]
theorem V5{i:Int}:∀{l:List cH} {j:Nat} {y:Int},y∈fx i j l->(j:Int)<=y:=by
 intro l;induction l with
 |nil=>intro j y h;cases h
 |cons x r aG=>
  intro j y h;unfold fx at h;split at h
  ·rcases ft.1 h with q|q
   ·omega
   ·have:=aG q;omega
  ·have:=aG h;omega
theorem SK{i:Int}{j:Nat}{l:List cH}:nP (fx i j l)+1=0↔fx i j l=[]:=by
 constructor
 ·intro h;cases al:fx i j l with
  |nil=>rfl
  |cons y r=>rw[al] at h;have:=V5 (i:=i) (j:=j) (l:=l) (y:=y) (by rw[al];exact .head _);simp only[nP] at h;omega
 ·intro h;rw[h];rfl
theorem rN{g:bp}:(∃s∈jE g,s=[])↔(0:Int)∈lT g 0:=by
 constructor
 ·rintro⟨s,al,rfl⟩;obtain⟨j,aU⟩:=lM.1 al;have ay:j<g.is.length:=by have:=(dv.1 aU).1;rwa [Cq] at this
  rw[x2 ay] at aU;injection aU with aU
  have:=vj (g:=g) (i:=0) ay;rw[m7,SK.2 aU] at this;exact cV this
 ·intro h;obtain⟨j,aU⟩:=lM.1 h;have ay:j<g.is.length:=by have:=(dv.1 aU).1;rwa [sf] at this
  rw[vj ay,m7] at aU;injection aU with aU
  exact⟨_,cV (x2 ay),SK.1 aU⟩
theorem x3{g:bp}:(∃(i:Nat) (s t:List Int),(jE g)[i]?=some s/\(jE g)[i+1]?=some t/\nP t<nP s)↔¬JS (lT g 0):=by
 constructor
 ·rintro⟨i,s,t,aa,ab,aK⟩ h;have ay:i+1<g.is.length:=by have:=(dv.1 ab).1;rwa [Cq] at this
  rw[x2 (by omega)] at aa;rw[x2 ay] at ab;injection aa with aa;injection ab with ab
  refine h i _ _ (vj (by omega)) (vj ay) ?_;rw[m7,aa,ab];omega
 ·intro h;refine CI fun q=>h fun i x y I ah cP=>q ?_;have ay:i+1<g.is.length:=by have:=(dv.1 ah).1;rwa [sf] at this
  rw[vj (by omega),m7] at I;rw[vj ay,m7] at ah;injection I with I;injection ah with ah
  exact⟨i,_,_,x2 (by omega),x2 ay,by omega⟩
end
end Go.Opn
namespace Go.Opn
noncomputable section
structure yn (ns:List cH) (p:Int) (mZ b5:Nat) (cs:List Int) (es:List fD):Prop where
 le:mZ<=b5
 len:es.length=b5 -mZ
 kids:∀c∈cs,(mZ:Int)<=c/\c<b5/\∃e:fD,es[(c -mZ).toNat]?=some e/\e.1=p
 QA:cs.Pairwise (·<·)
 each:∀j:Nat,mZ<=j->j<b5->∃(x:cH) (e:fD),ns[j]?=some x/\es[j -mZ]?=some e/\x.af.Pairwise (·<·)/\
  (∀c∈x.af,(j:Int)<c/\c<b5/\∃bn:fD,es[(c -mZ).toNat]?=some bn/\bn.1=(j:Int))/\
  (((j:Int)∈cs/\e.1=p)\/((mZ:Int)<=e.1/\e.1<(j:Int)/\∃y:cH,ns[e.1.toNat]?=some y/\(j:Int)∈y.af))
theorem Lr{α:Type}{a b:List α}{i:Nat}{e:α}(h:a[i]?=some e):(a++b)[i]?=some e:=by
 rw[og (dv.1 h).1];exact h
theorem Ls{α:Type}{a b:List α}{i k:Nat}{e:α}(h:b[k]?=some e)(ak:i=a.length+k):(a++b)[i]?=some e:=by
 subst ak;rw[rY (by omega),show a.length+k -a.length=k by omega];exact h
theorem yn.cons{ns:List cH}{p:Int}{mZ m b5:Nat}{r:List Int}{aD a5:List fD}(aa:yn ns p mZ m [(mZ:Int)] aD)(hm:mZ<m)(ab:yn ns p m b5 r a5):yn ns p mZ b5 ((mZ:Int)::r) (aD++a5):=by
 have dZ:=aa.len;have eJ:=ab.len;have an7:=ab.le;refine⟨by omega,by rw[er];omega,fun c av=>?_,?_,fun j Nm vN=>?_⟩
 ·rcases ft.1 av with q|q
  ·obtain⟨bl,bF,e,bO,b3⟩:=aa.kids c (by rw[q];exact .head _);exact⟨bl,by omega,e,Lr bO,b3⟩
  ·obtain⟨bl,bF,e,bO,b3⟩:=ab.kids c q;exact⟨by omega,bF,e,Ls bO (by omega),b3⟩
 ·rw[PR];exact⟨fun c av=>by have:=(ab.kids c av).1;omega,ab.QA⟩
 ·by_cases q:j<m
  ·obtain⟨x,e,bl,bF,bO,b3,c2⟩:=aa.each j Nm q;refine⟨x,e,bl,Lr bF,bO,fun c av=>?_,?_⟩
   ·obtain⟨bE,bS,bn,cJ,gy⟩:=b3 c av;exact⟨bE,by omega,bn,Lr cJ,gy⟩
   ·rcases c2 with⟨c2,cX⟩|c2
    ·refine .inl ⟨?_,cX⟩;simp at c2;rw[c2];exact .head _
    ·exact .inr c2
  ·obtain⟨x,e,bl,bF,bO,b3,c2⟩:=ab.each j (by omega) vN;refine⟨x,e,bl,Ls bF (by omega),bO,fun c av=>?_,?_⟩
   ·obtain⟨bE,bS,bn,cJ,gy⟩:=b3 c av;exact⟨bE,bS,bn,Ls cJ (by omega),gy⟩
   ·rcases c2 with⟨c2,cX⟩|⟨c2,cX⟩
    ·exact .inl ⟨.tail _ c2,cX⟩
    ·exact .inr ⟨by omega,cX⟩
theorem Y9{ns:List cH}{p:Int}{rec:Nat->Option (Nat×List fD)}(ax:∀n b5 e,rec n=some (b5,e)->n<b5/\b5<=ns.length/\yn ns p n b5 [(n:Int)] e):∀{cs:List Int} {n b5:Nat} {e:List fD},gL rec cs n=some (b5,e)->yn ns p n b5 cs e:=by
 intro cs;induction cs with
 |nil=>
  intro n b5 e h;simp only[gL,b6,da] at h;obtain⟨rfl,rfl⟩:=h;exact⟨dH _,by simp,(fun c av=>by cases av),List.Pairwise.nil,(fun j Nm vN=>by omega)⟩
 |cons c cs aG=>
  intro n b5 e h;rw[u0] at h;split at h
  ·cases h
  ·rename_i av;have av:c=(n:Int):=uH.1 av;subst av;split at h
   ·cases h
   ·rename_i dr a5 ab;obtain⟨bl,bF,bO⟩:=ax _ _ _ ab;split at h
    ·cases h
    ·rename_i ki cC aK;simp only[b6,da] at h;obtain⟨rfl,rfl⟩:=h;exact bO.cons bl (aG aK)
theorem aj5{ns:List cH}:∀(f:Nat) (p d:Int) (n b5:Nat) (e:List fD),dW ns f p d n=some (b5,e)->n<b5/\b5<=ns.length/\yn ns p n b5 [(n:Int)] e:=by
 intro f;induction f with
 |zero=>intro p d n b5 e h;cases h
 |succ f aG=>
  intro p d n b5 e h;have ay:=qD _ _ _ _ _ _ h;refine⟨ay.1,ay.2.1,?_⟩;unfold dW at h;split at h
  ·cases h
  ·rename_i x I;split at h
   ·cases h
   ·rename_i dr es ab;simp only[b6,da] at h;obtain⟨rfl,rfl⟩:=h;have aw:=Y9 (p:=(n:Int)) (fun a b c q=>aG (n:Int) (d+1) a b c q) ab;have hle:=aw.le;have hlen:=aw.len;refine⟨by omega,by rw[j2];omega,fun c av=>?_,PS _ _,fun j Nm vN=>?_⟩
    ·simp at av;subst av;exact⟨by omega,by omega,(p,d,(dr:Int) -1),by simp,rfl⟩
    ·have sh:∀(c:Int) (bn:fD),(n:Int)+1<=c->es[(c -((n+1:Nat):Int)).toNat]?=some bn->((p,d,(dr:Int) -1)::es)[(c -n).toNat]?=some bn:=fun c bn aZ aR=>by
      rw[show(c -n).toNat=(c -((n+1:Nat):Int)).toNat+1 by omega,wy];exact aR
     by_cases q:j=n
     ·subst q;refine⟨x,(p,d,(dr:Int) -1),I,by simp,aw.QA,fun c av=>?_,.inl ⟨.head _,rfl⟩⟩;obtain⟨bE,bS,bn,cJ,gy⟩:=aw.kids c av;exact⟨by omega,bS,bn,sh c bn (by omega) cJ,gy⟩
     ·obtain⟨y,e,bl,bF,bO,b3,c2⟩:=aw.each j (by omega) vN;refine⟨y,e,bl,by rw[show j -n=(j -(n+1))+1 by omega,wy];exact bF,bO,fun c av=>?_,?_⟩
      ·obtain⟨bE,bS,bn,cJ,gy⟩:=b3 c av;exact⟨bE,bS,bn,sh c bn (by omega) cJ,gy⟩
      ·rcases c2 with⟨c2,cX⟩|⟨c2,cX⟩
       ·exact .inr ⟨by omega,by omega,x,by rw[cX,ea];exact I,c2⟩
       ·exact .inr ⟨by omega,cX⟩
structure Tree (g:bp) (P:List Int):Prop where
 len:P.length=g.ns.length
 root:P[0]?=some (-1)
 up:∀c:Nat,1<=c->c<g.ns.length->∃a:Nat,P[c]?=some (a:Int)/\a<c/\∃y,g.ns[a]?=some y/\(c:Int)∈y.af
 down:∀(j:Nat) (x:cH),g.ns[j]?=some x->x.af.Pairwise (·<·)/\∀c∈x.af,(j:Int)<c/\c<g.ns.length/\P[c.toNat]?=some (j:Int)
theorem aj7{g:bp}{es:List fD}{f:Nat}{d:Int}(h:dW g.ns f (-1) d 0=some (g.ns.length,es)):Tree g (es.map fun e=>e.1):=by
 obtain⟨aa,ab,aw⟩:=aj5 _ _ _ _ _ _ h;have ay:=aw.len;have fg:∀{i:Nat} {e:fD},es[i]?=some e->(es.map fun e=>e.1)[i]?=some e.1:=fun q=>by rw[gG,q];rfl
 refine⟨by rw[ig];omega,?_,fun c bx bT=>?_,fun j x I=>?_⟩
 ·obtain⟨_,_,e,bO,b3⟩:=aw.kids 0 (.head _);have:=fg bO;rw[b3] at this;exact this
 ·obtain⟨x,e,bl,bF,_,_,c2⟩:=aw.each c (dV _) bT;have:=fg bF;rcases c2 with⟨c2,_⟩|⟨c2,cX,y,g5,g6⟩
  ·simp at c2;omega
  ·refine⟨e.1.toNat,?_,by omega,y,g5,g6⟩;rw[yt] at this;rw[this];congr 1;omega
 ·have aU:=(dv.1 I).1;obtain⟨y,e,bl,bF,bO,b3,_⟩:=aw.each j (dV _) aU;rw[I] at bl;injection bl with bl;subst bl
  refine⟨bO,fun c av=>?_⟩;obtain⟨bE,bS,bn,cJ,gy⟩:=b3 c av;refine⟨bE,bS,?_⟩;have:=fg cJ;rw[gy] at this;rw[<-this];congr 1;omega
def tl(P:List Int)(at_:Nat):List (Nat×Nat):=
 match P[at_]? with
 |none=>[]
 |some a=>if h:0<=a/\a.toNat<at_ then(a.toNat,at_)::tl P a.toNat else[]
termination_by at_
decreasing_by exact h.2
theorem Qs{P:List Int}{c a:Nat}(h:P[c]?=some (a:Int))(aW:a<c):tl P c=(a,c)::tl P a:=by
 conv=>lhs;unfold tl
 rw[h];simp only;rw[dif_pos ⟨by omega,by omega⟩,ea]
theorem Yj{P:List Int}{c:Nat}{a:Int}(h:P[c]?=some a)(aW:a<0):tl P c=[]:=by
 unfold tl;rw[h];simp only;rw[dif_neg (by omega)]
def Fs(g:bp)(p:Int)(x:Nat×Nat):Option (Nat×Int):=match g.ns[x.1]? with
 |none=>none
 |some y=>if y.k=2/\y.p=p then some (x.1,lf (x.2:Int) y.af 0) else none
def oI(g:bp)(P:List Int)(p:Int)(c:Nat):List (Nat×Int):=(tl P c).filterMap (Fs g p)
def ms(g:bp)(a:Nat):Int:=match g.ns[a]? with|none=>0|some y=>y.i
def qE(g:bp)(P:List Int)(p:Int)(c:Nat):List (Int×Int):=(oI g P p c).map fun x=>(ms g x.1,x.2)
def kp(g:bp)(P:List Int)(p:Int)(c:Nat):List (Int×Int):=(qE g P p c).reverse
theorem B1{g:bp}{P:List Int}{p:Int}{c a:Nat}{y:cH}(h:P[c]?=some (a:Int))(aW:a<c)(ah:g.ns[a]?=some y)(hm:y.k=2/\y.p=p):oI g P p c=(a,lf (c:Int) y.af 0)::oI g P p a:=by
 unfold oI;rw[Qs h aW,List.filterMap_cons];have:Fs g p (a,c)=some (a,lf (c:Int) y.af 0):=by unfold Fs;simp only[ah];rw[aF hm]
 rw[this]
theorem zL{g:bp}{P:List Int}{p:Int}{c a:Nat}{y:cH}(h:P[c]?=some (a:Int))(aW:a<c)(ah:g.ns[a]?=some y)(hm:¬(y.k=2/\y.p=p)):oI g P p c=oI g P p a:=by
 unfold oI;rw[Qs h aW,List.filterMap_cons];have:Fs g p (a,c)=none:=by unfold Fs;simp only[ah];rw[aq hm]
 rw[this]
theorem NB{g:bp}{P:List Int}{p:Int}{c:Nat}{a:Int}(h:P[c]?=some a)(aW:a<0):oI g P p c=[]:=by
 unfold oI;rw[Yj h aW];rfl
theorem IM{g:bp}{P:List Int}{p:Int}:∀(n c:Nat),c<=n->(oI g P p c).length<=c:=by
 have key:∀(n c:Nat),c<=n->(tl P c).length<=c:=by
  intro n;induction n with
  |zero=>
   intro c av;unfold tl;split
   ·simp
   ·split
    ·omega
    ·simp
  |succ n aG=>
   intro c av;unfold tl;split
   ·simp
   ·split
    ·rename_i b _ ai;have:=aG b.toNat (by omega);rw[j2];omega
    ·simp
 intro n c av;exact m9 (List.length_filterMap_le _ _) (key n c av)
def yc{σ:Type}(step:σ->Nat->Int->σ×Bool):σ->List (Nat×Int)->σ
 |s,[]=>s
 |s,x::r=>if(step s x.1 x.2).2=true then yc step (step s x.1 x.2).1 r else(step s x.1 x.2).1
end
end Go.Opn
namespace Go.Opn
noncomputable section
theorem TU{v:Int}:∀{l:List Int} {n:Nat},0<=lf v l n->∃m:Nat,lf v l n=((n+m:Nat):Int)/\l[m]?=some v:=by
 intro l;induction l with
 |nil=>intro n h;simp[lf] at h
 |cons x r aG=>
  intro n h;unfold lf at h ⊢;split
  ·rename_i q;exact⟨0,by simp,by rw[q];rfl⟩
  ·rename_i q;rw[aq q] at h;obtain⟨m,aa,ab⟩:=aG h;exact⟨m+1,by rw[aa];congr 1;omega,by rw[wy];exact ab⟩
theorem Vw{l:List Int}(h:l.Pairwise (·<·)){i j:Nat}{x y:Int}(ak:l[i]?=some x)(aU:l[j]?=some y)(Bh:i<j):x<y:=by
 obtain⟨aa,ab⟩:=dv.1 ak;obtain⟨aK,bh⟩:=dv.1 aU;have:=XN.1 h i j aa aK Bh;omega
theorem aeW{v w:Int}{l:List Int}{k:Nat}(h:l.Pairwise (·<·))(aH:l[k]?=some w):w=v↔lf v l 0=(k:Int):=by
 constructor
 ·rintro rfl;obtain⟨m,aa,ab⟩:=TU (TT (n:=0).2 (cV aH));rw[aa];by_cases aZ:m<k
  ·have:=Vw h ab aH aZ;omega
  ·by_cases aR:k<m
   ·have:=Vw h aH ab aR;omega
   ·omega
 ·intro q;obtain⟨m,aa,ab⟩:=TU (v:=v) (l:=l) (n:=0) (by omega);obtain rfl:m=k:=by omega
  rw[aH] at ab;injection ab
end
end Go.Opn
