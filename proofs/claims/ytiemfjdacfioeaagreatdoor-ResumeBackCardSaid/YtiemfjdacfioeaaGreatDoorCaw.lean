/- A part of the proof of ResumeBack. -/
import Derived.Test.YtiemfjdacfioeaaGreatDoorCav
set_option maxRecDepth 100000
set_option maxHeartbeats 4000000
set_option linter.unusedVariables false
set_option linter.unusedSimpArgs false
namespace Go.Opn
noncomputable section
open Go.Cre Go.RowKit Go.Proofs
theorem fa.at{α:Type}{J:aI}{e:TypeId}{sz n c:Nat}{b:Option Addr}{R:α->List Value->Prop}{xs:List α}(h:fa J e sz R (.slice b n c) xs):n=xs.length/\(0<xs.length->∃a off cells bG,b=some ⟨a,off,none⟩/\J a=some (cells,bG)/\
 ∀i:Int,0<=i->i<xs.length->∃x cs,xs[i.toNat]?=some x/\takeN sz (oG (off+i.toNat*sz) cells)=some cs/\(∀k v,k<sz->nth cs k=some v->nth cells (off+i.toNat*sz+k)=some v)/\R x cs):=by
 obtain⟨aa,ae⟩:=h.get;refine⟨aa,fun aw=>?_⟩;obtain⟨a,off,cells,bG,bp,bC,b5⟩:=ae aw;refine⟨a,off,cells,bG,bp,bC,fun i i0 i1=>?_⟩;have U:=de (l:=xs) (i:=i.toNat) (by omega);obtain⟨cs,bt,bw⟩:=b5 _ _ U;rw[cy] at bt;refine⟨_,cs,U,bt,fun k v aU az=>?_,bw⟩;obtain⟨q,_,_⟩:=E4 bt;rw[kR] at az ⊢;rw[q,wY,kI,aE aU,pY] at az;exact az
theorem hg(l:List Int):(l.map (Value.int .i64)).all eQ=true:=by
 induction l with
 |nil=>rfl
 |cons a l aK=>rw[nR,r1,aK];rfl
def jJ(aY:aO)(J:aI)(b:Option Addr)(l:List Int):Prop:=0<l.length->∃a off cells,b=some ⟨a,off,none⟩/\ij aY J a cells/\∀i:Int,0<=i->i<l.length->∃x,l[i.toNat]?=some x/\nth cells (off+i.toNat*1)=some (.int .i64 x)
theorem dG.iB{J:aI}{b:Option Addr}{n c:Nat}{l:List Int}(h:dG J (.slice b n c) l)(aY:aO):jJ aY J b l:=fun aw=>by
 obtain⟨_,_,aG⟩:=h.get;obtain⟨a,off,cells,e,br,eu,gK⟩:=aG aw;exact⟨a,off,cells,br,.fz eu,gK⟩
theorem jJ.own{a:Nat}{e:TypeId}{J:aI}{l:List Int}{m:aO}(h:(a,cK.row (l.map (Value.int .i64)) e)∈m):jJ m J (some ⟨a,0,none⟩) l:=fun aw=>
 ⟨a,0,_,rfl,.own h,fun i i0 i1=>⟨_,de (by omega),nh i.toNat (de (by omega))⟩⟩
theorem ij.cons{m:aO}{J:aI}{a:Nat}{cells:List Value}{x:Nat×cK}(h:ij m J a cells):ij (x::m) J a cells:=by
 cases h with
 |own h=>exact .own (.tail _ h)
 |opn h=>exact .opn (.tail _ h)
 |fz h=>exact .fz h
theorem ij.sub{m m':aO}{J:aI}{a:Nat}{cells:List Value}(h:ij m J a cells)(af:∀x∈m,x∈m'):ij m' J a cells:=by
 cases h with
 |own h=>exact .own (af _ h)
 |opn h=>exact .opn (af _ h)
 |fz h=>exact .fz h
def nu(J:aI)(x:cS)(cs:List Value):Prop:=∃bm bt bl bw b8 dh,cs=[.int .i64 x.k,.int .i64 x.p,.int .i64 x.i,.slice bm x.ak.length bt,.slice bl x.ws.length bw,.slice b8 x.fE.length dh]/\dG J (.slice bm x.ak.length bt) x.ak/\dG J (.slice bl x.ws.length bw) x.ws/\dG J (.slice b8 x.fE.length dh) x.fE
theorem nu.mono{J ag:aI}(hle:J.le ag){x:cS}{cs:List Value}(h:nu J x cs):nu ag x cs:=by
 obtain⟨bm,bt,bl,bw,b8,dh,aa,ae,aG,br⟩:=h;exact⟨bm,bt,bl,bw,b8,dh,aa,ae.mono hle,aG.mono hle,br.mono hle⟩
def uS(x:Int×Int)(cs:List Value):Prop:=cs=[.int .i64 x.1,.int .i64 x.2]
structure fG (J:aI) (g:bz) (aT:Option Addr) (aQ:Nat) (aL:Option Addr) (ci:Nat):Prop where
 n:fa J 45 6 (nu J) (.slice aT g.ns.length aQ) g.ns
 i:fa J 77 2 uS (.slice aL g.is.length ci) g.is
theorem fG.mono{J ag:aI}(hle:J.le ag){g:bz}{aT aL:Option Addr}{aQ ci:Nat}(h:fG J g aT aQ aL ci):fG ag g aT aQ aL ci:=⟨h.n.mono hle fun _ _ q=>q.mono hle,h.i.mono hle fun _ _ q=>q⟩
abbrev iq(g:bz)(aT:Option Addr)(aQ:Nat)(aL:Option Addr)(ci:Nat):List Value:=[.int .i64 g.pl,.slice aT g.ns.length aQ,.slice aL g.is.length ci]
abbrev hc(g:bz)(aT:Option Addr)(aQ:Nat)(aL:Option Addr)(ci:Nat):Value:=.agg (iq g aT aQ aL ci).toArray
abbrev Mz(v:Value)(J:aI):Value->aO->aI->Prop:=fun w m' ag=>w=v/\m'=[]/\ag=J
abbrev tg(v:Value)(J:aI):Value->aO->aI->Prop:=fun w m' ag=>w=v/\m'=[]/\J.le ag
section
variable {Q:dI Tryz.prog}{g0:Nat}{J:aI}
def ml:Int->Int->List UInt8->Int×Int
 |a,b,[]=>(a,b)
 |a,b,x::s=>ml ((IntKind.i64.wrap (a+x.toNat)).tmod 65521) ((IntKind.i64.wrap (b+(IntKind.i64.wrap (a+x.toNat)).tmod 65521)).tmod 65521) s
def tt(s:List UInt8):Int:=IntKind.i64.wrap (IntKind.i64.wrap (65536*(ml 1 0 s).2)+(ml 1 0 s).1)
theorem acA{s:List UInt8}{i:Nat}{x:UInt8}{a b:Int}(U:s[i]?=some x):ml a b (s.drop i)=ml ((IntKind.i64.wrap (a+x.toNat)).tmod 65521) ((IntKind.i64.wrap (b+(IntKind.i64.wrap (a+x.toNat)).tmod 65521)).tmod 65521) (s.drop (i+1)):=by
 have ao:i<s.length:=(dX.1 U).1;rw[mO ao];have:s[i]=x:=by rw[de ao] at U;injection U
 rw[this];rfl
theorem TL{s:List UInt8}(af:s.length<=140737488355328):Fn (bb Q g0) 11 [.string ⟨⟨s⟩⟩] [] J (Mz (.int .i64 (tt s)) J):=by
 refine Fn.cH (cQ Tryz.func11) rfl rfl fun H=>?_;refine rg ?_;refine I V.aA ?_;refine bj ?_;refine aM ?_;refine bj ?_;refine aM ?_;refine ns ?_;refine ab.block ?_;refine' ab.c2 (l':=[(3,.int .i64 (1)),(4,.int .i64 (0)),(8,.int .i64 ((0):Int)),(0,_),(7,_)]) ⟨?kE,?kF,?jq,rfl,rfl,trivial⟩ (bA _) ?_;case kE=>exact bS
 case kF=>exact bS
 case jq=>exact bS
 refine aj ?_;refine' ab.rG (α:=(Nat)×(Int)×(Int)) (fun(bH:(Nat)×(Int)×(Int))=>match bH with|(i,a,b)=>[(3,.int .i64 a),(4,.int .i64 b),(8,.int .i64 (i:Int))]) (fun(bH:(Nat)×(Int)×(Int))=>match bH with|(i,a,b)=>i<=s.length/\ml 1 0 s=ml a b (s.drop i)) (fun(bH:(Nat)×(Int)×(Int))=>match bH with|(i,a,b)=>s.length -i) ⟨0,1,0⟩ ?af ?bE
 case af=>exact⟨by omega,rfl⟩
 case bE=>
  rintro⟨i,a,b⟩ hinv;try simp only at hinv
  obtain⟨ao,k7⟩:=hinv;refine rg ?_;refine I V.a1 ?_;refine ns ?_;refine If (fun dR=>?_) fun dR=>?_
  ·obtain⟨x,as1,U⟩:=get_at s i (by omega);have asY:x.toNat<256:=x.toNat_lt;refine c5 ?_;refine aj ?_;refine ab.block ?_;refine rg ?_;refine aM ?_;refine bj ?_;refine aM ?_;refine I V.BF ?_;refine I V.gJ ?_;refine I V.a1 ?_;refine I V.w1 ?_;refine I V.aA ?_;refine bj ?_;refine aM ?_;refine I V.a1 ?_;refine I V.w1 ?_;refine I V.aA ?_;refine bj ?_;refine I V.bx ?_;refine I V.ah ?_;refine a8 ?_;refine'⟨⟨i+1,_,_⟩,_,?hinv,?kw,rfl,⟨?m3,?m4,?m8,rfl,rfl,trivial⟩,bA _,rfl⟩;case m3=>exact bS
   case m4=>exact bS
   case m8=>exact bS
   case kw=>exact cf
   case hinv=>exact⟨by omega,by rw[k7,acA U]⟩
  ·refine aj ?_;refine ab.exit ?_;refine rg ?_;refine I V.ah ?_;refine I V.a1 ?_;refine I V.ah ?_;refine I V.a1 ?_;refine I V.aA ?_;refine ns ?_;refine ab.ret ?_;refine c' ?_;refine⟨cC (Value.int .i64) ?_,rfl,rfl⟩;rw[wm (by omega)] at k7;unfold tt;rw[k7];rfl
end
section
variable {Q:dI Tryz.prog}{g0:Nat}{J:aI}
def No(d n:Int):Int:=(IntKind.i64.wrap (IntKind.i64.wrap (IntKind.i64.wrap (31*d)+n)+1000001)).tmod 2147483647
def dg(d:Int)(l:List Int):Int:=l.foldl No d
theorem Dj(d:Int)(l l':List Int):dg d (l++l')=dg (dg d l) l':=Jn
theorem adq{d:Int}{l:List Int}{i:Nat}{x:Int}(U:l[((i:Nat):Int).toNat]?=some x):No (dg d (l.take i)) x=dg d (l.take (i+1)):=by
 rw[cy] at U;rw[nS,U];simp[dg]
abbrev oE(ad:Nat)(d:Int):Nat×cK:=(ad,.row [.int .i64 d] 73)
theorem CY{ad:Nat}{d:Int}{aY:aO}{b:Option Addr}{c:Nat}{l:List Int}(av:jJ aY J b l)(aP:l.length<=1000000):
 Fn (bb Q g0) 28 [.pointer (some ⟨ad,0,none⟩),.slice b l.length c] (oE ad d::aY) J (fun _ m' ag=>m'=[oE ad (dg d l)]/\J=ag):=by
 refine Fn.cH (cQ Tryz.func28) rfl rfl fun H=>?_;refine rg ?_;refine aM ?_;refine ns ?_;refine ab.block ?_;refine' ab.c2 (l':=[(8,.int .i64 ((0):Int)),(0,_),(6,_),(7,_)]) ⟨?jq,rfl,rfl,rfl,trivial⟩ (bA _) ?_;case jq=>exact bS
 refine aj ?_;refine' ab.dF (fun(bH:Nat×Int)=>match bH with|(i,kG)=>⟨[(8,.int .i64 (i:Int))],oE ad kG::aY,J,i<=l.length/\kG=dg d (l.take i),l.length -i⟩) ⟨0,d⟩ ?af ?bE
 case af=>exact⟨cB _,rfl⟩
 case bE=>
  rintro⟨i,kG⟩ hinv;try simp only at hinv
  obtain⟨ao,rfl⟩:=hinv;refine rg ?_;refine I V.a1 ?_;refine ns ?_;refine If (fun dR=>?_) fun dR=>?_
  ·obtain⟨a,off,cells,rfl,k9,ec⟩:=av (by omega);obtain⟨x,U,e0⟩:=ec i (by omega) (by omega);refine c5 ?_;refine aj ?_;refine ab.block ?_;refine rg ?_;refine I V.aX ?_;refine' W.step rfl (Exec.val rfl rfl (gY rfl rfl ?ay (hp (eV rfl) ?az)) ?_);case ay=>exact k9.cons
   case az=>first|rfl|assumption
   refine I V.aA ?_;refine bj ?_;refine aM ?_;refine I V.aF ?_;refine I V.a1 ?_;refine I V.ah ?_;refine I V.a1 ?_;refine I V.a1 ?_;refine I V.w1 ?_;refine I V.o2 ?_;refine dN ?_;refine bj ?_;refine I V.bx ?_;refine I V.ah ?_;refine a8 ?_;refine cA ⟨i+1,_⟩ ?_;exact⟨by omega,adq U⟩
  ·refine aj ?_;refine ab.exit ?_;refine'⟨.inl rfl,rfl,_,_,.nil,.cons_cons _ (iR _),?_⟩;refine⟨?_,rfl⟩;rw[et (by omega)]
theorem list_fn{ad:Nat}{d:Int}{b:Option Addr}{c:Nat}{l:List Int}(av:dG J (.slice b l.length c) l)(aP:l.length<=1000000):
 Fn (bb Q g0) 29 [.pointer (some ⟨ad,0,none⟩),.slice b l.length c] [oE ad d] J (fun _ m' ag=>m'=[oE ad (dg d ((l.length:Int)::l))]/\J=ag):=by
 refine Fn.cH (cQ Tryz.func29) rfl rfl fun H=>?_;refine rg ?_;refine aM ?_;refine jw (eX Q g0) fun cX=>?_;refine' W.step rfl (Exec.call rfl rfl rfl rfl rfl rfl rfl (bh:=[oE ad d,(cX,_)]) (bW:=[]) (fM 1 rfl (fM 0 rfl .nil)) trivial (CY (aY:=[(cX,_)]) (l:=[(l.length:Int)]) (jJ.own (.head _)) (by simp)) ?_);rintro v m' ag hle ⟨rfl,rfl⟩;refine bj ?_;refine aM ?_;refine' W.step rfl (Exec.call rfl rfl rfl rfl rfl rfl rfl (bh:=[oE ad _]) (bW:=[]) (.refl _) trivial (CY (aY:=[]) (av.iB []) aP) ?_);rintro v m' ag hle ⟨rfl,rfl⟩;refine a8 ?_;refine'⟨.inl rfl,rfl,_,_,.nil,bA _,⟨rfl,rfl⟩⟩
def p5(g:bz):Int:=dg 1 (Ip g)
def Dk (g:bz):Value:=.tuple #[.int .i64 (if h6 g=0 then p5 g else 0),.int .i64 (h6 g)]
theorem adp{x:cS}{d:Int}:dg (dg (dg (dg d [x.k,x.p,x.i]) ((x.ak.length:Int)::x.ak)) ((x.ws.length:Int)::x.ws)) ((x.fE.length:Int)::x.fE)=dg d (BU x):=by
 unfold BU;rw[Dj,Dj,Dj]
theorem T1{g:bz}{aT aL:Option Addr}{aQ ci:Nat}(fQ:∀ag,J.le ag->Fn (bb Q g0) 27 [hc g aT aQ aL ci] [] ag (tg (.int .i64 (h6 g)) ag))(aq:fG J g aT aQ aL ci):
 Fn (bb Q g0) 9 [hc g aT aQ aL ci] [] J (tg (Dk g) J):=by
 refine Fn.cH (cQ Tryz.func9) rfl rfl fun H=>?_;refine rg ?_;refine dJ fun bo=>?_;refine aM ?_;refine bj ?_;refine I V.c8 ?_;refine cl (G:=fQ _ (aI.le.refl _)) (h:=?_);rintro v m' dQ ck ⟨rfl,rfl,_⟩;refine I V.aA ?_;refine bj ?_;refine I V.ah ?_;refine I V.a1 ?_;refine ns ?_;refine If (fun p2=>?_) fun p2=>?_
 ·refine rg ?_;refine aM ?_;refine ns ?_;refine ab.ret ?_;refine c' ?_;first
   |(refine⟨?_,rfl,ck⟩
     unfold Dk;rw[ap p2];rfl)
   |(refine⟨?_,rfl,ck⟩
     unfold Dk;rw[aE (gP.1 p2),gP.1 p2];unfold p5 Ip;rw[show j=g.is.length by omega,qV];rfl)
 ·have dt:=GG (gP.1 p2);have pt:=aq.mono ck;obtain⟨_,fD⟩:=pt.n.at;obtain⟨_,kt⟩:=pt.i.at;have dn:=dt.dn;have i2:=dt.i2;refine nf ?_;refine' W.step rfl (.of (e4 rfl rfl rfl (apP Q g0) rfl rfl rfl fun a5=>?_));refine dN ?_;refine bj ?_;refine I V.bc ?_;refine I V.aF ?_;refine I V.bc ?_;refine I V.aF ?_;refine I V.bP ?_;refine jw (eX Q g0) fun a20=>?_;refine' W.step rfl (Exec.call rfl rfl rfl rfl rfl rfl rfl (bh:=[oE a5 1,(a20,_)]) (bW:=[_]) (fM 1 rfl (fM 0 rfl (fM 0 rfl .nil))) trivial (CY (aY:=[(a20,_)]) (l:=[g.pl,(g.ns.length:Int)]) (jJ.own (.head _)) (by simp)) ?_);rintro v m' ag hle ⟨rfl,rfl⟩;refine bj ?_;refine I V.bc ?_;refine I V.aF ?_;refine aM ?_;refine ns ?_;refine ab.block ?_;refine' ab.c2 (l':=[(25,.int .i64 ((0):Int)),(1,_),(5,_),(23,_),(24,_)]) ⟨?I1,rfl,rfl,rfl,rfl,trivial⟩ (bA _) ?_;case I1=>exact bS
  refine aj ?_;refine' ab.dF (fun(bH:Nat×Int)=>match bH with|(i,kG)=>⟨[(25,.int .i64 (i:Int))],[oE a5 kG,(bo,.row (iq g aT aQ aL ci) 27)],dQ,i<=g.ns.length/\kG=dg 1 ([g.pl,(g.ns.length:Int)]++(g.ns.take i).flatMap BU),g.ns.length -i⟩) ⟨0,dg 1 [g.pl,(g.ns.length:Int)]⟩ ?af ?bE
  case af=>exact⟨cB _,by simp⟩
  case bE=>
   rintro⟨i,kG⟩ hinv;try simp only at hinv
   obtain⟨ao,rfl⟩:=hinv;refine rg ?_;refine I V.a1 ?_;refine ns ?_;refine If (fun ny=>?_) fun ny=>?_
   ·obtain⟨a,off,cells,bG,rfl,ms,ec⟩:=fD (by omega);obtain⟨x,cs,U,gV,_,ey⟩:=ec i (by omega) (by omega);obtain⟨bm,bt,bl,bw,b8,dh,rfl,eo,ga,gz⟩:=ey;rw[cy] at U;obtain⟨cU,ee,mx⟩:=EE (dt.nodes _ (cd U)) dt.lJ;refine c5 ?_;refine aj ?_;refine ab.block ?_;refine rg ?_;refine I V.aX ?_;refine I V.c8 ?_;refine' W.step rfl (.of (e4 rfl rfl rfl (om Q g0) rfl rfl rfl fun cX=>?_));refine dN ?_;refine bj ?_;refine I V.bc ?_;refine I V.aF ?_;refine I V.bc ?_;refine I V.aF ?_;refine I V.bc ?_;refine I V.aF ?_;refine jw (eX Q g0) fun SB=>?_;refine' W.step rfl (Exec.call rfl rfl rfl rfl rfl rfl rfl (bh:=[oE a5 _,(SB,_)]) (bW:=[_,_]) (fM 2 rfl (fM 0 rfl (fM 0 rfl (fM 0 rfl .nil)))) trivial (CY (aY:=[(SB,_)]) (l:=[x.k,x.p,x.i]) (jJ.own (.head _)) (by simp)) ?_);rintro v m' ag hle ⟨rfl,rfl⟩;refine bj ?_;refine I V.bc ?_;refine I V.aF ?_;refine' W.step rfl (Exec.call rfl rfl rfl rfl rfl rfl rfl (bh:=[oE a5 _]) (bW:=[_,_]) (.refl _) trivial (list_fn eo (by omega)) ?_);rintro v m' ag hle ⟨rfl,rfl⟩;refine bj ?_;refine I V.bc ?_;refine I V.aF ?_;refine' W.step rfl (Exec.call rfl rfl rfl rfl rfl rfl rfl (bh:=[oE a5 _]) (bW:=[_,_]) (.refl _) trivial (list_fn ga (by omega)) ?_);rintro v m' ag hle ⟨rfl,rfl⟩;refine bj ?_;refine I V.bc ?_;refine I V.aF ?_;refine' W.step rfl (Exec.call rfl rfl rfl rfl rfl rfl rfl (bh:=[oE a5 _]) (bW:=[_,_]) (.refl _) trivial (list_fn gz (by omega)) ?_);rintro v m' ag hle ⟨rfl,rfl⟩;refine bj ?_;refine I V.bx ?_;refine I V.ah ?_;refine a8 ?_;refine cA ⟨i+1,_⟩ ?_ (hm:=.cons_cons _ (.cons _ (.cons_cons _ .slnil)))
    exact⟨by omega,by rw[Uy U,<-gH,Dj _ _ (BU _),adp]⟩
   ·refine aj ?_;refine ab.exit ?_;refine rg ?_;refine I V.bc ?_;refine I V.aF ?_;refine I V.bP ?_;refine jw (eX Q g0) fun ow=>?_;refine' W.step rfl (Exec.call rfl rfl rfl rfl rfl rfl rfl (bh:=[oE a5 _,(ow,_)]) (bW:=[_]) (fM 1 rfl (fM 0 rfl (fM 0 rfl .nil))) trivial (CY (aY:=[(ow,_)]) (l:=[(g.is.length:Int)]) (jJ.own (.head _)) (by simp)) ?_);rintro v m' ag hle ⟨rfl,rfl⟩;refine bj ?_;refine I V.bc ?_;refine I V.aF ?_;refine aM ?_;refine ns ?_;refine ab.block ?_;refine' ab.c2 (l':=[(55,.int .i64 ((0):Int)),(5,_),(53,_),(54,_)]) ⟨?apd,rfl,rfl,rfl,trivial⟩ (bA _) ?_;case apd=>exact bS
    refine aj ?_;refine' ab.dF (fun(bH:Nat×Int)=>match bH with|(j,kG)=>⟨[(55,.int .i64 (j:Int))],[oE a5 kG,(bo,.row (iq g aT aQ aL ci) 27)],dQ,j<=g.is.length/\kG=dg 1 ([g.pl,(g.ns.length:Int)]++g.ns.flatMap BU++[(g.is.length:Int)]++(g.is.take j).flatMap P1),g.is.length -j⟩) ⟨0,dg (dg 1 ([g.pl,(g.ns.length:Int)]++(g.ns.take i).flatMap BU)) [(g.is.length:Int)]⟩ ?af ?bE
    case af=>exact⟨cB _,by rw[show i=g.ns.length by omega,qV,<-Dj];simp⟩
    case bE=>
     rintro⟨j,kG⟩ hinv;try simp only at hinv
     obtain⟨ba,rfl⟩:=hinv;refine rg ?_;refine I V.a1 ?_;refine ns ?_;refine If (fun abV=>?_) fun abV=>?_
     ·obtain⟨a,off,cells,bG,rfl,ms,ec⟩:=kt (by omega);obtain⟨y,cs,ai,gV,_,rfl⟩:=ec j (by omega) (by omega);rw[cy] at ai;refine c5 ?_;refine aj ?_;refine ab.block ?_;refine rg ?_;refine I V.aX ?_;refine I V.c8 ?_;refine' W.step rfl (.of (e4 rfl rfl rfl (aai Q g0) rfl rfl rfl fun a9=>?_));refine dN ?_;refine bj ?_;refine I V.bc ?_;refine I V.aF ?_;refine I V.bc ?_;refine I V.aF ?_;refine jw (eX Q g0) fun wD=>?_;refine' W.step rfl (Exec.call rfl rfl rfl rfl rfl rfl rfl (bh:=[oE a5 _,(wD,_)]) (bW:=[_,_]) (fM 2 rfl (fM 0 rfl (fM 0 rfl (fM 0 rfl .nil)))) trivial (CY (aY:=[(wD,_)]) (l:=[y.1,y.2]) (jJ.own (.head _)) (by simp)) ?_);rintro v m' ag hle ⟨rfl,rfl⟩;refine bj ?_;refine I V.bx ?_;refine I V.ah ?_;refine a8 ?_;refine cA ⟨j+1,_⟩ ?_ (hm:=.cons_cons _ (.cons _ (.cons_cons _ .slnil)));exact⟨by omega,by rw[Uy ai,<-gH,Dj _ _ (P1 _)];rfl⟩
     ·refine aj ?_;refine ab.exit ?_;refine rg ?_;refine I V.aF ?_;refine aM ?_;refine ns ?_;refine ab.ret ?_;refine c' ?_;first
       |(refine⟨?_,rfl,ck⟩
         unfold Dk;rw[ap p2];rfl)
       |(refine⟨?_,rfl,ck⟩
         unfold Dk;rw[aE (gP.1 p2),gP.1 p2];unfold p5 Ip;rw[show j=g.is.length by omega,qV];rfl)
end
theorem Acc.uJ{e:TypeId}{sz k ft:Nat}{v:Value}{cells cells':List Value}{aY:aO}(h:Acc e sz v k cells aY)(aU:k=ft)(aH:cells=cells'):Acc e sz v ft cells' aY:=by subst aU;subst aH;exact h
theorem Acc.addr{e:TypeId}{sz k n c:Nat}{b:Option Addr}{cells:List Value}{aY:aO}(h:Acc e sz (.slice b n c) k cells aY):addrEq b b=true:=by
 cases h<;>simp[addrEq]
section
variable {Q:dI Tryz.prog}{g0:Nat}{J:aI}
end
theorem MJ{P:Int->Bool}{l:List Int}{i:Nat}{x:Int}(U:l[((i:Nat):Int).toNat]?=some x)(h:(l.take i).any P=false)(aw:P x=false):(l.take (i+1)).any P=false:=by
 rw[cy] at U;rw[nS,U,List.any_append,h];simp[aw]
theorem JG{P:Int->Bool}{l:List Int}{i:Nat}{x:Int}(U:l[((i:Nat):Int).toNat]?=some x)(aw:P x=true):l.any P=true:=by
 rw[Jl];exact⟨x,cd U,aw⟩
section
variable {Q:dI Tryz.prog}{g0:Nat}{J:aI}
def hG(cm ao:Int)(n:Int):Bool:=decide (n<cm)||decide (ao<n)
theorem ajP{gk:aO}{b:Option Addr}{c:Nat}{l:List Int}{y4:FuncId}{cap:Array Value}{P:Int->Bool}(av:jJ gk J b l)(aP:l.length<=1000000)
 (aw:∀x,Fn (bb Q g0) y4 (.int .i64 x::cap.toList) gk J (fun u m' ag=>u=.bool (P x)/\m'=gk/\J=ag)):
 Fn (bb Q g0) 108 [.slice b l.length c,.func (.func y4) #[] cap] gk J (fun u m' ag=>∃k,u=.int .i64 k/\(0<=k↔l.any P=true)/\m'=gk/\J=ag):=by
 refine Fn.cH (cQ Tryz.func108) rfl rfl fun H=>?_;refine rg ?_;refine I V.aA ?_;refine bj ?_;refine aM ?_;refine ns ?_;refine ab.block ?_;refine' ab.c2 (l':=[(8,.int .i64 ((0):Int)),(0,_),(1,_),(7,_)]) ⟨?jq,rfl,rfl,rfl,trivial⟩ (bA _) ?_;case jq=>exact bS
 refine aj ?_;refine' ab.dF (fun(i:Nat)=>⟨[(8,.int .i64 (i:Int))],gk,J,i<=l.length/\(l.take i).any P=false,l.length -i⟩) (0) ?af ?bE;case af=>exact⟨cB _,rfl⟩
 case bE=>
  rintro i hinv;try simp only at hinv
  obtain⟨ao,rf⟩:=hinv;refine rg ?_;refine I V.a1 ?_;refine ns ?_;refine If (fun dR=>?_) fun dR=>?_
  ·obtain⟨a,off,cells,rfl,k9,ec⟩:=av (by omega);obtain⟨x,U,e0⟩:=ec i (by omega) (by omega);refine c5 ?_;refine aj ?_;refine ab.block ?_;refine rg ?_;refine aM ?_;refine bj ?_;refine aM ?_;refine I V.aX ?_;refine' W.step rfl (Exec.val rfl rfl (gY rfl rfl ?ay (hp (eV rfl) ?az)) ?_);case ay=>exact k9
   case az=>first|rfl|assumption
   refine' W.step rfl (Exec.call rfl rfl rfl rfl rfl rfl rfl (bh:=gk) (bW:=[]) (by simp) trivial (aw x) ?_);rintro v m' ag hle ⟨rfl,rfl,rfl⟩;rw[gg];refine ns ?_;refine If (fun kL=>?_) fun kL=>?_
   ·refine rg ?_;refine aM ?_;refine ns ?_;refine ab.ret ?_;refine'⟨.inr rfl,rfl,_,_,.tmp rfl .nil,bA _,?_⟩;first
      |exact⟨_,rfl,⟨fun _=>JG U (by simpa using kL),fun _=>by omega⟩,rfl,rfl⟩
      |(refine⟨_,rfl,⟨fun q=>absurd q (by decide),fun q=>?_⟩,rfl,rfl⟩
        rw[et (by omega)] at rf;rw[rf] at q;cases q)
   ·refine aj ?_;refine ab.skip ?_;refine rg ?_;refine I V.bx ?_;refine I V.ah ?_;refine a8 ?_;refine cA (i+1) ?_;exact⟨by omega,MJ U rf (by simpa using kL)⟩
  ·refine aj ?_;refine ab.exit ?_;refine rg ?_;refine I V.aA ?_;refine ns ?_;refine ab.ret ?_;refine'⟨.inr rfl,rfl,_,_,.tmp rfl .nil,bA _,?_⟩;first
    |exact⟨_,rfl,⟨fun _=>JG U (by simpa using kL),fun _=>by omega⟩,rfl,rfl⟩
    |(refine⟨_,rfl,⟨fun q=>absurd q (by decide),fun q=>?_⟩,rfl,rfl⟩
      rw[et (by omega)] at rf;rw[rf] at q;cases q)
theorem acI{gk:aO}{b:Option Addr}{c:Nat}{l:List Int}{y4:FuncId}{cap:Array Value}{P:Int->Bool}(av:jJ gk J b l)(aP:l.length<=1000000)
 (aw:∀x,Fn (bb Q g0) y4 (.int .i64 x::cap.toList) gk J (fun u m' ag=>u=.bool (P x)/\m'=gk/\J=ag)):
 Fn (bb Q g0) 95 [.slice b l.length c,.func (.func y4) #[] cap] gk J (fun u m' ag=>u=.bool (l.any P)/\m'=gk/\J=ag):=by
 refine Fn.cH (cQ Tryz.func95) rfl rfl fun H=>?_;refine rg ?_;refine I V.aA ?_;refine bj ?_;refine aM ?_;refine' W.step rfl (Exec.call rfl rfl rfl rfl rfl rfl rfl (bh:=gk) (bW:=[]) (by simp) trivial (ajP av aP aw) ?_);rintro v m' ag hle ⟨k,rfl,aU,rfl,rfl⟩;rw[gg];refine I V.a1 ?_;refine I V.aA ?_;refine ns ?_;refine ab.ret ?_;refine'⟨.inr rfl,rfl,_,_,.tmp rfl .nil,bA _,?_⟩;refine⟨cC Value.bool ?_,rfl,rfl⟩;rw[o8,lS];exact aU
theorem apn{a3 a4:Nat}{cm ao x:Int}{aY:aO}:Fn (bb Q g0) 96 [.int .i64 x,.pointer (some ⟨a3,0,none⟩),.pointer (some ⟨a4,0,none⟩)] ((a4,.row [.int .i64 ao] 3)::(a3,.row [.int .i64 cm] 3)::aY) J (fun u m' ag=>u=.bool (hG cm ao x)/\m'=((a4,.row [.int .i64 ao] 3)::(a3,.row [.int .i64 cm] 3)::aY)/\J=ag):=by
 refine Fn.cH (cQ Tryz.func96) rfl rfl fun H=>?_;refine rg ?_;refine I V.aA ?_;refine bj ?_;refine I V.ah ?_;refine I V.aF ?_;refine I V.a1 ?_;refine I V.ah ?_;refine dq 8 (fun n2=>?_) fun n2=>?_
 ·refine al ?_;refine al ?_;refine al ?_;refine I V.aV ?_;refine I V.aA ?_;refine ns ?_;refine ab.ret ?_;refine'⟨.inr rfl,rfl,_,_,.tmp rfl .nil,bA _,?_⟩;refine⟨cC Value.bool ?_,rfl,rfl⟩;rw[show hG cm ao x=(decide (x<cm)||decide (ao<x)) from rfl];first|(rw[yV n2];rfl)|(rw[Gi n2];rfl)
 ·refine aW V.ah ?_;refine aW V.aF ?_;refine aW V.a1 ?_;refine I V.aV ?_;refine I V.aA ?_;refine ns ?_;refine ab.ret ?_;refine'⟨.inr rfl,rfl,_,_,.tmp rfl .nil,bA _,?_⟩;refine⟨cC Value.bool ?_,rfl,rfl⟩;rw[show hG cm ao x=(decide (x<cm)||decide (ao<x)) from rfl];first|(rw[yV n2];rfl)|(rw[Gi n2];rfl)
theorem I9{b:Option Addr}{c:Nat}{l:List Int}{cm ao:Int}{aY:aO}(av:jJ aY J b l)(aP:l.length<=1000000):Fn (bb Q g0) 82 [.int .i64 cm,.int .i64 ao,.slice b l.length c] aY J (fun u m' ag=>u=.int .i64 (if l.any (hG cm ao)=true then 2 else 0)/\m'=[]/\J=ag):=by
 refine Fn.cH (cQ Tryz.func82) rfl rfl fun H=>?_;refine rg ?_;refine dJ fun a3=>?_;refine dJ fun a4=>?_;refine I V.aA ?_;refine bj ?_;refine aM ?_;refine' W.step rfl (Exec.call rfl rfl rfl rfl rfl rfl rfl (bh:=(a4,.row [.int .i64 ao] 3)::(a3,.row [.int .i64 cm] 3)::aY) (bW:=[]) (by rw[gg];exact .refl _) trivial (acI (P:=hG cm ao) (fun h=>by obtain⟨a,off,cells,aa,ae,aG⟩:=av h;exact⟨a,off,cells,aa,ae.cons.cons,aG⟩) aP (fun x=>apn)) ?_);rintro v m' ag hle ⟨rfl,rfl,rfl⟩;rw[gg];refine ns ?_;refine If (fun dR=>?_) fun dR=>?_
 ·refine rg ?_;refine I V.aA ?_;refine ns ?_;refine ab.ret ?_;refine c' ?_;first
   |exact⟨by rw[aE dR];rfl,rfl,rfl⟩
   |exact⟨by rw[ap (by simp[dR])];rfl,rfl,rfl⟩
 ·refine aj ?_;refine ab.skip ?_;refine rg ?_;refine I V.aA ?_;refine ns ?_;refine ab.ret ?_;refine c' ?_;first
   |exact⟨by rw[aE dR];rfl,rfl,rfl⟩
   |exact⟨by rw[ap (by simp[dR])];rfl,rfl,rfl⟩
end
end
end Go.Opn
