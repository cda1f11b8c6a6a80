/- A part of the proof of TableTurns. -/
import Derived.Test.YtlgjlbpafcifoaaGreatDoorCbe
import Derived.Test.YtlgjlbpafcifoaaGreatDoorCbf
set_option maxRecDepth 100000
set_option maxHeartbeats 8000000
set_option linter.unusedVariables false
set_option linter.unusedSimpArgs false
namespace Go.Opn
noncomputable section
open Go.Cre Go.RowKit Go.Proofs
abbrev qG(J:af)(l:List b5)(v:Value):Prop:=∃b c,v=.slice b l.length c/\dz J 47 3 (jC J) (.slice b l.length c) l
theorem qG.mono{J ae:af}(hle:J.le ae){l:List b5}{v:Value}(h:qG J l v):qG ae l v:=by
 obtain⟨b,c,ab,ad⟩:=h;exact⟨b,c,ab,dz.mono (R':=jC ae) hle (fun _ _ q=>q.mono hle) ad⟩
abbrev mZ(J:af)(b:Option Addr)(n c:Nat)(m:List (List b5)):Prop:=dz J 42 1 (dC (qG J)) (.slice b n c) m
theorem mZ.mono{J ae:af}(hle:J.le ae){b:Option Addr}{n c:Nat}{m:List (List b5)}(h:mZ J b n c m):mZ ae b n c m:=
 dz.mono (R':=dC (qG ae)) hle (fun _ _ ⟨v,aK,aH⟩=>⟨v,aK,aH.mono hle⟩) h
abbrev rK(J:af)(b:Option Addr)(n c:Nat)(m:List (List Nat)):Prop:=dz J 43 1 (dC fun l v=>cJ .i64 J v l) (.slice b n c) m
theorem rK.mono{J ae:af}(hle:J.le ae){b:Option Addr}{n c:Nat}{m:List (List Nat)}(h:rK J b n c m):rK ae b n c m:=
 dz.mono (R':=dC fun l v=>cJ .i64 ae v l) hle (fun _ _ ⟨v,aK,aH⟩=>⟨v,aK,aH.mono hle⟩) h
abbrev Eh(J:af):Value->aO->af->Prop:=fun u m' ae=>J.le ae/\m'=[]/\u=.bool true
theorem Eh.hs{J oU:af}(hle:oU.le J){bl:aO}(hm:bl=[]):bl=[]/\oU.le J/\∀v m' bi de,Eh oU v m' bi->bi.le de->J.le de->Eh J v m' de:=
 ⟨hm,hle,fun v m' bi de ⟨_,ad,aL⟩ fb fX=>⟨fX,ad,aL⟩⟩
section
variable {Q:cZ Tryz.prog}{g0:Nat}{J:af}
theorem anc{m:List (List b5)}{b:Option Addr}{c:Nat}(h:mZ J b m.length c m)(lq:m.length<=1000)(hl:∀l∈m,l.length<=1000):Fn (aT Q g0) 7 [.slice b m.length c] [] J (fun u m' ae=>J.le ae/\m'=[]/\∃b' c',u=.slice b' m.length c'/\mZ ae b' m.length c' m):=by
 have ly:addrEq b b=true:=h.addr;have db:=h.db;refine Fn.b8 (b7 Tryz.func7) rfl rfl fun H=>?_;refine aa 0x6af816702ce059 ?_;refine c8 [(4,.int .i64 ((0):Int)),(3,(.slice none 0 0)),(0,_)] ?_;refine a' ?_;refine' aB.bA (fun(bE:Nat×Value×aO×(List Value)×af)=>match bE with|(i,eO,a8,d,cb)=>⟨[(4,.int .i64 (i:Int)),(3,eO)],a8,cb,i<=m.length/\J.le cb/\eW 42 1 eO i d a8/\g4 1 (fun _=>dC (qG cb)) d (m.take i),m.length -i⟩) ⟨0,.slice none 0 0,[],[],J⟩ ?hs ?bb
 case hs=>exact⟨df _,af.le.refl _,.inl ⟨.nil,rz,rl⟩,⟨by rw[fq];rfl,fun i x U=>by rw[fq] at U;cases U⟩⟩
 case bb=>
  rintro⟨i,eO,a8,d,cb⟩ hinv;try simp only at hinv
  obtain⟨ak,bS,hE,e6⟩:=hinv;refine aa 0x5f0428439 ?_;refine If (fun fC=>?_) fun fC=>?_
  ·obtain⟨kt,off,cells,e,rfl,kS,fN⟩:=db I;obtain⟨v,ar,l,ap,bs,bp,rfl,a4⟩:=fN i I;have kS:=bS _ _ kS;have uX:=hl l (gh ap);refine aa 0x12608439d5f57 ?_;refine br (G:=anf (dz.mono (R':=jC cb) bS (fun _ _ q=>q.mono bS) a4) uX) (h:=?_);rintro v' m' bi hle ⟨aM,rfl,cB,cN,rfl,uP⟩;have bJ:addrEq cB cB=true:=uP.addr;refine lj fun ace=>?_;refine' W.step rfl (.of (ua rfl rfl rfl rfl rfl rfl (eB rfl) (RT Q g0) (fun i q=>by cases q) ?ev ?hm ?U ?dE ?dQ ?aY ?ap fun R0 Qs On=>?_));case ev=>exact hE
   case hm=>exact(vH _ a8).symm
   case U=>exact pB
   case dE=>first|rfl|(simp;done)|(simp;omega)
   case dQ=>first|rfl|exact qg _
   case aY=>exact Nat.one_pos
   case ap=>exact(show i+1<=1000000 by omega)
   refine aa 0x302 ?_;have mE:g4 1 (fun _=>dC (qG bi)) (d++[.slice cB l.length cN]) (m.take (i+1)):=by
    rw[ko,ap];exact(e6.mono fun _ _ _ ⟨v,aK,aH⟩=>⟨v,aK,aH.mono aM⟩).app ⟨_,rfl,cB,cN,rfl,uP⟩ rfl
   refine aa 0x1810c39 ?_;refine eH ⟨i+1,R0,Qs,d++[.slice cB l.length cN],bi⟩ ?_ (hm:=lf _ _);exact⟨I,bS.trans aM,On,mE⟩
  ·obtain rfl:i=m.length:=I
   rw[sO] at e6;refine aa 0x357 ?_;refine eW.mo (fH:=[]) hE (by rw[ij]) fun rE hi aj=>?_;refine aa 0x357c0839 ?_;refine bo ?_;obtain⟨gy,eI,rfl⟩:=hE.qU;exact⟨bS.trans hi,rfl,gy,eI,rfl,⟨⟨d,aj,fun i x U=>by obtain⟨v,aU,aQ⟩:=e6.2 i x U;exact⟨v,aU,aQ.mono hi⟩⟩⟩⟩
theorem ZC{m:List (List b5)}{b b':Option Addr}{c c':Nat}(h:mZ J b m.length c m)(gO:mZ J b' m.length c' m)(lq:m.length<=1000)(hl:∀l∈m,l.length<=1000):Fn (aT Q g0) 13 [.slice b m.length c,.slice b' m.length c'] [] J (Eh J):=by
 have ly:addrEq b b=true:=h.addr;have Rd:addrEq b' b'=true:=gO.addr;have db:=h.db;have Fu:=gO.db;refine Fn.b8 (b7 Tryz.func13) rfl rfl fun H=>?_;refine aa 0x5f04284a1ce059 ?_;refine If (fun b2=>?_) fun b2=>?_
 ·exfalso;exact b2 rfl
 ·refine aa 0x6af816757 ?_;refine c8 [(5,.int .i64 ((0):Int)),(0,_),(1,_)] ?_;refine a' ?_;refine' aB.ja (fun(i:Nat)=>⟨[(5,.int .i64 (i:Int))],i<=m.length,m.length -i⟩) (0) ?hs ?bb;case hs=>exact df _
  case bb=>
   rintro i hinv;try simp only at hinv
   have ak:=hinv;refine aa 0x5f0428439 ?_;refine If (fun dZ=>?_) fun dZ=>?_
   ·obtain⟨kt,off,cells,e,rfl,kS,fN⟩:=db I;obtain⟨v,ar,l,ap,bs,bp,rfl,a4⟩:=fN i I;obtain⟨acF,fI,cells',bC,rfl,ahr,FE⟩:=Fu I;obtain⟨v',p',l',dc,bM,bN,rfl,ow⟩:=FE i I;obtain rfl:l=l':=sS (ap.symm.trans dc);have uX:=hl l (gh ap);have aK:addrEq bs bs=true:=a4.addr;have aH:addrEq bM bM=true:=ow.addr;refine aa 0x17d5f57 ?_;refine aB.draw rfl (by kernel_rfl) (aX:=[.val 0,.val 1,.val 2,.val 3,.val 4,.val 5,.val 6,.val 7,.bD 8,.val 9]) (by kernel_rfl) ?_;refine aa 0x4982149821 ?_;refine dl rfl (G:=aoS uX a4 ow) (h:=?_);rintro v' m' ae hle ⟨rfl,rfl,rfl⟩;refine aa 0x5f11 ?_;refine If (fun iv=>?_) fun iv=>?_
    ·exfalso;first|(simp at iv;done)|cases iv
    ·refine aa 0x60430e757 ?_;refine jf (i+1) ?_;exact I
   ·refine aa 0x6af816757 ?_;refine bo ?_;exact⟨af.le.refl _,rfl,rfl⟩
theorem acw{m:List (List Nat)}{b b':Option Addr}{c c':Nat}(h:rK J b m.length c m)(gO:rK J b' m.length c' m)(lq:m.length<=1000)(hl:∀l∈m,l.length<=1000):Fn (aT Q g0) 35 [.slice b m.length c,.slice b' m.length c'] [] J (fun u m' ae=>m'=[]/\J=ae/\u=.bool true):=by
 have ly:addrEq b b=true:=h.addr;have Rd:addrEq b' b'=true:=gO.addr;have db:=h.db;have Fu:=gO.db;refine Fn.b8 (b7 Tryz.func35) rfl rfl fun H=>?_;refine aa 0x5f04284a1ce059 ?_;refine If (fun b2=>?_) fun b2=>?_
 ·exfalso;exact b2 rfl
 ·refine aa 0x6af816757 ?_;refine c8 [(5,.int .i64 ((0):Int)),(0,_),(1,_)] ?_;refine a' ?_;refine' aB.ja (fun(i:Nat)=>⟨[(5,.int .i64 (i:Int))],i<=m.length,m.length -i⟩) (0) ?hs ?bb;case hs=>exact df _
  case bb=>
   rintro i hinv;try simp only at hinv
   have ak:=hinv;refine aa 0x5f0428439 ?_;refine If (fun dZ=>?_) fun dZ=>?_
   ·obtain⟨kt,off,cells,e,rfl,kS,fN⟩:=db I;obtain⟨v,ar,l,ap,a4⟩:=fN i I;obtain⟨acF,fI,cells',bC,rfl,ahr,FE⟩:=Fu I;obtain⟨v',p',l',dc,ow⟩:=FE i I;obtain rfl:l=l':=sS (ap.symm.trans dc);have uX:=hl l (gh ap);have yk:=a4;have U7:=ow;obtain⟨bs,bp,rfl⟩:=a4.form;obtain⟨bM,bN,rfl⟩:=ow.form;have aK:addrEq bs bs=true:=yk.addr;have aH:addrEq bM bM=true:=U7.addr;refine aa 0x17d5f57 ?_;refine aB.draw rfl (by kernel_rfl) (aX:=[.val 0,.val 1,.val 2,.val 3,.val 4,.val 5,.val 6,.val 7,.bD 8,.val 9]) (by kernel_rfl) ?_;refine aa 0x4982149821 ?_;refine dl rfl (G:=acv uX yk U7) (h:=?_);rintro v' m' ae hle ⟨rfl,rfl,rfl⟩;refine aa 0x5f11 ?_;refine If (fun iv=>?_) fun iv=>?_
    ·exfalso;first|(simp at iv;done)|cases iv
    ·refine aa 0x60430e757 ?_;refine jf (i+1) ?_;exact I
   ·refine aa 0x6af816757 ?_;refine bo ?_;exact⟨rfl,rfl,rfl⟩
theorem aoR{m:List (List Nat)}{bits:Int}{b b':Option Addr}{c c':Nat}(h:rK J b m.length c m)(gO:rK J b' m.length c' m)(lq:m.length<=1000)(hl:∀l∈m,l.length<=1000):Fn (aT Q g0) 12 [.agg #[.int .i64 bits,.slice b m.length c],.agg #[.int .i64 bits,.slice b' m.length c']] [] J (fun u m' ae=>m'=[]/\J=ae/\u=.bool true):=by
 have aK:addrEq b b=true:=h.addr;have aH:addrEq b' b'=true:=gO.addr;refine Fn.b8 (b7 Tryz.func12) rfl rfl fun H=>?_;refine rg ?_;refine gZ fun bc=>?_;refine gZ fun cu=>?_;refine aa 0x1229aa6e702 ?_;refine fs 10 (fun Jg=>?_) fun Jg=>?_
 ·refine aa 0x5354d ?_;refine vV (G:=acw h gO lq hl) (h:=?_);rintro v' m' ae hle ⟨rfl,rfl,rfl⟩;refine aa 0x1abe048 ?_;refine bo ?_;exact⟨rfl,rfl,rfl⟩
 ·exfalso;exact Jg rfl
end
abbrev DV(J:af)(l:List b5)(v:Value):Prop:=∃b c,v=.slice b l.length c/\dz J 47 3 (Bx J) (.slice b l.length c) l
def HN(m:List (List b5)):Prop:=(∃l∈m.take 210,Gw l)\/(20<m.length/\m.length<=200)\/205<m.length
def Ey(m:List (List Int)):Prop:=(∃l∈m.take 210,20<l.length)\/205<m.length
theorem Yd{α:Type}{P:α->Prop}{l:List α}{i:Nat}{x:α}(h:∀y∈l.take i,¬P y)(U:l[i]?=some x)(aN:¬P x):∀y∈l.take (i+1),¬P y:=by
 rw[ko,U];intro y au;rcases nB.1 au with q|q
 ·exact h y q
 ·cases q with
  |head=>exact aN
  |tail _ q=>cases q
theorem Kr{α:Type}{l:List α}{i n:Nat}{x:α}(U:l[i]?=some x)(ak:i<n):x∈l.take n:=by
 refine gh (i:=i) ?_;rw[iH,a2 ak];exact U
theorem KF{α:Type}{P:α->Prop}{l:List α}{i:Nat}(h:∀y∈l.take i,¬P y)(ak:¬(i<l.length/\i<210)):¬∃y∈l.take 210,P y:=fun⟨y,ab,ad⟩=>by
 rcases hL i 210 with q|q
 ·rw[cM (show l.length<=i by omega)] at h
  exact h y (vG ab) ad
 ·exact h y ((List.take_sublist_take_left q).mem ab) ad
open Classical in
theorem arl{m:List (List b5)}(h:¬HN m):m.length<=205/\∀l∈m,¬Gw l:=by
 have ab:m.length<=205:=by
  refine Me.1 fun q=>h (.inr (.inr q))
 refine⟨ab,fun l ap q=>h (.inl ⟨l,?_,q⟩)⟩;rw[cM I];exact ap
theorem acQ{m:List (List Int)}(h:¬Ey m):m.length<=205/\∀l∈m,l.length<=20:=by
 have ab:m.length<=205:=Me.1 fun q=>h (.inr q);refine⟨ab,fun l ap=>Me.1 fun q=>h (.inl ⟨l,?_,q⟩)⟩;rw[cM I];exact ap
section
variable {Q:cZ Tryz.prog}{g0:Nat}{J:af}
open Classical in
theorem arm{m:List (List b5)}{b:Option Addr}{c:Nat}(h:dz J 42 1 (dC (DV J)) (.slice b m.length c) m)(lq:m.length<=9223372036854775807)(hl:∀l∈m,l.length<=9223372036854775807):Fn (aT Q g0) 4 [.slice b m.length c] [] J (fun u m' ae=>m'=[]/\J=ae/\u=.bool (decide (HN m))):=by
 have ly:addrEq b b=true:=h.addr;have db:=h.db;refine Fn.b8 (b7 Tryz.func4) rfl rfl fun H=>?_;refine aa 0xd5f02ce059 ?_;refine c8 [(3,.int .i64 ((0):Int)),(0,_)] ?_;refine a' ?_;refine' aB.ja (fun(i:Nat)=>⟨[(3,.int .i64 (i:Int))],i<=m.length/\i<=210/\∀y∈m.take i,¬Gw y,m.length -i⟩) (0) ?hs ?bb;case hs=>exact⟨df _,by decide,fun y au=>by cases au⟩
 case bb=>
  rintro i hinv;try simp only at hinv
  obtain⟨ak,ys,gr⟩:=hinv;refine dN [0,3] ?_;refine a' ?_;refine' aB.fD 0 [(11,.bool (decide ((i<m.length/\i<210))))] ?nN ?nO;case nN=>
   refine aa 0x242843a ?_;refine fs 8 (fun NU=>?_) fun NU=>?_
   ·refine aa 0xc2081 ?_;refine dO (dS ?_);omega
   ·refine aa 0xc237b ?_;refine dO (dS ?_);omega
  case nO=>
   refine a' ?_;refine If (fun pV=>?_) fun pV=>?_
   ·obtain⟨kt,off,cells,e,rfl,kS,fN⟩:=db I;obtain⟨v,ar,l,ap,bs,bp,rfl,a4⟩:=fN i I;have uX:=hl l (gh ap);refine aa 0x930439d5f57 ?_;refine br (G:=alg a4 uX) (h:=?_);rintro v' m' ae hle ⟨rfl,rfl,rfl⟩;refine sn ?_;refine If (fun hW=>?_) fun hW=>?_
    ·refine aa 0x1abe059 ?_;refine bo ?_;first
       |exact⟨rfl,rfl,by rw[g7 (show HN m from .inl ⟨l,Kr ap pV.2,hW⟩)];rfl⟩
       |exact⟨rfl,rfl,b6 Value.bool (lJ.2 ⟨.inr,fun q=>q.resolve_left (KF gr pV)⟩)⟩
    ·refine aa 0x60430e757 ?_;refine jf (i+1) ?_;exact⟨I,I,Yd gr ap hW⟩
   ·refine aa 0x357 ?_;refine dN [0] ?_;refine a' ?_;refine' aB.fD 1 [(2,.bool (decide (((20<m.length/\m.length<=200)\/205<m.length))))] ?M9 ?No;case M9=>
     refine aa 0x12143a ?_;refine fs 22 (fun ag0=>?_) fun ag0=>?_
     ·refine aa 0x1410a1 ?_;refine fs 27 (fun ag1=>?_) fun ag1=>?_
      ·refine aa 0x30246f7b ?_;refine dO (dS ?_);omega
      ·refine aa 0x302410a1 ?_;refine dO (dS ?_);omega
     ·refine aa 0x60482142146f7b ?_;refine dO (dS ?_);omega
    case No=>
     refine aa 0x357 ?_;refine bo ?_;first
       |exact⟨rfl,rfl,by rw[g7 (show HN m from .inl ⟨l,Kr ap pV.2,hW⟩)];rfl⟩
       |exact⟨rfl,rfl,b6 Value.bool (lJ.2 ⟨.inr,fun q=>q.resolve_left (KF gr pV)⟩)⟩
open Classical in
theorem acR{m:List (List Int)}{bits:Int}{b:Option Addr}{c:Nat}(h:dz J 43 1 (dC (pL J)) (.slice b m.length c) m)(lq:m.length<=9223372036854775807)(hl:∀l∈m,l.length<=9223372036854775807):Fn (aT Q g0) 5 [.agg #[.int .i64 bits,.slice b m.length c]] [] J (fun u m' ae=>m'=[]/\J=ae/\u=.bool (decide (Ey m))):=by
 have ly:addrEq b b=true:=h.addr;have db:=h.db;refine Fn.b8 (b7 Tryz.func5) rfl rfl fun H=>?_;refine rg ?_;refine gZ fun a7=>?_;refine aa 0x6af816702 ?_;refine c8 [(3,.int .i64 ((0):Int)),(1,_)] ?_;refine a' ?_;refine' aB.ja (fun(i:Nat)=>⟨[(3,.int .i64 (i:Int))],i<=m.length/\i<=210/\∀y∈m.take i,¬20<y.length,m.length -i⟩) (0) ?hs ?bb;case hs=>exact⟨df _,by decide,fun y au=>by cases au⟩
 case bb=>
  rintro i hinv;try simp only at hinv
  obtain⟨ak,ys,gr⟩:=hinv;refine dN [1,3] ?_;refine a' ?_;refine' aB.fD 0 [(12,.bool (decide ((i<m.length/\i<210))))] ?nN ?nO;case nN=>
   refine aa 0x4854b43a ?_;refine fs 9 (fun agS=>?_) fun agS=>?_
   ·refine aa 0xc2081 ?_;refine dO (dS ?_);omega
   ·refine aa 0xc237b ?_;refine dO (dS ?_);omega
  case nO=>
   refine a' ?_;refine If (fun j9=>?_) fun j9=>?_
   ·obtain⟨kt,off,cells,e,rfl,kS,fN⟩:=db I;obtain⟨v,ar,l,ap,a4⟩:=fN i I;have a4:mY J v l:=a4;obtain⟨bs,bp,rfl,yl,Jm⟩:=a4.inv;have uX:=hl l (gh ap);refine aa 0x2f8215260a5b9d5f57 ?_;refine If (fun j'=>?_) fun j'=>?_
    ·refine aa 0x1abe059 ?_;refine bo ?_;first
       |exact⟨rfl,rfl,by rw[g7 (show Ey m from .inl ⟨l,Kr ap j9.2,I⟩)];rfl⟩
       |exact⟨rfl,rfl,b6 Value.bool (lJ.2 ⟨.inr,fun q=>q.resolve_left (KF gr j9)⟩)⟩
    ·refine aa 0x60430e757 ?_;refine jf (i+1) ?_;exact⟨I,I,Yd gr ap I⟩
   ·refine aa 0x357 ?_;refine dN [1] ?_;refine a' ?_;refine' aB.fD 1 [(2,.bool (decide ((205<m.length))))] ?M9 ?No;case M9=>
     refine aa 0x60442a5ba ?_;refine dO (dS ?_);omega
    case No=>
     refine aa 0x357 ?_;refine bo ?_;first
       |exact⟨rfl,rfl,by rw[g7 (show Ey m from .inl ⟨l,Kr ap j9.2,I⟩)];rfl⟩
       |exact⟨rfl,rfl,b6 Value.bool (lJ.2 ⟨.inr,fun q=>q.resolve_left (KF gr j9)⟩)⟩
end
def su (s M:Nat):b5:=⟨false,ag (bn (s:Int) M).z.natAbs,ag (bn (s:Int) M).d⟩
def mQ (M:Nat)(t:List Int):List b5:=t.map fun s=>su s.toNat M
theorem xq{M:Nat}{t:List Int}:(mQ M t).length=t.length:=eP ..
theorem Zi{M j:Nat}{t:List Int}{x:Int}(h:t[j]?=some x):mQ M (t.take (j+1))=mQ M (t.take j)++[su x.toNat M]:=by
 unfold mQ;rw[ko,h,xR];rfl
theorem Zy{J:af}{s M:Nat}{v1 v2:Value}(h:kI J (bn (s:Int) M) v1 v2)(iw:0<M)(q1:M<=1073741824)(hs:s<=M):eC (bn (s:Int) M) v1 v2=A5 (su s M) v1 v2/\o0 J (su s M) v1 v2:=by
 have aG:¬(bn (s:Int) M).z<0:=by
  unfold bn;simp only
  have:=Int.ediv_nonneg (nz s) (nz (Nat.gcd (s:Int).natAbs M));omega
 have ap:(ag ((s:Nat):Int).natAbs).length<=4:=by rw[hK];exact kZ (k:=4) (nC (show s<=1073741824 by omega) bm)
 have al:(ag M).length<=4:=kZ (k:=4) (nC q1 bm);obtain⟨ab,ad⟩:=GC iw ap al;refine⟨?_,⟨h.n,h.d,ab,ad⟩⟩;show Value.agg #[.bool (decide ((bn (s:Int) M).z<0)),v1,v2]=_;rw[gL aG];rfl
theorem RM{bits:Int}{ts:List (List Int)}(h:nv bits ts=0):¬(bits<1\/30<bits)/\ts.length<=200/\∀t∈ts,ns (2 ^ bits.toNat) t=0:=by
 unfold nv at h;split at h
 ·cases h
 ·split at h
  ·cases h
  ·exact⟨I,I,UJ h⟩
def xo (bits:Int)(ts:List (List Int)):List (List b5):=if nv bits ts=0 then ts.map (mQ (2 ^ bits.toNat)) else[]
theorem Kv{J:af}:mZ J none 0 0 []:=⟨⟨[],.nil,fun i x h=>by cases h⟩⟩
abbrev Tn(J:af)(e:Int)(m:List (List b5)):Value->aO->af->Prop:=fun u m' ae=>J.le ae/\m'=[]/\∃b' c',u=.tuple #[.slice b' m.length c',.int .i64 e]/\mZ ae b' m.length c' m
section
variable {Q:cZ Tryz.prog}{g0:Nat}{J:af}
theorem aos{ts:List (List Int)}{k M:Nat}{b:Option Addr}{c:Nat}(h:dz J 43 1 (dC (pL J)) (.slice b ts.length c) ts)(iX:ts.length<=1000)(iw:IntKind.i64.wrap (1*2 ^ ((k:Nat):Int).toNat)=(M:Int))(q1:M<=1073741824)(q0:0<M)(hk:k<=30)(bu:∀t∈ts,ns M t=0):
 Fn (aT Q g0) 34 [.agg #[.int .i64 (k:Int),.slice b ts.length c]] [] J (fun u m' ae=>J.le ae/\m'=[]/\∃b' c',u=.slice b' ts.length c'/\mZ ae b' ts.length c' (ts.map (mQ M))):=by
 have aH:addrEq b b=true:=h.addr;have db:=h.db;refine Fn.b8 (b7 Tryz.func34) rfl rfl fun H=>?_;refine rg ?_;refine gZ fun a7=>?_;refine aa 0x357c0b3816702 ?_;refine c8 [(4,.int .i64 ((0):Int)),(3,(.slice none 0 0)),(1,_)] ?_;refine a' ?_;refine' aB.bA (fun(bE:Nat×Value×aO×(List Value)×af)=>match bE with|(i,eO,a8,d,cb)=>⟨[(4,.int .i64 (i:Int)),(3,eO)],a8++[(a7,.row [.int .i64 (k:Int),.slice b ts.length c] 26)],cb,i<=ts.length/\J.le cb/\eW 42 1 eO i d a8/\g4 1 (fun _=>dC (qG cb)) d ((ts.take i).map (mQ M)),ts.length -i⟩) ⟨0,.slice none 0 0,[],[],J⟩ ?hs ?bb
 case hs=>exact⟨df _,af.le.refl _,.inl ⟨.nil,rz,rl⟩,⟨rfl,fun i x U=>by cases U⟩⟩
 case bb=>
  rintro⟨i,eO,a8,d,cb⟩ hinv;try simp only at hinv
  obtain⟨ak,bS,hE,e6⟩:=hinv;refine aa 0xbe0854b439 ?_;refine If (fun pV=>?_) fun pV=>?_
  ·obtain⟨kt,off,cells,e,rfl,kS,fN⟩:=db I;obtain⟨v,ar,t,aJ,a4⟩:=fN i I;have a4:mY J v t:=a4;obtain⟨bs,bp,rfl,yl,Jm⟩:=a4.inv;have aK:addrEq bs bs=true:=a4.addr;have kS:=bS _ _ kS;obtain⟨jJ,mH,hn,Pz⟩:=Rm (bu t (gh aJ));obtain⟨x1,Q5,M',Nu,rfl,wm,Ae⟩:=a4.DC I;have wm:=bS _ _ wm;refine aa 0xd5f02ce059d5f57 ?_;refine c8 [(6,.int .i64 ((0):Int)),(5,(.slice none 0 0)),(1,_),(3,_),(4,_)] ?_;refine a' ?_;refine' aB.bA (fun(bE:Nat×Value×aO×(List Value)×af)=>match bE with|(j,lD,yH,d5,gY)=>⟨[(6,.int .i64 (j:Int)),(5,lD)],yH++(a8++[(a7,.row [.int .i64 (k:Int),.slice (some ⟨kt,off,none⟩) ts.length c] 26)]),gY,j<=t.length/\cb.le gY/\eW 47 3 lD j d5 yH/\g4 3 (fun _=>jC gY) d5 (mQ M (t.take j)),t.length -j⟩) ⟨0,.slice none 0 0,[],[],cb⟩ ?hs ?bb
   case hs=>exact⟨df _,af.le.refl _,.inl ⟨.nil,rz,rl⟩,⟨rfl,fun i x U=>by cases U⟩⟩
   case bb=>
    rintro⟨j,lD,yH,d5,gY⟩ hinv;try simp only at hinv
    obtain⟨aY,mb,wA,wE⟩:=hinv;have asY:=mb _ _ kS;have ahs:=mb _ _ wm;refine aa 0x5f042a4c14b439 ?_;refine If (fun j'=>?_) fun j'=>?_
    ·obtain⟨fw,gz,rfl,fP⟩:=wA.tc;obtain⟨x,U,nh⟩:=Ae j I;obtain⟨di,pk⟩:=hn x (gh U);obtain⟨s,rfl⟩:∃s:Nat,x=(s:Int):=⟨x.toNat,I⟩;refine aa 0x17d5f57 ?_;refine aB.draw rfl (by kernel_rfl) (aX:=[.val 0,.val 1,.val 2,.val 3,.val 4,.val 5,.val 6,.val 7,.val 8,.val 9,.val 10,.val 11,.bD 12,.ir 13,.ca [0],.bD 14,.bD 15]) (by kernel_rfl) ?_;refine aa 0xa25a9305260a5a1 ?_;rw[iw];refine dl rfl (G:=aoa (n:=s) (d:=M) I I q0) (h:=?_);rintro v' m' bi hle ⟨aM,rfl,v1,v2,rfl,b3⟩;obtain⟨OK,z4⟩:=Zy b3 q0 q1 I;rw[OK];have Oe:=z4;obtain⟨fi,eu,rfl⟩:=z4.n.form;obtain⟨jV,fB,rfl⟩:=z4.d.form;refine cm.buildSlice rfl rfl rfl rfl rfl rfl (eB rfl) rfl rfl rfl fun ar8=>?_;refine cm.ca ft ?_;refine' cm.pW rfl rfl (ua rfl rfl rfl rfl rfl rfl (eB rfl) (aav Q g0) (fun i q=>by cases q) ?ev ?hm ?U ?dE ?dQ ?aY ?ap fun arb alB ahZ=>?_);case ev=>exact wA
     case hm=>exact(BK (l₁:=yH)).symm
     case U=>exact pB
     case dE=>first|rfl|(simp;done)|(simp;omega)
     case dQ=>first|rfl|exact qg _
     case aY=>exact Nat.one_pos
     case ap=>exact(show j+1<=1000000 by omega)
     refine aa 0x302 ?_;have OE:g4 3 (fun _=>jC bi) (d5++[.bool false,.slice fi (su s M).num.length eu,.slice jV (su s M).den.length fB]) (mQ M (t.take (j+1))):=by
        rw[Zi U,h9];exact(wE.mono fun _ _ _ q=>q.mono aM).app ⟨_,_,rfl,Oe⟩ rfl
     refine aa 0x1810c39 ?_;refine eH ⟨j+1,arb,alB,d5++[.bool false,.slice fi (su s M).num.length eu,.slice jV (su s M).den.length fB],bi⟩ ?_ (hm:=Ia (.cons _ (.refl _)) _);exact⟨I,mb.trans aM,ahZ,OE⟩
    ·obtain rfl:j=t.length:=I
     rw[sO] at wE;obtain⟨gy,eI,rfl⟩:=wA.qU;refine aa 0x357 ?_;refine eW.mo (fH:=a8++[_]) wA (.refl _) fun rE hi aj=>?_;have kV:qG rE (mQ M t) (.slice gy t.length eI):=⟨gy,eI,by rw[xq],by rw[xq];exact⟨⟨d5,by rw[xq];exact aj,fun i x U=>(wE.2 i x U).mono hi⟩⟩⟩;have mE:g4 1 (fun _=>dC (qG rE)) (d++[.slice gy t.length eI]) ((ts.take (i+1)).map (mQ M)):=by
        rw[ko,aJ,xR];exact(e6.mono fun _ _ _ ⟨v,aK,aH⟩=>⟨v,aK,aH.mono (mb.trans hi)⟩).app ⟨_,rfl,kV⟩ rfl
     refine aa 0x439 ?_;refine lj fun ar'=>?_;refine' W.step rfl (.of (ua rfl rfl rfl rfl rfl rfl (eB rfl) (RT Q g0) (fun i q=>by cases q) ?ev ?hm ?U ?dE ?dQ ?aY ?ap fun arc alC ah1=>?_));case ev=>exact hE
     case hm=>exact(BK (l₁:=a8)).symm
     case U=>exact pB
     case dE=>first|rfl|(simp;done)|(simp;omega)
     case dQ=>first|rfl|exact qg _
     case aY=>exact Nat.one_pos
     case ap=>exact(show i+1<=1000000 by omega)
     refine aa 0x60430e702 ?_;refine eH ⟨i+1,arc,alC,d++[.slice gy t.length eI],rE⟩ ?_ (hm:=Ia (.cons _ (.refl _)) _);exact⟨I,(bS.trans mb).trans hi,ah1,mE⟩
  ·obtain rfl:i=ts.length:=I
   rw[sO] at e6;refine aa 0x357 ?_;refine eW.mo (fH:=[_]) hE (.refl _) fun vD g9 aj=>?_;refine aa 0x357c0839 ?_;refine bo ?_;obtain⟨jm,fC,rfl⟩:=hE.qU;exact⟨bS.trans g9,rfl,jm,fC,rfl,⟨⟨d,by rw[eP];exact aj,fun i x U=>by obtain⟨v,aU,aQ⟩:=e6.2 i x U;exact⟨v,aU,aQ.mono g9⟩⟩⟩⟩
theorem aoq{ts:List (List Int)}{bits:Int}{b:Option Addr}{c:Nat}(h:dz J 43 1 (dC (pL J)) (.slice b ts.length c) ts)(iX:ts.length<9223372036854775807)(hl:∀l∈ts,l.length<9223372036854775807):
 Fn (aT Q g0) 11 [.agg #[.int .i64 bits,.slice b ts.length c]] [] J (Tn J (nv bits ts) (xo bits ts)):=by
 have aH:addrEq b b=true:=h.addr;refine Fn.b8 (b7 Tryz.func11) rfl rfl fun H=>?_;refine rg ?_;refine gZ fun a7=>?_;refine aa 0xcce042 ?_;refine br (G:=aaf h iX hl) (h:=?_);rintro v' m' ae hle ⟨rfl,rfl,rfl⟩;refine aa 0x5f040e702 ?_;refine If (fun fC=>?_) fun fC=>?_
 ·have cx:xo bits ts=[]:=aZ fC;refine aa 0x6af810839 ?_;refine bo ?_;first
   |(have c:=fC;exact⟨af.le.refl _,rfl,none,0,by rw[cx];rfl,by rw[cx];exact Kv⟩)
   |exact⟨aM,rfl,cB,cN,by rw[cx,aN,eP];rfl,by rw[cx,eP];exact dr⟩
 ·have aN:nv bits ts=0:=iF fun q=>fC q;obtain⟨dI,dB,ub⟩:=RM aN;have cx:xo bits ts=ts.map (mQ (2 ^ bits.toNat)):=a2 aN;obtain⟨k,M,hk,CH,wo,iw,q1,q0⟩:=bits_nat dI;subst hk;rw[h9,<-wo] at cx ub;refine aa 0x66757 ?_;refine br (G:=aos h I iw q1 q0 CH ub) (h:=?_);rintro v' m' bi hle ⟨aM,rfl,cB,cN,rfl,dr⟩;have bJ:addrEq cB cB=true:=dr.addr;refine aa 0x1abe042 ?_;refine bo ?_;first
   |(have c:=fC;exact⟨af.le.refl _,rfl,none,0,by rw[cx];rfl,by rw[cx];exact Kv⟩)
   |exact⟨aM,rfl,cB,cN,by rw[cx,aN,eP];rfl,by rw[cx,eP];exact dr⟩
end
theorem YD{α:Type}{l a b x y z:α}{a8:List α}:(l::b::(a8++[x,y,z,a])).Perm (a8++[a,l,b,x,y,z]):=by
 have ab:(a8++[a,l,b,x,y,z]).Perm ([l,b,x,y,z,a]++a8):=(oh).trans (LY a8 (oh (l₁:=[a]) (l₂:=[l,b,x,y,z])));have ad:([l,b]++(a8++[x,y,z,a])).Perm ([l,b]++([x,y,z,a]++a8)):=LX _ oh;exact ad.trans ab.symm
section
variable {Q:cZ Tryz.prog}{g0:Nat}{J:af}
theorem aor{ts:List (List Int)}{bits:Int}{b:Option Addr}{c:Nat}{aR:TypeId}(b1:J 2=some (bW .u8 ms,aR))(ax:Nat.blt 2 (aT Q g0).g0=true)(h:dz J 43 1 (dC (pL J)) (.slice b ts.length c) ts)(iX:ts.length<9223372036854775807)(hl:∀l∈ts,l.length<9223372036854775807):
 Fn (aT Q g0) 10 [.agg #[.int .i64 bits,.slice b ts.length c]] [] J (Tn J (nv bits ts) (xo bits ts)):=by
 have aH:addrEq b b=true:=h.addr;have db:=h.db;have aih:=aag (Q:=Q) (g0:=g0) (bits:=bits) h iX hl;refine Fn.KO (b7 Tryz.func10) rfl rfl fun H=>?_;refine rg ?_;refine gZ fun a7=>?_;refine gn fun bc=>?_;refine gn fun cu=>?_;refine aa 0x3338 ?_;refine br (G:=aih) (h:=?_);rintro v' m' ae hle ⟨rfl,rfl,rfl⟩;refine aa 0x5f040e702 ?_;refine If (fun dR=>?_) fun dR=>?_
 ·have cx:xo bits ts=[]:=aZ dR;refine aa 0x6af8e7039 ?_;refine'⟨.inr rfl,_,_,[],(by first|exact .nil _|exact .vZ (gu 0 rfl (gu 0 rfl (gu 0 rfl (gu 0 rfl (gu 0 rfl (gu 0 rfl .nil)))))) (.nil _)),.cell rfl (by repeat first|exact .head _|refine .tail _ ?_|refine iI _ ?_) (iy (g2 rfl) rfl) (.cell rfl (by repeat first|exact .head _|refine .tail _ ?_|refine iI _ ?_) (iy (g2 rfl) rfl) (.nil)),kF _,?_⟩;first
   |(have c:=dR;exact⟨af.le.refl _,rfl,none,0,by rw[cx];rfl,by rw[cx];exact Kv⟩)
   |exact⟨aM.trans cq,rfl,jm,fC,by rw[cx,aN,eP];rfl,by rw[cx,eP];exact dr⟩
 ·have aN:nv bits ts=0:=iF fun q=>dR q;obtain⟨dI,dB,ub⟩:=RM aN;have cx:xo bits ts=ts.map (mQ (2 ^ bits.toNat)):=a2 aN;obtain⟨k,M,hk,CH,wo,iw,q1,q0⟩:=bits_nat dI;subst hk;rw[h9,<-wo] at cx ub;refine P7 ?_;refine gn fun cI=>?_;refine aa 0x4b738 ?_;refine br (G:=Zr aH) (h:=?_);rintro v' m' bi hle ⟨acf,rfl,rfl,rfl⟩;refine aa 0xbeaf8 ?_;refine aB.Rg rfl rfl (fun kO bA r aq=>?_);refine⟨(acf,_)::[(bA,_),(cI,_),(cu,_),(bc,_),(a7,_)],[(kO,_)],_,_,(gu 2 rfl (gu 0 rfl (gu 1 rfl (gu 1 rfl (gu 1 rfl (gu 1 rfl (gu 0 rfl .nil))))))),trivial,Zq (e9:=fun _ _ _=>False) (om:=fun i=>Mh (Jc aq) bA (fun m ae=>∃w a8 d,m=(cI,.row [w] 23)::(a8++[(cu,.row [.int .i64 0] 31),(bc,.row [.slice none 0 0] 23),(a7,.row [.int .i64 (k:Int),.slice b ts.length c] 26)])/\eW 42 1 w i d a8/\g4 1 (fun _=>dC (qG ae)) d ((ts.take i).map (mQ M)))) (uo:=fun _ _=>False) iX db ⟨_,_,aq,rfl,_,[],[],rfl,.inl ⟨.nil,rz,rl⟩,⟨rfl,fun i x U=>by cases U⟩⟩ ?hh,(fun _ _ _ _ q=>q.2.elim),?r1⟩;case hh=>
   rintro i v m cb ak ⟨t,aJ,a4⟩ bS ⟨cX,sk,yh,rfl,w,a8,d,rfl,hE,e6⟩;have a4:mY J v t:=a4;obtain⟨bs,bp,rfl,yl,Jm⟩:=a4.inv;have aK:addrEq bs bs=true:=a4.addr;obtain⟨jJ,mH,hn,Pz⟩:=Rm (ub t (gh aJ));obtain⟨x1,Q5,M',Nu,rfl,wm,Ae⟩:=a4.DC I;have wm:=bS _ _ wm;have Vh:=bS _ _ b1;have lM:t.length<cG:=nC mH bm;refine sX.QT yh (by repeat first|exact .head _|refine .tail _ ?_|refine iI _ ?_) rfl rfl (fun H=>?_);refine aa 0x6059 ?_;refine⟨rfl,_,(by repeat first|exact .head _ _ _ _|apply eS.tail|apply eS.app),?_⟩;refine aa 0x50e757 ?_;refine' W.step rfl (.of (pG rfl rfl rfl rfl rfl (eB rfl) ?aN ?ab ?ad fun xX=>?_));case aN=>exact cC
   case ab=>exact cC
   case ad=>exact cC
   refine aa 0x302 ?_;rw[h9];refine aa 0x6af809439 ?_;refine c8 [(26,.int .i64 ((0):Int)),(1,_),(2,_),(3,_),(5,_),(7,_),(24,_),(25,_)] ?_;refine a' ?_;refine' aB.bA (fun(bE:Nat×(List Value)×af)=>match bE with|(j,d5,gY)=>⟨[(26,.int .i64 (j:Int))],(xX,.row (d5++fp [.bool false,.slice none 0 0,.slice none 0 0] (t.length -j)) 47)::(bA,.loop {cX with state:=.busy})::(cI,.row [w] 23)::(a8++[(cu,.row [.int .i64 0] 31),(bc,.row [.slice none 0 0] 23),(a7,.row [.int .i64 (k:Int),.slice b ts.length c] 26)]),gY,j<=t.length/\cb.le gY/\g4 3 (fun _=>jC gY) d5 (mQ M (t.take j)),t.length -j⟩) ⟨0,[],cb⟩ ?hs ?bb
   case hs=>exact⟨df _,af.le.refl _,⟨rfl,fun i x U=>by cases U⟩⟩
   case bb=>
    rintro⟨j,d5,gY⟩ hinv;try simp only at hinv
    obtain⟨aY,mb,wE⟩:=hinv;refine aa 0xbe099 ?_;refine If (fun gK=>?_) fun gK=>?_
    ·obtain⟨x,U,nh⟩:=Ae j I;obtain⟨di,pk⟩:=hn x (gh U);obtain⟨s,rfl⟩:∃s:Nat,x=(s:Int):=⟨x.toNat,I⟩;have ahs:=mb _ _ wm;have nW:d5.length=j*3:=by rw[wE.1,xq,dY,fV I]
     refine aa 0xa25a1ce04249839d5f57 ?_;rw[iw];refine br (G:=amq (mb _ _ Vh) ax (n:=s) (d:=M) I I q0) (h:=?_);rintro v' m' bi hle ⟨aM,rfl,en,fR,rfl,b3⟩;obtain⟨OK,z4⟩:=Zy b3 q0 q1 I;rw[OK];have Oe:=z4;obtain⟨fi,eu,rfl⟩:=z4.n.form;obtain⟨jV,fB,rfl⟩:=z4.d.form;refine aa 0x1ce1 ?_;refine gn fun rL=>?_;refine aa 0xbe081ce05c ?_;refine If (fun s4=>?_) fun s4=>?_
     ·
       exfalso;exact s4 rfl
     ·
       refine aa 0x19810e757 ?_;refine' iK ?hs ?_;case hs=>exact(by rw[show t.length -j=(t.length -(j+1))+1 by omega,Bw];exact Li (by rw[nW];omega) rfl)
       refine kr ?_;have OE:g4 3 (fun _=>jC bi) (d5++[.bool false,.slice fi (su s M).num.length eu,.slice jV (su s M).den.length fB]) (mQ M (t.take (j+1))):=by
        rw[Zi U,h9];exact(wE.mono fun _ _ _ q=>q.mono aM).app ⟨_,_,rfl,Oe⟩ rfl
       rw[<-my];refine aa 0xc0479 ?_;refine eH ⟨j+1,d5++[.bool false,.slice fi (su s M).num.length eu,.slice jV (su s M).den.length fB],bi⟩ ?_ (hm:=.cons _ (.refl _));exact⟨I,mb.trans aM,OE⟩
    ·refine aa 0x357 ?_;obtain rfl:j=t.length:=I
     rw[cM (bF _)] at wE;have CA:d5.length=t.length*3:=by rw[wE.1,xq]
     refine aB.mN (m':=(xX,.row d5 47)::(bA,.loop {cX with state:=.busy})::(cI,.row [w] 23)::(a8++[(cu,.row [.int .i64 0] 31),(bc,.row [.slice none 0 0] 23),(a7,.row [.int .i64 (k:Int),.slice b ts.length c] 26)])) (by show List.Perm _ ((xX,dw.row (d5++fp [.bool false,.slice none 0 0,.slice none 0 0] (t.length -t.length)) 47)::_);rw[sR,DU,ij]) ?_;refine aB.hy rfl fun VU=>?_;have kV:qG (gY.add xX (d5,47)) (mQ M t) (.slice (some ⟨xX,0,none⟩) t.length t.length):=⟨_,_,by rw[xq],by rw[xq];exact⟨⟨d5,by rw[xq];exact fg.row (af.gC _ _ _) (by rw[g5,cM I]) CA (fun _=>⟨bF _,lM⟩) (fun _=>rfl),fun i x U=>(wE.2 i x U).mono VU⟩⟩⟩;have mE:g4 1 (fun _=>dC (qG (gY.add xX (d5,47)))) (d++[.slice (some ⟨xX,0,none⟩) t.length t.length]) ((ts.take (i+1)).map (mQ M)):=by
      rw[ko,aJ,xR];exact(e6.mono fun _ _ _ ⟨v,aK,aH⟩=>⟨v,aK,aH.mono (mb.trans VU)⟩).app ⟨_,rfl,kV⟩ rfl
     refine aa 0x539 ?_;refine lj fun acg=>?_;refine' W.step rfl (.of (ua rfl rfl rfl rfl rfl rfl (eB rfl) (RT Q g0) (fun i q=>by cases q) ?ev ?hm ?U ?dE ?dQ ?aY ?ap fun auV Qv Vt=>?_));case ev=>exact hE
     case hm=>exact(S0 [_,_,_] a8 [_,_,_])
     case U=>exact pB
     case dE=>first|rfl|(simp;done)|(simp;omega)
     case dQ=>first|rfl|exact qg _
     case aY=>exact Nat.one_pos
     case ap=>exact(show i+1<=1000000 by omega)
     obtain⟨jV,fB,rfl⟩:=Vt.qU;refine W.mN (m':=(bA,.loop {cX with state:=.busy})::(cI,.row [w] 23)::(Qv++[(cu,.row [.int .i64 0] 31),(bc,.row [.slice none 0 0] 23),(a7,.row [.int .i64 (k:Int),.slice b ts.length c] 26),(acg,.row [.slice (some ⟨xX,0,none⟩) t.length t.length] 42)])) YD ?_;refine aa 0x31c ?_;refine .inl ⟨none,_,_,(bA,_)::(cI,_)::(Qv++[_,_,_]),rfl,(by repeat first|exact .head _ _ _ _|apply eS.tail|apply eS.app),(.cons_cons _ (.cons_cons _ (Ia (lf [_,_,_] [_]) _))),?_⟩;exact⟨true,rfl,(fun _=>⟨_,_,yh.again,rfl,_,Qv,_,rfl,Vt,mE⟩),fun q=>by cases q⟩
  rintro v m' bi aM ⟨_,⟨cW,sk,qZ,rfl,w,a8,d,rfl,hE,e6⟩|aj⟩;case inr=>exact aj.elim
  rw[cM (bF _)] at e6;refine⟨cW,(bA,_)::(cI,_)::(a8++[_,_,_,(kO,_)]),(by rw[BH,BH,my];exact .head _ _ _ _),(Cj qZ).1,?_⟩;rw[(Cj qZ).2];obtain⟨jm,fC,rfl⟩:=hE.qU;refine hE.mo (fH:=[(kO,_),(bA,_),(cI,_),(cu,_),(bc,_),(a7,_)]) YD (fun fe cq aj=>?_);have dr:mZ fe jm ts.length fC (ts.map (mQ M)):=⟨⟨d,by rw[eP];exact aj,fun i x U=>by obtain⟨v,aU,aQ⟩:=e6.2 i x U;exact⟨v,aU,aQ.mono cq⟩⟩⟩;refine aa 0x6af8e7139 ?_;refine'⟨.inr rfl,_,_,[],(by first|exact .nil _|exact .vZ (gu 0 rfl (gu 0 rfl (gu 0 rfl (gu 0 rfl (gu 0 rfl (gu 0 rfl .nil)))))) (.nil _)),.cell rfl (by repeat first|exact .head _|refine .tail _ ?_|refine iI _ ?_) (iy (g2 rfl) rfl) (.cell rfl (by repeat first|exact .head _|refine .tail _ ?_|refine iI _ ?_) (iy (g2 rfl) rfl) (.nil)),kF _,?_⟩;first
   |(have c:=dR;exact⟨af.le.refl _,rfl,none,0,by rw[cx];rfl,by rw[cx];exact Kv⟩)
   |exact⟨aM.trans cq,rfl,jm,fC,by rw[cx,aN,eP];rfl,by rw[cx,eP];exact dr⟩
end
def mn (m:List (List b5)):Int:=if 200<m.length then 4 else p0 lA m
theorem YJ{m:List (List b5)}(h:200<m.length):mn m=4:=a2 h
theorem YK{m:List (List b5)}(h:¬200<m.length):mn m=p0 lA m:=aZ h
theorem Q'{m:List (List b5)}(h:mn m=0):m.length<=200/\∀l∈m,lA l=0:=by
 unfold mn at h;split at h
 ·cases h
 ·exact⟨I,UJ h⟩
abbrev BB(J:af)(l:List b5)(v:Value):Prop:=∃b c,v=.slice b l.length c/\dz J 82 3 (mw J) (.slice b l.length c) ((iB l).map fun p:Nat=>bn (p:Int) (hg l))
theorem BB.mono{J ae:af}(hle:J.le ae){l:List b5}{v:Value}(h:BB J l v):BB ae l v:=by
 obtain⟨b,c,ab,ad⟩:=h;exact⟨b,c,ab,dz.mono (R':=mw ae) hle (fun _ _ q=>q.mono hle) ad⟩
abbrev Sz(J:af)(b:Option Addr)(n c:Nat)(m:List (List b5)):Prop:=dz J 66 1 (dC (BB J)) (.slice b n c) m
theorem YE{α:Type}{l a b:α}{a8:List α}:(l::b::(a8++[a])).Perm (a8++[a,l,b]):=by
 have ab:(a8++[a,l,b]).Perm ([l,b,a]++a8):=(oh).trans (LY a8 (oh (l₁:=[a]) (l₂:=[l,b])));have ad:([l,b]++(a8++[a])).Perm ([l,b]++([a]++a8)):=LX _ oh;exact ad.trans ab.symm
section
variable {Q:cZ Tryz.prog}{g0:Nat}{J:af}
theorem Y7{m:List (List b5)}{b:Option Addr}{c:Nat}{aR:TypeId}(b1:J 2=some (bW .u8 ms,aR))(ax:Nat.blt 2 (aT Q g0).g0=true)(h:mZ J b m.length c m)(lq:m.length<=1000)(hl:∀l∈m,l.length<=1000):
 lb (aT Q g0) 29 [.slice b m.length c] [] J (fun u m' ae=>J.le ae/\m'=[]/\mn m=0/\∃b' c',u=.slice b' m.length c'/\Sz ae b' m.length c' m) (Tk J (mn m)):=by
 have aH:addrEq b b=true:=h.addr;have db:=h.db;refine lb.KO (b7 Tryz.func29) rfl rfl fun H=>?_;refine aa 0x17c10a1ce059 ?_;refine If (fun fB=>?_) fun fB=>?_
 ·have he:=YJ (m:=m) I;refine aa 0x4e19 ?_;refine' W.panic rfl rfl rfl ?_;exact⟨_,_,rfl,.nil _,.inr ⟨_,[],rfl,kF _,rfl,af.le.refl _,by rw[he];decide,by rw[he]⟩⟩
 ·have he:=YK (m:=m) I;refine P7 ?_;refine gn fun cu=>?_;refine aa 0x738 ?_;refine br (G:=aoG aH) (h:=?_);rintro v' m' bi hle ⟨pS,rfl,rfl,rfl⟩;refine aa 0xbeaf8 ?_;refine aB.Rg rfl rfl (fun kO bA r aq=>?_);refine⟨(pS,_)::[(bA,_),(cu,_)],[(kO,_)],_,_,(gu 2 rfl (gu 0 rfl (gu 1 rfl (gu 0 rfl .nil)))),trivial,aoF (e9:=fun bk m' ae=>m'=[]/\mn m≠0/\bk=[{v:=Jb (mn m),recovered:=false}]) (om:=fun i=>Mh (Jc aq) bA (fun XS ae=>∃w a8 d,XS=(cu,.row [w] 64)::a8/\eW 66 1 w i d a8/\g4 1 (fun _=>dC (BB ae)) d (m.take i)/\∀y∈m.take i,lA y=0)) (uo:=fun _ _=>False) I db ⟨_,_,aq,rfl,_,[],[],rfl,.inl ⟨.nil,rz,rl⟩,⟨rfl,fun i x U=>by cases U⟩,fun y au=>by cases au⟩ ?hh,(fun bk m' bi aM q=>by
   obtain⟨_,rfl,aH,rfl⟩:=q;exact⟨_,[],rfl,.vZ (.refl _) (.nil _),.inr ⟨_,[],rfl,kF _,rfl,aM,aH,rfl⟩⟩),?r1⟩
  case hh=>
   rintro i v XS cb ak ⟨l,ap,bs,bp,rfl,a4⟩ bS ⟨cX,sk,yh,rfl,w,a8,d,rfl,hE,e6,bu⟩;have a4:=dz.mono (R':=jC cb) bS (fun _ _ q=>q.mono bS) a4;have aK:addrEq bs bs=true:=a4.addr;obtain⟨jm,fC,rfl,pA⟩:=hE.tc;refine sX.QT yh (by repeat first|exact .head _|refine .tail _ ?_|refine iI _ ?_) rfl rfl (fun H=>?_);refine aa 0x6059 ?_;refine⟨rfl,_,(by repeat first|exact .head _ _ _ _|apply eS.tail|apply eS.app),?_⟩;refine aa 0x5f57 ?_;refine aB.afg rfl (by kernel_rfl) (aX:=[.val 0,.val 1,.bD 2,.ir 3,.ca [0],.bD 4,.bD 5]) (by kernel_rfl) ?_;refine WP.val rfl V.W' ?_;refine WP.val rfl V.k2 ?_;refine WP.IV rfl rfl rfl rfl rfl rfl rfl rfl rfl rfl (bl:=[]) (c2:=_) (.refl _) (aof (bS _ _ b1) ax a4 (hl l (gh ap))) ?_ ?_
   rotate_left 1
   ·rintro bk m' fe cq ⟨rfl,_,ai,rfl⟩;have iP:mn m=lA l:=he.trans (ye bu ap ai);exact .inr ⟨_,[],rfl,rfl,kF _,rfl,by rw[iP];exact ai,by rw[iP]⟩
   rintro v' m' de a9 ⟨_,rfl,nZ,fi,eu,rfl,Jj⟩;have je:addrEq fi fi=true:=Jj.addr;have mE:g4 1 (fun _=>dC (BB de)) (d++[.slice fi l.length eu]) (m.take (i+1)):=by{rw[ko,ap];exact(e6.mono fun _ _ _ ⟨v,aK,aH⟩=>⟨v,aK,aH.mono a9⟩).app ⟨_,rfl,fi,eu,rfl,Jj⟩ rfl}
   refine WP.Dp ?_;refine cm.buildSlice rfl rfl rfl rfl rfl rfl (eB rfl) rfl rfl rfl fun acd=>?_;refine cm.ca ft ?_;refine' cm.pW rfl rfl (ua rfl rfl rfl rfl rfl rfl (eB rfl) (aqr Q g0) (fun i q=>by cases q) ?ev ?hm ?U ?dE ?dQ ?aY ?ap fun auS Qr Vp=>?_);case ev=>exact hE
   case hm=>exact(oh (l₁:=[_,_,_]))
   case U=>exact pB
   case dE=>first|rfl|(simp;done)|(simp;omega)
   case dQ=>first|rfl|exact qg _
   case aY=>exact Nat.one_pos
   case ap=>exact(show i+1<=1000000 by omega)
   obtain⟨jV,fB,rfl⟩:=Vp.qU;refine cm.mN (m':=(bA,.loop {cX with state:=.busy})::(cu,.row [.slice jm i fC] 64)::(Qr++[(acd,.row [.slice fi l.length eu] 66)])) YE.symm ?_;refine aa 0x31c ?_;refine .inl ⟨none,_,_,(bA,_)::(cu,_)::Qr,rfl,(by repeat first|exact .head _ _ _ _|apply eS.tail|apply eS.app),(.cons_cons _ (.cons_cons _ (lf _ _))),?_⟩;exact⟨true,rfl,(fun _=>⟨_,_,yh.again,rfl,_,Qr,_,rfl,Vp,mE,KS bu ap nZ⟩),fun q=>by cases q⟩
  rintro v m' bi aM ⟨_,⟨cW,sk,qZ,rfl,w,a8,d,rfl,hE,e6,bu⟩|aj⟩;case inr=>exact aj.elim
  rw[cM (bF _)] at e6 bu;have mi:mn m=0:=he.trans (Ja bu);refine⟨cW,(bA,_)::(cu,_)::(a8++[(kO,_)]),(by rw[BH,BH];exact .head _ _ _ _),(Cj qZ).1,?_⟩;rw[(Cj qZ).2];obtain⟨jm,fC,rfl⟩:=hE.qU;refine hE.mo (fH:=[(kO,_),(bA,_),(cu,_)]) YE (fun fe cq aj=>?_);have dr:Sz fe jm m.length fC m:=⟨⟨d,aj,fun i x U=>by obtain⟨v,aU,aQ⟩:=e6.2 i x U;exact⟨v,aU,aQ.mono cq⟩⟩⟩;refine aa 0x357c0939 ?_;exact⟨_,_,rfl,.vZ (.refl _) (.nil _),.inl ⟨rfl,_,[],.tmp rfl .nil,kF _,aM.trans cq,rfl,mi,jm,fC,rfl,dr⟩⟩
theorem anF{cI:Nat}{xI:List Value}:pI (aT Q g0) 37 [.pointer (some ⟨cI,0,none⟩)] .returning [(cI,.row xI 31)] J (fun u m' ae=>u=.returning/\m'=[(cI,.row xI 31)]/\J=ae):=by
 refine pI.b8 (b7 Tryz.func37) rfl rfl fun H=>?_;refine rg ?_;refine' W.recover rfl rfl rfl rfl rfl rfl rfl ?_;refine br (G:=T1) (h:=?_);rintro v' m' ae hle ⟨rfl,rfl⟩;refine kr ?_;exact⟨by first|exact .inl rfl|exact .inr rfl,rfl,[],_,.nil,.refl _,rfl,rfl,rfl⟩
theorem anG{cI:Nat}{e:Int}{y:Value}:pI (aT Q g0) 37 [.pointer (some ⟨cI,0,none⟩)] (.panicking [{v:=Jb e,recovered:=false}]) [(cI,.row [y] 31)] J (fun u m' ae=>settle u=.returning/\m'=[(cI,.row [.int .i64 e] 31)]/\J=ae):=by
 refine pI.b8 (b7 Tryz.func37) rfl rfl fun H=>?_;refine rg ?_;refine' W.recover rfl rfl rfl rfl rfl rfl rfl ?_;refine' W.step rfl (Exec.call rfl rfl rfl rfl rfl rfl rfl (bl:=[(cI,.row [y] 31)]) (c2:=[]) (.refl _) trivial (T2) ?_);rintro v' m' ae hle ⟨rfl,rfl⟩;refine kr ?_;exact⟨by first|exact .inl rfl|exact .inr rfl,rfl,[],_,.nil,.refl _,rfl,rfl,rfl⟩
theorem K5{cI:Nat}{xI:List Value}:pI (aT Q g0) 27 [.pointer (some ⟨cI,0,none⟩)] .returning [(cI,.row xI 31)] J (fun u m' ae=>u=.returning/\m'=[(cI,.row xI 31)]/\J=ae):=by
 refine pI.b8 (b7 Tryz.func27) rfl rfl fun H=>?_;refine rg ?_;refine' W.recover rfl rfl rfl rfl rfl rfl rfl ?_;refine br (G:=T1) (h:=?_);rintro v' m' ae hle ⟨rfl,rfl⟩;refine kr ?_;exact⟨by first|exact .inl rfl|exact .inr rfl,rfl,[],_,.nil,.refl _,rfl,rfl,rfl⟩
theorem an0{cI:Nat}{e:Int}{y:Value}:pI (aT Q g0) 27 [.pointer (some ⟨cI,0,none⟩)] (.panicking [{v:=Jb e,recovered:=false}]) [(cI,.row [y] 31)] J (fun u m' ae=>settle u=.returning/\m'=[(cI,.row [.int .i64 e] 31)]/\J=ae):=by
 refine pI.b8 (b7 Tryz.func27) rfl rfl fun H=>?_;refine rg ?_;refine' W.recover rfl rfl rfl rfl rfl rfl rfl ?_;refine' W.step rfl (Exec.call rfl rfl rfl rfl rfl rfl rfl (bl:=[(cI,.row [y] 31)]) (c2:=[]) (.refl _) trivial (T2) ?_);rintro v' m' ae hle ⟨rfl,rfl⟩;refine kr ?_;exact⟨by first|exact .inl rfl|exact .inr rfl,rfl,[],_,.nil,.refl _,rfl,rfl,rfl⟩
theorem anH{m:List (List b5)}{b:Option Addr}{c:Nat}{aR:TypeId}(b1:J 2=some (bW .u8 ms,aR))(ax:Nat.blt 2 (aT Q g0).g0=true)(h:mZ J b m.length c m)(lq:m.length<=1000)(hl:∀l∈m,l.length<=1000):
 Fn (aT Q g0) 14 [.slice b m.length c] [] J (fun u m' ae=>J.le ae/\m'=[]/\u=.int .i64 (mn m)):=by
 have aH:addrEq b b=true:=h.addr;refine lb.Za (lb.b8 (b7 Tryz.func14) rfl rfl fun H=>?_);refine rg ?_;refine gn fun bc=>?_;refine aa 0x4b38 ?_;refine' W.defer rfl rfl rfl rfl rfl rfl rfl ?_;refine aa 0x738 ?_;refine W.IV rfl rfl rfl rfl rfl rfl rfl rfl (bl:=[]) (c2:=[(bc,.row [.int .i64 0] 31)]) (.refl _) (Y7 b1 ax h lq hl) ?_ ?_
 rotate_left 1
 ·rintro bk m' fe cq ⟨rfl,hle,he,rfl⟩;refine⟨_,rfl,.inr ⟨37,#[.pointer (some ⟨bc,0,none⟩)],#[],[(bc,.row [.int .i64 0] 31)],[],rfl,.refl _,anG.mono ?_⟩⟩;rintro DM m' ae ⟨hu,rfl,rfl⟩ _;exact .inl ⟨hu,_,[],.cell rfl (.head _) (iy (g2 rfl) rfl) .nil,kF _,hle,rfl,rfl⟩
 rintro v' m' bi hle ⟨aM,rfl,mi,bs,bp,rfl,dr⟩;refine aa 0x357c7338 ?_;refine⟨.returning,rfl,.inr ⟨37,#[.pointer (some ⟨bc,0,none⟩)],#[],[(bc,.row [.int .i64 0] 31)],[],rfl,.refl _,anF.mono ?_⟩⟩;rintro DM m' ae ⟨rfl,rfl,rfl⟩ _;exact .inl ⟨rfl,_,[],.cell rfl (.head _) (iy (g2 rfl) rfl) .nil,kF _,aM,rfl,by rw[mi];rfl⟩
end
end
end Go.Opn
