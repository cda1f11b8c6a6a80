/- The law TableTurns returns true, whatever its arguments, and they read afterwards as before: the card of TableTurns. Conditions: none beyond the row's own; the listed variables are as the program's text lays them (the tie is given). -/
import Derived.Test.YtlgjlbpafcifoaaGreatDoorCbg
import Derived.Test.YtlgjlbpafcifoaaGreatDoorCak
import Derived.Test.YtlgjlbpafcifoaaGreatDoorProg
import Derived.KernelRfl
import Derived.Test.YtlgjlbpafcifoaaGreatDoorCap
import Derived.Conc.Holds
import Derived.SevenTiedAt
import Derived.Test.YtlgjlbpafcifoaaGreatDoorCards
import Derived.Test.YtlgjlbpafcifoaaGreatDoorTie
import Derived.WalkKit
import Derived.ProofKit
import Derived.OpenShut
import Derived.Deep.DeepHandedRow
import Derived.Lib.LaidTab
import Derived.LaidHandle
import Derived.LaidMore
import Derived.Stop.LaidErr
import Derived.Carry
set_option maxRecDepth 100000
set_option maxHeartbeats 8000000
set_option linter.unusedVariables false
set_option linter.unusedSimpArgs false
namespace Go.Opn
noncomputable section
open Go.Cre Go.RowKit Go.Proofs
def qo (m:List (List b5))(bits:Int):Int:=if bits<1\/30<bits then 2 else mn m
theorem YY{m:List (List b5)}{bits:Int}(h:bits<1\/30<bits):qo m bits=2:=a2 h
theorem YZ{m:List (List b5)}{bits:Int}(h:¬(bits<1\/30<bits)):qo m bits=mn m:=aZ h
def tP (k:Nat)(l:List b5):List Nat:=Ho (iB l) (hg l) (2 ^ k)
theorem anU{k:Nat}{l:List b5}(h:lA l=0):(tP k l).length=l.length:=by
 obtain⟨jh,kD,nx,Bu⟩:=Lb h;unfold tP;rw[(Zd (by rw[qt];exact jh) (s7 nx) Bu).len,qt]
def yY (m:List (List b5))(bits:Int):List (List Nat):=if qo m bits=0 then m.map (tP bits.toNat) else[]
theorem Y0{m:List (List b5)}{bits:Int}(h:qo m bits≠0):yY m bits=[]:=aZ h
theorem anW{m:List (List b5)}{bits:Int}(h:qo m bits=0):yY m bits=m.map (tP bits.toNat):=a2 h
theorem XZ{J:af}{b:Option Addr}{n c:Nat}{m:List (List b5)}(h:mZ J b n c m):∀l∈m,qs l:=fun l ap=>by
 obtain⟨i,ak,rfl⟩:=List.getElem_of_mem ap;obtain⟨ab,_⟩:=h.at;obtain⟨kt,off,cells,e,_,_,fN⟩:=h.db I;obtain⟨v,_,x,U,bs,bp,_,a4⟩:=fN i I;rw[dX ak] at U;injection U with U;subst U
 exact Ns a4
abbrev l7(J:af)(m:List (List b5))(bits:Int):Value->aO->af->Prop:=fun u m' ae=>J.le ae/\m'=[]/\∃b' c',u=.tuple #[.agg #[.int .i64 (if qo m bits=0 then bits else 0),.slice b' (yY m bits).length c'],.int .i64 (qo m bits)]/\rK ae b' (yY m bits).length c' (yY m bits)
theorem ap5{J:af}:rK J none 0 0 []:=⟨⟨[],.nil,fun i x h=>by cases h⟩⟩
theorem l7.bad{J ae:af}{m:List (List b5)}{bits:Int}{e:Int}(he:qo m bits=e)(aN:e≠0)(hle:J.le ae):l7 J m bits (.tuple #[.agg #[.int .i64 0,.slice none 0 0],.int .i64 e]) [] ae:=by
 have az:qo m bits≠0:=by rw[he];exact aN
 refine⟨hle,rfl,none,0,?_,?_⟩
 ·rw[Y0 az,aZ az,he];rfl
 ·rw[Y0 az];exact ap5
theorem l7.qW{J ae:af}{m:List (List b5)}{k:Nat}{b:Option Addr}{c:Nat}(he:qo m (k:Int)=0)(hle:J.le ae)(h:rK ae b m.length c (m.map (tP k))):l7 J m (k:Int) (.tuple #[.agg #[.int .i64 (k:Int),.slice b m.length c],.int .i64 0]) [] ae:=by
 have au:=anW he;rw[h9] at au;refine⟨hle,rfl,b,c,?_,?_⟩
 ·rw[au,a2 he,he,eP]
 ·rw[au,eP];exact h
theorem ann{α:Type}{b a x y:α}{a8:List α}:(b::(a8++[x,y,a])).Perm (a8++[a,b,x,y]):=by
 have ab:(a8++[a,b,x,y]).Perm ([b,x,y,a]++a8):=(oh).trans (LY a8 (oh (l₁:=[a]) (l₂:=[b,x,y])));have ad:([b]++(a8++[x,y,a])).Perm ([b]++([x,y,a]++a8)):=LX _ oh;exact ad.trans ab.symm
theorem anm{α:Type}{b a x:α}{a8:List α}:(b::(a8++[x,a])).Perm (a8++[a,b,x]):=by
 have ab:(a8++[a,b,x]).Perm ([b,x,a]++a8):=(oh).trans (LY a8 (oh (l₁:=[a]) (l₂:=[b,x])));have ad:([b]++(a8++[x,a])).Perm ([b]++([x,a]++a8)):=LX _ oh;exact ad.trans ab.symm
section
variable {Q:cZ Tryz.prog}{g0:Nat}{J:af}
theorem an2{m:List (List b5)}{bits:Int}{b:Option Addr}{c:Nat}{aR:TypeId}(b1:J 2=some (bW .u8 ms,aR))(ax:Nat.blt 2 (aT Q g0).g0=true)(h:mZ J b m.length c m)(lq:m.length<=1000)(hl:∀l∈m,l.length<=1000):
 Fn (aT Q g0) 8 [.slice b m.length c,.int .i64 bits] [] J (l7 J m bits):=by
 have aH:addrEq b b=true:=h.addr;have hn:=XZ h;refine lb.Za (lb.b8 (b7 Tryz.func8) rfl rfl fun H=>?_);refine rg ?_;refine gn fun c9=>?_;refine gn fun cI=>?_;refine aa 0x4b38 ?_;refine' W.defer rfl rfl rfl rfl rfl rfl rfl ?_;refine kr ?_;refine dN [0,1,4,5] ?_;refine a' ?_;refine' aB.fD 0 [(15,.bool (decide ((bits<1\/30<bits))))] ?nN ?nO;case nN=>
  refine aa 0x903a ?_;refine fs 12 (fun Cn=>?_) fun Cn=>?_
  ·refine aa 0xc237b ?_;refine dO (dS ?_);omega
  ·refine aa 0xc2081 ?_;refine dO (dS ?_);omega
 case nO=>
  refine a' ?_;refine If (fun dR=>?_) fun dR=>?_
  ·have he:=YY (m:=m) dR;refine aa 0x6af8e7219 ?_;first
    |(refine⟨.returning,rfl,.inr ⟨27,#[.pointer (some ⟨cI,0,none⟩)],#[],[(cI,.row [.int .i64 2] 31)],[(c9,_)],rfl,.refl _,K5.mono ?_⟩⟩
      rintro DM m' ae ⟨rfl,rfl,rfl⟩ _;exact .inl ⟨rfl,_,[],.cell rfl (.tail _ (.head _)) (yX (g2 rfl) rfl) (.cell rfl (.head _) (iy (g2 rfl) rfl) .nil),kF _,l7.bad he bm (af.le.refl _)⟩)
    |(refine⟨.returning,rfl,.inr ⟨27,#[.pointer (some ⟨cI,0,none⟩)],#[],[(cI,.row [.int .i64 0] 31)],[(ee,_),(c9,_)],rfl,.swap _ _ _,K5.mono ?_⟩⟩
      rintro DM m' ae ⟨rfl,rfl,rfl⟩ _;exact .inl ⟨rfl,_,[],.cell rfl (.tail _ (.tail _ (.head _))) (yX (g2 rfl) rfl) (.cell rfl (.head _) (iy (g2 rfl) rfl) .nil),kF _,l7.qW (he.trans mi) (aM.trans (bS.trans ec)) dr⟩)
  ·have he:=YZ (m:=m) dR;obtain⟨k,M,hk,CH,wo,iw,q1,q0⟩:=bits_nat dR;subst hk;refine aa 0x100e757 ?_;refine gn fun ee=>?_;refine aa 0xe71c ?_;refine W.IV rfl rfl rfl rfl rfl rfl rfl rfl (bl:=[]) (c2:=_) (.refl _) (Y7 b1 ax h lq hl) ?_ ?_
   rotate_left 1
   ·rintro bk m' fe cq ⟨rfl,hle,aN,rfl⟩;refine⟨_,rfl,.inr ⟨27,#[.pointer (some ⟨cI,0,none⟩)],#[],[(cI,.row [.int .i64 0] 31)],[(ee,_),(c9,_)],rfl,.swap _ _ _,an0.mono ?_⟩⟩;rintro DM m' ae ⟨hu,rfl,rfl⟩ _;exact .inl ⟨hu,_,[],.cell rfl (.tail _ (.tail _ (.head _))) (yX (g2 rfl) rfl) (.cell rfl (.head _) (iy (g2 rfl) rfl) .nil),kF _,l7.bad he aN hle⟩
   rintro v' m' bi hle ⟨aM,rfl,mi,bs,bp,rfl,dr⟩;have aK:addrEq bs bs=true:=dr.addr;have db:=dr.db;obtain⟨dI,dB⟩:=Q' mi;refine aa 0x1abe025 ?_;refine c8 [(22,.int .i64 ((0):Int)),(1,_),(4,_),(5,_),(6,_),(20,_),(21,_)] ?_;refine a' ?_;refine' aB.bA (fun(bE:Nat×Value×aO×(List Value)×af)=>match bE with|(i,w,a8,d,cb)=>⟨[(22,.int .i64 (i:Int))],(ee,.row [.int .i64 (k:Int),w] 26)::(a8++[(cI,.row [.int .i64 0] 31),(c9,.row [.int .i64 0,.slice none 0 0] 26)]),cb,i<=m.length/\bi.le cb/\eW 43 1 w i d a8/\g4 1 (fun _=>dC fun l v=>cJ .i64 cb v l) d ((m.take i).map (tP k)),m.length -i⟩) ⟨0,.slice none 0 0,[],[],bi⟩ ?hs ?bb
   case hs=>exact⟨df _,af.le.refl _,.inl ⟨.nil,rz,rl⟩,⟨rfl,fun i x U=>by cases U⟩⟩
   case bb=>
    rintro⟨i,w,a8,d,cb⟩ hinv;try simp only at hinv
    obtain⟨ak,bS,hE,e6⟩:=hinv;refine aa 0xbe099 ?_;refine If (fun rN=>?_) fun rN=>?_
    ·obtain⟨kt,off,cells,e,rfl,kS,fN⟩:=db I;obtain⟨v,ar,l,ap,bM,bN,rfl,fc⟩:=fN i I;have aH:addrEq bM bM=true:=fc.addr;have kS:=bS _ _ kS;have fc:=dz.mono (R':=mw cb) bS (fun _ _ q=>q.mono bS) fc;obtain⟨jm,fC,rfl,pA⟩:=hE.tc;have nZ:=dB l (gh ap);have uZ:=hn l (gh ap);obtain⟨jh,kD,nx,Bu⟩:=Lb nZ;have ln:=T9 nZ uZ;have aik:=GB (hg l);have p8:=aoC (Q:=Q) (g0:=g0) (J:=cb) (ps:=iB l) (s:=hg l) (bits:=k) (b:=bM) (c:=bN) (by rw[qt];exact fc) (by rw[qt];exact jh) (by rw[qt];exact kD) (s7 nx) I Bu I;rw[qt] at p8;refine aa 0x2f8124d9d5f57 ?_;refine aB.draw rfl (by kernel_rfl) (aX:=[.val 0,.val 1,.val 2,.val 3,.bD 4,.ir 5,.ca [1,0],.bD 6,.val 7,.bD 8]) (by kernel_rfl) ?_;refine aa 0x852d ?_;refine dl rfl (G:=p8) (h:=?_);rintro v' m' fe hle ⟨cq,rfl,cB,cN,rfl,nS⟩;have bJ:addrEq cB cB=true:=nS.addr;have mE:g4 1 (fun _=>dC fun l v=>cJ .i64 fe v l) (d++[.slice cB l.length cN]) ((m.take (i+1)).map (tP k)):=by{rw[ko,ap,xR];exact(e6.mono fun _ _ _ ⟨v,aK,aH⟩=>⟨v,aK,aH.mono cq⟩).app ⟨_,rfl,nS⟩ rfl}
     refine cm.buildSlice rfl rfl rfl rfl rfl rfl (eB rfl) rfl rfl rfl fun Mp=>?_;refine cm.ca ft ?_;refine' cm.pW rfl rfl (ua rfl rfl rfl rfl rfl rfl (eB rfl) (aau Q g0) (fun i q=>by cases q) ?ev ?hm ?U ?dE ?dQ ?aY ?ap fun auU XV Vr=>?_);case ev=>exact hE
     case hm=>exact(S0 [_,_] a8 [_,_])
     case U=>exact pB
     case dE=>first|rfl|(simp;done)|(simp;omega)
     case dQ=>first|rfl|exact qg _
     case aY=>exact Nat.one_pos
     case ap=>exact(show i+1<=1000000 by omega)
     obtain⟨jV,fB,rfl⟩:=Vr.qU;refine cm.mN (m':=(ee,.row [.int .i64 (k:Int),.slice jm i fC] 26)::(XV++[(cI,.row [.int .i64 0] 31),(c9,.row [.int .i64 0,.slice none 0 0] 26),(Mp,.row [.slice cB l.length cN] 43)])) ann.symm ?_;refine aa 0x6023ce38d ?_;refine eH ⟨i+1,.slice jV (i+1) fB,XV,d++[.slice cB l.length cN],fe⟩ ?_ (hm:=.cons_cons _ (Ia (lf [_,_] [_]) _));exact⟨I,bS.trans cq,Vr,mE⟩
    ·obtain rfl:i=m.length:=I
     rw[sO] at e6;refine aa 0x357 ?_;obtain⟨gy,eI,rfl⟩:=hE.qU;refine hE.mo (fH:=[(ee,_),(cI,_),(c9,_)]) (BK (l₁:=a8)).symm (fun l5 ec aj=>?_);have dr:rK l5 gy m.length eI (m.map (tP k)):=⟨⟨d,by rw[eP];exact aj,fun i x U=>by obtain⟨v,aU,aQ⟩:=e6.2 i x U;exact⟨v,aU,aQ.mono ec⟩⟩⟩;refine aa 0x6af8e7199 ?_;first
        |(refine⟨.returning,rfl,.inr ⟨27,#[.pointer (some ⟨cI,0,none⟩)],#[],[(cI,.row [.int .i64 2] 31)],[(c9,_)],rfl,.refl _,K5.mono ?_⟩⟩
          rintro DM m' ae ⟨rfl,rfl,rfl⟩ _;exact .inl ⟨rfl,_,[],.cell rfl (.tail _ (.head _)) (yX (g2 rfl) rfl) (.cell rfl (.head _) (iy (g2 rfl) rfl) .nil),kF _,l7.bad he bm (af.le.refl _)⟩)
        |(refine⟨.returning,rfl,.inr ⟨27,#[.pointer (some ⟨cI,0,none⟩)],#[],[(cI,.row [.int .i64 0] 31)],[(ee,_),(c9,_)],rfl,.swap _ _ _,K5.mono ?_⟩⟩
          rintro DM m' ae ⟨rfl,rfl,rfl⟩ _;exact .inl ⟨rfl,_,[],.cell rfl (.tail _ (.tail _ (.head _))) (yX (g2 rfl) rfl) (.cell rfl (.head _) (iy (g2 rfl) rfl) .nil),kF _,l7.qW (he.trans mi) (aM.trans (bS.trans ec)) dr⟩)
theorem YL{m:List (List b5)}{b:Option Addr}{c:Nat}(h:mZ J b m.length c m)(lq:m.length<=1000)(hl:∀l∈m,l.length<=1000):
 Fn (aT Q g0) 15 [.slice b m.length c] [] J (fun u m' ae=>J.le ae/\m'=[]/\u=.int .i64 (mn m)):=by
 have aH:addrEq b b=true:=h.addr;have db:=h.db;refine Fn.b8 (b7 Tryz.func15) rfl rfl fun H=>?_;refine aa 0x17c10a1ce059 ?_;refine If (fun fB=>?_) fun fB=>?_
 ·have he:=YJ (m:=m) I;refine aa 0x1abe059 ?_;refine bo ?_;first
   |exact⟨af.le.refl _,rfl,by rw[he];rfl⟩
   |exact⟨bS.trans aM,rfl,by rw[iP];rfl⟩
   |exact⟨bS,rfl,by rw[mi];rfl⟩
 ·have he:=YK (m:=m) I;refine aa 0x6af816757 ?_;refine c8 [(3,.int .i64 ((0):Int)),(0,_)] ?_;refine a' ?_;refine' aB.bA (fun(bE:Nat×af)=>match bE with|(i,cb)=>⟨[(3,.int .i64 (i:Int))],[],cb,i<=m.length/\J.le cb/\∀y∈m.take i,lA y=0,m.length -i⟩) ⟨0,J⟩ ?hs ?bb
  case hs=>exact⟨df _,af.le.refl _,fun y au=>by cases au⟩
  case bb=>
   rintro⟨i,cb⟩ hinv;try simp only at hinv
   obtain⟨ak,bS,bu⟩:=hinv;refine aa 0x5f0428439 ?_;refine If (fun pV=>?_) fun pV=>?_
   ·obtain⟨kt,off,cells,e,rfl,kS,fN⟩:=db I;obtain⟨v,ar,l,ap,bM,bN,rfl,fc⟩:=fN i I;have kS:=bS _ _ kS;have fc:=dz.mono (R':=jC cb) bS (fun _ _ q=>q.mono bS) fc;refine aa 0x930439d5f57 ?_;refine br (G:=aoD fc (by have:=hl l (gh ap);omega)) (h:=?_);rintro v' m' bi hle ⟨aM,rfl,rfl⟩;refine aa 0x302 ?_;refine dN [0,3,4] ?_;refine a' ?_;refine' aB.fD 0 [(20,.bool (decide ((lA l≠0))))] ?zK ?zQ;case zK=>
     refine aa 0xc103a ?_;refine dO (dS ?_);omega
    case zQ=>
     refine a' ?_;refine If (fun hM=>?_) fun hM=>?_
     ·have iP:mn m=lA l:=he.trans (ye bu ap hM);refine aa 0x357c0839 ?_;refine bo ?_;first
       |exact⟨af.le.refl _,rfl,by rw[he];rfl⟩
       |exact⟨bS.trans aM,rfl,by rw[iP];rfl⟩
       |exact⟨bS,rfl,by rw[mi];rfl⟩
     ·refine aa 0x60430e757 ?_;refine eH ⟨i+1,bi⟩ ?_;exact⟨I,bS.trans aM,KS bu ap (iF fun q=>hM q)⟩
   ·have mi:mn m=0:=he.trans (Ja (by rw[cM I] at bu;exact bu));refine aa 0x6af816757 ?_;refine bo ?_;first
     |exact⟨af.le.refl _,rfl,by rw[he];rfl⟩
     |exact⟨bS.trans aM,rfl,by rw[iP];rfl⟩
     |exact⟨bS,rfl,by rw[mi];rfl⟩
theorem an1{m:List (List b5)}{bits:Int}{b:Option Addr}{c:Nat}(h:mZ J b m.length c m)(lq:m.length<=1000)(hl:∀l∈m,l.length<=1000):
 Fn (aT Q g0) 9 [.slice b m.length c,.int .i64 bits] [] J (l7 J m bits):=by
 have aH:addrEq b b=true:=h.addr;have hn:=XZ h;have db:=h.db;refine Fn.b8 (b7 Tryz.func9) rfl rfl fun H=>?_;refine rg ?_;refine gn fun c9=>?_;refine aa 0x302 ?_;refine dN [0,1,4] ?_;refine a' ?_;refine' aB.fD 0 [(14,.bool (decide ((bits<1\/30<bits))))] ?kM ?kP;case kM=>
  refine aa 0x903a ?_;refine fs 11 (fun Fc=>?_) fun Fc=>?_
  ·refine aa 0xc237b ?_;refine dO (dS ?_);omega
  ·refine aa 0xc2081 ?_;refine dO (dS ?_);omega
 case kP=>
  refine a' ?_;refine If (fun dZ=>?_) fun dZ=>?_
  ·have he:=YY (m:=m) dZ;refine aa 0x6af817219 ?_;refine bo ?_;first
    |exact l7.bad he bm (af.le.refl _)
    |exact l7.bad he m4 aM
    |exact l7.qW (he.trans mi) (aM.trans (bS.trans ec)) dr
  ·have he:=YZ (m:=m) dZ;obtain⟨k,M,hk,CH,wo,iw,q1,q0⟩:=bits_nat dZ;subst hk;refine aa 0xe757 ?_;refine br (G:=YL h lq hl) (h:=?_);rintro v' m' bi hle ⟨aM,rfl,rfl⟩;refine aa 0x302 ?_;refine dN [0,1,4,6] ?_;refine a' ?_;refine' aB.fD 0 [(19,.bool (decide ((mn m≠0))))] ?zJ ?zP;case zJ=>
    refine aa 0xc103a ?_;refine dO (dS ?_);omega
   case zP=>
    refine a' ?_;refine If (fun m4=>?_) fun m4=>?_
    ·refine aa 0xd5f02e0619 ?_;refine bo ?_;first
        |exact l7.bad he bm (af.le.refl _)
        |exact l7.bad he m4 aM
        |exact l7.qW (he.trans mi) (aM.trans (bS.trans ec)) dr
    ·have mi:mn m=0:=iF fun q=>m4 q;obtain⟨dI,dB⟩:=Q' mi;refine aa 0x100e757 ?_;refine gn fun fh=>?_;refine aa 0x6af81671c ?_;refine c8 [(8,.int .i64 ((0):Int)),(0,_),(1,_),(4,_),(7,_)] ?_;refine a' ?_;refine' aB.bA (fun(bE:Nat×Value×aO×(List Value)×af)=>match bE with|(i,w,a8,d,cb)=>⟨[(8,.int .i64 (i:Int))],(fh,.row [.int .i64 (k:Int),w] 26)::(a8++[(c9,.row [.int .i64 0,.slice none 0 0] 26)]),cb,i<=m.length/\bi.le cb/\eW 43 1 w i d a8/\g4 1 (fun _=>dC fun l v=>cJ .i64 cb v l) d ((m.take i).map (tP k)),m.length -i⟩) ⟨0,.slice none 0 0,[],[],bi⟩ ?hs ?bb
     case hs=>exact⟨df _,af.le.refl _,.inl ⟨.nil,rz,rl⟩,⟨rfl,fun i x U=>by cases U⟩⟩
     case bb=>
      rintro⟨i,w,a8,d,cb⟩ hinv;try simp only at hinv
      obtain⟨ak,bS,hE,e6⟩:=hinv;refine aa 0x5f0428439 ?_;refine If (fun gK=>?_) fun gK=>?_
      ·
        obtain⟨kt,off,cells,e,rfl,kS,fN⟩:=db I;obtain⟨v,ar,l,ap,bM,bN,rfl,fc⟩:=fN i I;have aH:addrEq bM bM=true:=fc.addr;have kS:=(aM.trans bS) _ _ kS;have fc:=dz.mono (R':=jC cb) (aM.trans bS) (fun _ _ q=>q.mono (aM.trans bS)) fc;obtain⟨jm,fC,rfl,pA⟩:=hE.tc;have nZ:=dB l (gh ap);have uZ:=hn l (gh ap);obtain⟨jh,kD,nx,Bu⟩:=Lb nZ;have ln:=T9 nZ uZ;have p8:=aoB (Q:=Q) (g0:=g0) (J:=cb) (ps:=iB l) (s:=hg l) (bits:=k) (b:=bM) (c:=bN) (by rw[qt];exact fc.DF nx) (by rw[qt];exact jh) (by rw[qt];exact kD) (s7 nx) I Bu I;rw[qt] at p8;refine aa 0x17d5f57 ?_;refine aB.draw rfl (by kernel_rfl) (aX:=[.val 0,.val 1,.val 2,.val 3,.val 4,.val 5,.val 6,.bD 7,.ir 8,.ca [1,0],.bD 9,.val 10,.bD 11]) (by kernel_rfl) ?_;refine aa 0x5260852d ?_;refine dl rfl (G:=p8) (h:=?_);rintro v' m' fe hle ⟨cq,rfl,cB,cN,rfl,nS⟩;have bJ:addrEq cB cB=true:=nS.addr;have mE:g4 1 (fun _=>dC fun l v=>cJ .i64 fe v l) (d++[.slice cB l.length cN]) ((m.take (i+1)).map (tP k)):=by{rw[ko,ap,xR];exact(e6.mono fun _ _ _ ⟨v,aK,aH⟩=>⟨v,aK,aH.mono cq⟩).app ⟨_,rfl,nS⟩ rfl}
        refine cm.buildSlice rfl rfl rfl rfl rfl rfl (eB rfl) rfl rfl rfl fun Tr=>?_;refine cm.ca ft ?_;refine' cm.pW rfl rfl (ua rfl rfl rfl rfl rfl rfl (eB rfl) (aau Q g0) (fun i q=>by cases q) ?ev ?hm ?U ?dE ?dQ ?aY ?ap fun R1 GK Jz=>?_);case ev=>exact hE
        case hm=>exact(S0 [_,_] a8 [_])
        case U=>exact pB
        case dE=>first|rfl|(simp;done)|(simp;omega)
        case dQ=>first|rfl|exact qg _
        case aY=>exact Nat.one_pos
        case ap=>exact(show i+1<=1000000 by omega)
        obtain⟨jV,fB,rfl⟩:=Jz.qU;refine cm.mN (m':=(fh,.row [.int .i64 (k:Int),.slice jm i fC] 26)::(GK++[(c9,.row [.int .i64 0,.slice none 0 0] 26),(Tr,.row [.slice cB l.length cN] 43)])) anm.symm ?_;refine aa 0xc0861ce38d ?_;refine eH ⟨i+1,.slice jV (i+1) fB,GK,d++[.slice cB l.length cN],fe⟩ ?_ (hm:=.cons_cons _ (Ia (lf [_] [_]) _));exact⟨I,bS.trans cq,Jz,mE⟩
      ·
        obtain rfl:i=m.length:=I
        rw[sO] at e6;refine aa 0x357 ?_;obtain⟨gy,eI,rfl⟩:=hE.qU;refine hE.mo (fH:=[(fh,_),(c9,_)]) (BK (l₁:=a8)).symm (fun l5 ec aj=>?_);have dr:rK l5 gy m.length eI (m.map (tP k)):=⟨⟨d,by rw[eP];exact aj,fun i x U=>by obtain⟨v,aU,aQ⟩:=e6.2 i x U;exact⟨v,aU,aQ.mono ec⟩⟩⟩;refine aa 0x6af817199 ?_;refine bo ?_;first
         |exact l7.bad he bm (af.le.refl _)
         |exact l7.bad he m4 aM
         |exact l7.qW (he.trans mi) (aM.trans (bS.trans ec)) dr
end
abbrev ab0(v:Value)(J:af):Value->aO->af->Prop:=fun w m' ae=>w=v/\m'=[]/\ae=J
theorem dz.tight{J:af}{e:TypeId}{v:Value}{l:List b5}(h:dz J e 3 (Bx J) v l)(hs:qs l):dz J e 3 (jC J) v l:=by
 obtain⟨cs,ab,ad⟩:=h;refine⟨cs,ab,fun i x U=>?_⟩;obtain⟨v1,v2,aU,aQ⟩:=ad i x U;have:=hs x (gh U);exact⟨v1,v2,aU,⟨aQ.n,aQ.d,this.1,this.2⟩⟩
theorem alM{J:af}{b:Option Addr}{n c:Nat}{m:List (List b5)}(h:dz J 42 1 (dC (DV J)) (.slice b n c) m)(hs:∀l∈m,qs l):mZ J b n c m:=by
 obtain⟨cs,ab,ad⟩:=h;refine⟨cs,ab,fun i x U=>?_⟩;obtain⟨v,aU,bs,bp,aQ,bj⟩:=ad i x U;exact⟨v,aU,bs,bp,aQ,bj.tight (hs x (gh U))⟩
theorem anV{m:List (List b5)}{bits:Int}(hm:m.length<=1000)(aq:∀l∈m,l.length<=1000):(yY m bits).length<=1000/\∀l∈yY m bits,l.length<=1000:=by
 unfold yY;split
 ·rename_i h
  have ad:∀l∈m,lA l=0:=by
   unfold qo at h;split at h
   ·cases h
   ·exact(Q' h).2
  refine⟨by rw[eP];exact hm,fun l ap=>?_⟩;obtain⟨x,U,rfl⟩:=pM.1 ap;rw[anU (ad x U)];exact aq x U
 ·exact⟨df _,fun l ap=>by cases ap⟩
theorem aoo{bits:Int}{ts:List (List Int)}(hm:ts.length<=1000):(xo bits ts).length<=1000/\∀l∈xo bits ts,l.length<=1000:=by
 unfold xo;split
 ·rename_i h
  refine⟨by rw[eP];exact hm,fun l ap=>?_⟩;obtain⟨x,U,rfl⟩:=pM.1 ap;have:=Rm ((RM h).2.2 x U);rw[xq];omega
 ·exact⟨df _,fun l ap=>by cases ap⟩
section
variable {Q:cZ Tryz.prog}{g0:Nat}{J:af}
open Classical in
theorem akQ{m:List (List b5)}{ts:List (List Int)}{A' bits:Int}{b b':Option Addr}{c c':Nat}{e:TypeId}(gE:∀J,Fn (aT Q g0) 6 [] [] J (ab0 (.bool true) J))(b1:J 2=some (bW .u8 ms,e))(ax:Nat.blt 2 (aT Q g0).g0=true)
 (h:dz J 42 1 (dC (DV J)) (.slice b m.length c) m)(lq:m.length<=9223372036854775807)(hl:∀l∈m,l.length<=9223372036854775807)
 (gO:dz J 43 1 (dC (pL J)) (.slice b' ts.length c') ts)(F2:ts.length<=9223372036854775807)(uZ:∀l∈ts,l.length<=9223372036854775807):
 Fn (aT Q g0) 3 [.slice b m.length c,.agg #[.int .i64 A',.slice b' ts.length c'],.int .i64 bits] [] J (fun v m' ae=>v=.bool true):=by
 have ly:addrEq b b=true:=h.addr;have Rd:addrEq b' b'=true:=gO.addr;refine Fn.b8 (b7 Tryz.func3) rfl rfl fun H=>?_;refine rg ?_;refine gZ fun c9=>?_;refine aa 0x302 ?_;refine dN [0,2,4] ?_;refine a' ?_;refine' aB.fD 0 [(21,.bool (decide ((HN m\/Ey ts))))] ?kM ?kP;case kM=>
  refine aa 0x3a ?_;refine br (G:=arm h lq hl) (h:=?_);rintro v' m' ae hle ⟨rfl,rfl,rfl⟩;refine eT V.k2 ?_;refine fs 18 (fun Fc=>?_) fun Fc=>?_
  ·refine aa 0xc23fb ?_;refine dO (dS ?_);first|(simp_all;done)
  ·refine Iw V.W9 ?_;refine vV (G:=acR gO F2 uZ) (h:=?_);rintro v' m' ae hle ⟨rfl,rfl,rfl⟩;refine aa 0x308 ?_;refine dO (dS ?_);first|(simp_all;done)
 case kP=>
  refine a' ?_;refine If (fun j'=>?_) fun j'=>?_
  ·refine rg ?_;refine br (G:=gE _) (h:=?_);rintro v' m' ae hle ⟨rfl,rfl,rfl⟩;refine aa 0xd5f02 ?_;refine bo ?_;exact rfl
  ·obtain⟨bt,cv⟩:=arl (fun q=>j' (.inl q));obtain⟨eO,tY⟩:=acQ (fun q=>j' (.inr q));have lD:∀l∈m,qs l/\l.length<=15:=fun l ap=>iF (cv l ap);have iw:=alM h fun l ap=>(lD l ap).1;have p5:m.length<=1000:=I
   have h1:∀l∈m,l.length<=1000:=fun l ap=>by have:=(lD l ap).2;omega
   have pf:ts.length<9223372036854775807:=I
   have n1:∀l∈ts,l.length<9223372036854775807:=fun l ap=>by have:=tY l ap;omega
   obtain⟨s1,s2⟩:=anV (bits:=bits) p5 h1;obtain⟨fQ,k6⟩:=aoo (bits:=A') (ts:=ts) I;obtain⟨z,aG⟩:∃z,z=(if qo m bits=0 then bits else 0):=⟨_,rfl⟩;refine aa 0xe757 ?_;refine br (G:=anc iw p5 h1) (h:=?_);rintro v' m' bi hle ⟨aM,rfl,bs,bp,rfl,uP⟩;have aK:addrEq bs bs=true:=uP.addr;have U':=iw.mono aM;refine aa 0x10e702 ?_;refine br (G:=an2 (aM _ _ b1) ax uP p5 h1) (h:=?_);rintro v' m' de hle ⟨a9,rfl,bM,bN,rfl,dr⟩;have aH:addrEq bM bM=true:=dr.addr;rw[<-aG];have nX:=aM.trans a9;refine aa 0x1ce1 ?_;refine gn fun j7=>?_;refine aa 0x21ce05c ?_;refine br (G:=an1 (U'.mono a9) p5 h1) (h:=?_);rintro v' m' fe hle ⟨cq,rfl,cB,cN,rfl,hh⟩;have bJ:addrEq cB cB=true:=hh.addr;rw[<-aG];have pa:=nX.trans cq;have Ve:=dz.mono (R':=dC (pL fe)) pa (fun _ _ ⟨v,aU,aQ⟩=>⟨v,aU,aQ.mono pa⟩) gO;refine aa 0x1ce1 ?_;refine gn fun rL=>?_;refine aa 0xcce05c ?_;refine br (G:=aor (pa _ _ b1) ax Ve pf n1) (h:=?_);rintro v' m' l5 hle ⟨ec,rfl,ep,e',rfl,gP⟩;have dU:addrEq ep ep=true:=gP.addr;have Vf:=dz.mono (R':=dC (pL l5)) ec (fun _ _ ⟨v,aU,aQ⟩=>⟨v,aU,aQ.mono ec⟩) Ve;refine aa 0x6670211ce1 ?_;refine br (G:=aoq Vf pf n1) (h:=?_);rintro v' m' qB hle ⟨ga,rfl,fw,gz,rfl,cK⟩;have fP:addrEq fw fw=true:=cK.addr;have ahI:=dz.mono (R':=dC (pL qB)) ga (fun _ _ ⟨v,aU,aQ⟩=>⟨v,aU,aQ.mono ga⟩) Vf;have O0:=(cq.trans ec).trans ga;have Vc:=uP.mono (a9.trans O0);have Va:=U'.mono (a9.trans O0);refine aa 0x5f0211ce1 ?_;refine aB.draw rfl (by kernel_rfl) (aX:=[.val 0,.val 1,.bD 2,.val 3,.val 4,.val 5,.val 6,.val 7,.val 8,.val 9,.val 10,.bD 11,.val 12,.val 13,.val 14,.val 15,.val 16,.val 17,.val 18,.val 19,.val 21,.bD 20,.ca [21],.bD 22,.val 23,.val 24,.val 25,.val 26,.val 28,.bD 27,.ca [28],.bD 29,.val 30,.val 31,.val 32,.val 33,.val 34,.bD 35,.val 36,.val 37,.bD 38,.val 39,.val 40]) (by kernel_rfl) ?_
   refine aa 0x319e ?_;refine' bh.dV rfl rfl rfl rfl rfl rfl rfl rfl rfl dt (aoR (dr.mono O0) (hh.mono (ec.trans ga)) s1 s2) ?_;rintro v' m' ae hle ⟨rfl,rfl,rfl⟩;refine aa 0x20421 ?_;rw[g7 (show qo m bits=qo m bits from rfl)];refine aa 0x8428 ?_;refine' bh.x2 rfl rfl rfl rfl rfl rfl rfl rfl rfl rfl (cF (dh rfl) dt) (ZC (gP.mono ga) cK fQ k6) ?_;rintro v' m' BF hle ⟨h0,rfl,rfl⟩;refine aa 0x408428 ?_;rw[g7 (show nv A' ts=nv A' ts from rfl)];refine aa 0x8428 ?_;refine' bh.x2 rfl rfl rfl rfl rfl rfl rfl rfl rfl rfl (cF (dh rfl) (cF (dh rfl) dt)) (anH ((pa.trans ((ec.trans ga).trans h0)) _ _ b1) ax (Vc.mono h0) p5 h1) ?_;rintro v' m' xQ hle ⟨iQ,rfl,rfl⟩;refine bh.ca ft ?_;refine' bh.x2 rfl rfl rfl rfl rfl rfl rfl rfl rfl rfl (cF (dh rfl) (cF (dh rfl) (cF (dh rfl) dt))) (YL ((Va.mono h0).mono iQ) p5 h1) ?_;rintro v' m' vD hle ⟨g9,rfl,rfl⟩;have FJ:=(h0.trans iQ).trans g9;have Vg:=dz.mono (R':=dC (pL vD)) FJ (fun _ _ ⟨v,aU,aQ⟩=>⟨v,aU,aQ.mono FJ⟩) ahI;refine bh.HG rfl rfl rfl rfl rfl V.Lv ?_;rw[g7 (show mn m=mn m from rfl)];refine aa 0x63028 ?_;refine' bh.x2 rfl rfl rfl rfl rfl rfl rfl rfl rfl rfl (cF (dh rfl) (cF (dh rfl) (cF (dh rfl) (cF (dh rfl) dt)))) (aag Vg pf n1) ?_;rintro v' m' ae hle ⟨rfl,rfl,rfl⟩;refine bh.ca ft ?_;refine' bh.x2 rfl rfl rfl rfl rfl rfl rfl rfl rfl rfl (cF (dh rfl) (cF (dh rfl) (cF (dh rfl) (cF (dh rfl) (cF (dh rfl) dt))))) (aaf Vg pf n1) ?_;rintro v' m' ae hle ⟨rfl,rfl,rfl⟩;refine bh.HG rfl rfl rfl rfl rfl V.Lv ?_;rw[g7 (show nv A' ts=nv A' ts from rfl)];refine aa 0x8428 ?_;refine' bh.x2 rfl rfl rfl rfl rfl rfl rfl rfl rfl rfl (cF (dh rfl) (cF (dh rfl) (cF (dh rfl) (cF (dh rfl) (cF (fun _ _=>Eh.hs FJ rfl) (cF (dh rfl) dt)))))) (ZC (Vc.mono FJ) (Va.mono FJ) p5 h1) ?_
   rintro v' m' rE hle ⟨hi,rfl,rfl⟩;refine aa 0x28 ?_;refine' bh.x2 rfl rfl rfl rfl rfl rfl rfl rfl rfl rfl (cF (dh rfl) (cF (dh rfl) (cF (dh rfl) (cF (dh rfl) (cF (dh rfl) (cF (dh rfl) (cF (dh rfl) dt))))))) (gE _) ?_;rintro v' m' ae hle ⟨rfl,rfl,rfl⟩;refine aa 0x357c091e ?_;refine bo ?_;exact rfl
end
end
end Go.Opn
namespace Go.Opn
noncomputable section
open Go Go.Cre Go.RowKit Go.Proofs
def QP:List Int:=[0,1,56,2,57,49,28,3,61,58,42,50,38,29,17,4,62,47,59,36,45,43,51,22,53,39,33,30,24,18,12,5,63,55,48,27,60,41,37,16,46,35,44,21,52,32,23,11,54,26,40,15,34,20,31,10,25,14,19,9,13,8,7,6]
def adD:List Value:=QP.map fun z=>Value.int .u8 z
def aad:List (Nat×TypeId×List Value):=[(2,201,adD)]
def H0:an:=UK 3 2 aad
theorem ald:isTrue ((uJ Tryz.prog (Ck Tryz.prog) 10000).body 6 [] false .run H0)=true:=by kernel_rfl
end
end Go.Opn
namespace Go.Opn
noncomputable section
open Go Go.Cre Go.RowKit
section
variable {H:Type}{P:Program}{enc:TypeId×Value->H}{W:World}{fuel:Nat}{t e:TypeId}{cs:List Value}{x:DataW H×List MemPlace}
theorem EX{α:Type}{sz:Nat}{R:α->List Value->Prop}(aJ:P.underlying t=some (.slice e))(dF:P.cellsOf e=sz)(aN:0<sz)(h:oN enc P W fuel t cs=some x)
 (aq:∀m cy y,oN enc P W m e cy=some y->∃a:α,R a (cy.map (gx P W))):
 ∃(xs:List α) (b:Option Addr) (c:Nat),cs.map (gx P W)=[.slice b xs.length c]/\dz (kW P W) e sz R (.slice b xs.length c) xs/\xs.length<=maxLen:=by
 obtain⟨b,n,c,rows,el,ds,m,ab,_,aL,a6,fb,fX,na,Cp⟩:=apd aJ dF aN h;have pb:∀i:Fin n,∃a:α,R a (((rows.map (gx P W)).drop (i.1*sz)).take sz):=fun i=>by
  obtain⟨aK,aH,y,bJ,dU⟩:=fX i.1 _ (dX (show i.1<el.length by have:=i.2;omega));obtain⟨a,r⟩:=aq _ _ _ dU;refine⟨a,?_⟩;rw[<-SV,<-BJ,aH];exact r
 refine⟨List.ofFn fun i=>Classical.choose (pb i),b,c,by rw[SS];exact ab,⟨rows.map (gx P W),by rw[SS];exact aL e,fun i a aF=>?_⟩,by rw[SS];exact Cp⟩;have ak:i<n:=by have:=(gS.1 aF).1;simpa using this
 rw[List.getElem?_ofFn,dif_pos ak] at aF;injection aF with aF
 rw[<-aF];exact Sv (pb ⟨i,ak⟩)
end
end
end Go.Opn
namespace Go.Cre
noncomputable section
end
end Go.Cre
namespace Go.Opn
noncomputable section
open Go Go.Cre Go.RowKit Go.Proofs Go.ChangeShapes Go.WideShapes Go.ChangeAt
open Go.Proofs.YtlgjlbpafcifoaaGreatDoor
abbrev PP:=Tryz.prog
theorem tV:PP.underlying 3=some (.int .i64):=by kernel_rfl
theorem aas:PP.underlying 23=some (.slice 42):=by kernel_rfl
theorem aql:PP.underlying 42=some (.slice 47):=by kernel_rfl
theorem aqn:PP.underlying 45=some (.slice 96):=by kernel_rfl
theorem aqo:PP.underlying 96=some (.int .u32):=by kernel_rfl
theorem aqk:PP.underlying 24=some (.slice 43):=by kernel_rfl
theorem aqm:PP.underlying 43=some (.slice 3):=by kernel_rfl
theorem Be:PP.underlying 4=some .bool:=by kernel_rfl
theorem MQ:PP.cellsOf 96=1:=by kernel_rfl
theorem e':PP.cellsOf 4=1:=by kernel_rfl
theorem BZ:PP.cellsOf 45=1:=by kernel_rfl
theorem TS:PP.cellsOf 47=3:=by kernel_rfl
theorem EE:PP.cellsOf 42=1:=by kernel_rfl
theorem zG:PP.cellsOf 43=1:=by kernel_rfl
theorem zC:PP.cellsOf 24=1:=by kernel_rfl
theorem iv:PP.cellsOf 26=2:=by kernel_rfl
theorem aoO:DJ PP 47=some 3:=by kernel_rfl
theorem Zz:DJ PP 26=some 2:=by kernel_rfl
theorem agc:zX PP 47 0=some (4,0):=by kernel_rfl
theorem agd:zX PP 47 1=some (45,1):=by kernel_rfl
theorem age:zX PP 47 2=some (45,2):=by kernel_rfl
theorem aga:zX PP 26 0=some (3,0):=by kernel_rfl
theorem agb:zX PP 26 1=some (24,1):=by kernel_rfl
theorem cN:PP.cellsOf 3=1:=by kernel_rfl
theorem ako{P:Program}{W:World}{base:Nat}{t:TypeId}{v:Value}{k:IntKind}(hu:P.underlying t=some (.int k))(h:Value.okWide P W .any base t v):v.cells.toList=[v]:=by
 unfold Value.okWide at h;rw[hu] at h;simp only at h;unfold Cell.okWide at h;rw[hu] at h;cases v with
 |agg cs=>simp[Cell.ok,hu] at h
 |_=>rfl
theorem trodAll_three{H:Type}{enc:TypeId×Value->H}{P:Program}{w:World}{base:Nat}{spare:Nat->Bool}{held:Bool}{t0 t1 t2:TypeId}{args:Array Value}{ds:List (DataW H)}{ps:List MemPlace}(h:DataW.TrodAll enc P w base spare held [t0,t1,t2] args.toList ds ps):
 ∃v0 v1 v2 d0 d1 d2 ic cP gW,args=#[v0,v1,v2]/\ds=[d0,d1,d2]/\ps=ic++cP++gW/\DataW.Trod enc P w base spare held t0 v0 d0 ic/\DataW.Trod enc P w base spare held t1 v1 d1 cP/\DataW.Trod enc P w base spare held t2 v2 d2 gW:=by
 obtain⟨v0,aaS,d0,asD,ic,hT,aF,rfl,rfl,aN,h⟩:=trodAll_cons h;obtain⟨v1,ara,d1,uF,cP,aK,rfl,rfl,rfl,ab,h⟩:=trodAll_cons h;obtain⟨v2,auP,d2,asE,gW,aH,rfl,rfl,rfl,ad,h⟩:=trodAll_cons h;obtain⟨rfl,rfl,rfl⟩:=trodAll_nil h;exact⟨v0,v1,v2,d0,d1,d2,ic,cP,gW,by cases args;simp_all,rfl,by simp,aN,ab,ad⟩
theorem apb{P:Program}{W:World}{base:Nat}{t e:TypeId}{v:Value}(hu:P.underlying t=some (.slice e))(h:Value.okWide P W .any base t v):v.cells.toList=[v]:=by
 unfold Value.okWide at h;rw[hu] at h;simp only at h;unfold Cell.okWide at h;rw[hu] at h;cases v with
 |agg cs=>simp[Cell.ok,hu] at h
 |_=>rfl
theorem aoE{W:World}{g:Nat}{t:TypeId}{f:Nat×Nat}(h:W.heap[g]?=some (.cells (bW .u8 ms).toArray t f)):kW PP W g=some (bW .u8 ms,t):=by
 show tS PP W g=_;rw[La (Rl h)];have e:(bW .u8 ms).toArray.toList.map (gx PP W)=bW .u8 ms:=by
  unfold bW;rw[List.toList_toArray,SW];exact List.map_congr_left fun b _=>El rfl
 rw[e]
theorem ak9{H:Type}{enc:TypeId×Value->H}{P:Program}{W:World}{fuel:Nat}{t:TypeId}{cs:List Value}{x:DataW H×List MemPlace}(aJ:P.underlying t=some (.int .u32))(h:oN enc P W fuel t cs=some x):∃y:Nat,cs.map (gx P W)=[.int .u32 (y:Int)]:=by
 obtain⟨i,rfl,_,u3⟩:=DataW.trod_int aJ h;have aq:0<=i:=by
  have u3:(decide (IntKind.u32.min<=i)&&decide (i<=IntKind.u32.max))=true:=u3;rw[gg] at u3;exact G3 u3.1
 exact⟨i.toNat,by rw[uj,El rfl,show((i.toNat:Nat):Int)=i by omega];rfl⟩
theorem amj{J:af}{e:TypeId}{v:Value}{l:List Nat}(h:dz J e 1 (fun(z:Nat) cs=>cs=[.int .u32 (z:Int)]) v l):cJ .u32 J v l:=by
 obtain⟨cs,ab,ad⟩:=h;refine⟨e,?_⟩;have ap:=ab.len;have aw:cs=bW .u32 l:=by
  refine D3 fun i=>?_;by_cases ak:i<l.length
  ·have aL:=ad i _ (dX ak);have a6:((cs.drop (i*1)).take 1)[0]?=cs[i]?:=by rw[iH,a2 I,oX,gJ,ik]
   rw[aL] at a6;rw[<-a6,KL (dX ak)];rfl
  ·rw[oe I,oe (by rw[qj];omega)]
 rw[<-aw];exact ab
theorem X5{H:Type}{enc:TypeId×Value->H}{W:World}{fuel:Nat}{cs:List Value}{x:DataW H×List MemPlace}(h:oN enc PP W fuel 45 cs=some x):∃(l:List Nat) (b:Option Addr) (c:Nat),cs.map (gx PP W)=[.slice b l.length c]/\cJ .u32 (kW PP W) (.slice b l.length c) l:=by
 obtain⟨l,b,c,ab,ad,_⟩:=EX (α:=Nat) (R:=fun z cs=>cs=[.int .u32 (z:Int)]) aqn MQ Nat.one_pos h fun m cy y au=>ak9 aqo au;exact⟨l,b,c,ab,amj ad⟩
theorem an'{H:Type}{enc:TypeId×Value->H}{W:World}{fuel:Nat}{cs:List Value}{x:DataW H×List MemPlace}(h:oN enc PP W fuel 47 cs=some x):∃a:b5,Bx (kW PP W) a (cs.map (gx PP W)):=by
 obtain⟨n,ap,aA⟩:=Z3 aoO h;rw[TS] at ap;obtain⟨k',aN,_⟩:=aA 0 4 0 1 bm agc e';obtain⟨jh,ab,_⟩:=aA 1 45 1 1 bm agd BZ;obtain⟨kD,ad,_⟩:=aA 2 45 2 1 bm age BZ
 match cs,ap,aN,ab,ad with
 |[p,q,r],_,aN,ab,ad=>
  obtain⟨fj,jX⟩:∃fj:Bool,[p]=[Value.bool fj]:=by
   obtain⟨fj,e,_⟩:=DataW.trod_bool Be aN;exact⟨fj,e⟩
  obtain⟨dL,bs,bp,aw,aU⟩:=X5 ab;obtain⟨du,bM,bN,aR,aQ⟩:=X5 ad;injection jX with jX _
  subst jX;refine⟨⟨fj,dL,du⟩,.slice bs dL.length bp,.slice bM du.length bN,?_,⟨aU,aQ⟩⟩;have aw:gx PP W q=.slice bs dL.length bp:=by have:[gx PP W q]=[.slice bs dL.length bp]:=aw;injection this
  have aR:gx PP W r=.slice bM du.length bN:=by have:[gx PP W r]=[.slice bM du.length bN]:=aR;injection this
  show[gx PP W (.bool fj),gx PP W q,gx PP W r]=_;rw[aw,aR,El rfl]
theorem aq6{H:Type}{enc:TypeId×Value->H}{W:World}{fuel:Nat}{cs:List Value}{x:DataW H×List MemPlace}(h:oN enc PP W fuel 42 cs=some x):∃(l:List b5) (b:Option Addr) (c:Nat),cs.map (gx PP W)=[.slice b l.length c]/\dz (kW PP W) 47 3 (Bx (kW PP W)) (.slice b l.length c) l/\l.length<=9223372036854775807:=by
 obtain⟨l,b,c,ab,ad,aL⟩:=EX (α:=b5) (R:=Bx (kW PP W)) aql TS bm h fun m cy y au=>an' au;have lq:maxLen=9223372036854775807:=by decide
 exact⟨l,b,c,ab,ad,I⟩
theorem Uv{α:Type}{J:af}{e:TypeId}{sz:Nat}{R:α->List Value->Prop}{P:α->Prop}{v:Value}{xs:List α}(h:dz J e sz (fun x cs=>R x cs/\P x) v xs):dz J e sz R v xs/\∀x∈xs,P x:=by
 obtain⟨cs,ab,ad⟩:=h;refine⟨⟨cs,ab,fun i x U=>(ad i x U).1⟩,fun x U=>?_⟩;obtain⟨i,ak⟩:=Ih U;exact(ad i x ak).2
theorem akn{J:af}{e:TypeId}{v:Value}{l:List Int}(h:dz J e 1 (fun(z:Int) cs=>cs=[.int .i64 z]) v l):mY J v l:=by
 obtain⟨cs,ab,ad⟩:=h;refine⟨e,?_⟩;have ap:=ab.len;have aw:cs=l.map (Value.int .i64):=by
  refine D3 fun i=>?_;by_cases ak:i<l.length
  ·have aL:=ad i _ (dX ak);have a6:((cs.drop (i*1)).take 1)[0]?=cs[i]?:=by rw[iH,a2 I,oX,gJ,ik]
   rw[aL] at a6;rw[<-a6,j6,dX ak];rfl
  ·rw[oe I,oe (by rw[eP];omega)]
 rw[<-aw];exact ab
section
variable {H:Type}{enc:TypeId×Value->H}{W:World}{fuel:Nat}{cs:List Value}{x:DataW H×List MemPlace}
theorem alz(h:oN enc PP W fuel 23 cs=some x):∃(m:List (List b5)) (b:Option Addr) (c:Nat),cs.map (gx PP W)=[.slice b m.length c]/\dz (kW PP W) 42 1 (dC (DV (kW PP W))) (.slice b m.length c) m/\m.length<=9223372036854775807/\∀l∈m,l.length<=9223372036854775807:=by
 obtain⟨m,b,c,ab,ad,aL⟩:=EX (α:=List b5) (R:=fun l cs=>dC (DV (kW PP W)) l cs/\l.length<=9223372036854775807) aas EE Nat.one_pos h fun n cy y au=>by
  obtain⟨l,b,c,aU,aQ,bj⟩:=aq6 au;exact⟨l,⟨_,aU,b,c,rfl,aQ⟩,bj⟩
 have lq:maxLen=9223372036854775807:=by decide
 obtain⟨a6,fb⟩:=Uv ad;exact⟨m,b,c,ab,a6,I,fb⟩
theorem aoH(h:oN enc PP W fuel 24 cs=some x):∃(m:List (List Int)) (b:Option Addr) (c:Nat),cs.map (gx PP W)=[.slice b m.length c]/\dz (kW PP W) 43 1 (dC (pL (kW PP W))) (.slice b m.length c) m/\m.length<=9223372036854775807/\∀l∈m,l.length<=9223372036854775807:=by
 have lq:maxLen=9223372036854775807:=by decide
 obtain⟨m,b,c,ab,ad,aL⟩:=EX (α:=List Int) (R:=fun l cs=>dC (pL (kW PP W)) l cs/\l.length<=9223372036854775807) aqk zG Nat.one_pos h fun n cy y au=>by
  obtain⟨l,b,c,aU,aQ,bj⟩:=EX (α:=Int) (R:=fun(z:Int) cs=>cs=[.int .i64 z]) aqm cN Nat.one_pos au fun n cy y au=>by
   obtain⟨i,_,k⟩:=P3 tV au;exact⟨i,k⟩
  exact⟨l,⟨_,aU,akn aQ⟩,I⟩
 obtain⟨a6,fb⟩:=Uv ad;exact⟨m,b,c,ab,a6,I,fb⟩
theorem ap1(h:oN enc PP W fuel 26 cs=some x):∃(z:Int) (m:List (List Int)) (b:Option Addr) (c:Nat),cs.map (gx PP W)=[.int .i64 z,.slice b m.length c]/\dz (kW PP W) 43 1 (dC (pL (kW PP W))) (.slice b m.length c) m/\m.length<=9223372036854775807/\∀l∈m,l.length<=9223372036854775807:=by
 obtain⟨n,ap,aA⟩:=Z3 Zz h;rw[iv] at ap;obtain⟨k',aN,_⟩:=aA 0 3 0 1 bm aga cN;obtain⟨jh,ab,_⟩:=aA 1 24 1 1 bm agb zC
 match cs,ap,aN,ab with
 |[p,q],_,aN,ab=>
  obtain⟨z,_,jX⟩:=P3 tV aN;obtain⟨m,b,c,aw,aU,aQ,bj⟩:=aoH ab;refine⟨z,m,b,c,?_,aU,aQ,bj⟩;have jX:gx PP W p=.int .i64 z:=by have:[gx PP W p]=[.int .i64 z]:=jX;injection this
  have aw:gx PP W q=.slice b m.length c:=by have:[gx PP W q]=[.slice b m.length c]:=aw;injection this
  show[gx PP W p,gx PP W q]=_;rw[jX,aw]
end
theorem acu{P:Program}{W:World}{base:Nat}{t:TypeId}{v:Value}{k:Nat}(hk:DJ P t=some k)(h:Value.okWide P W .any base t v):∃cs,v=.agg cs:=by
 unfold DJ at hk;split at hk
 ·rename_i hO hu;unfold Value.okWide at h;rw[hu] at h;obtain⟨cs,q,_⟩:=h;exact⟨cs,q⟩
 ·cases hk
open Go.Proofs.YtlgjlbpafcifoaaGreatDoor
theorem own:ownKnob Tryz.prog.godebug=none:=by kernel_rfl
theorem NQ:Tryz.prog.globalNamed "math/bits.deBruijn64tab"=some 2:=by kernel_rfl
theorem agE:(Tryz.prog.globals[2]?).map (·.type)=some 201:=by kernel_rfl
theorem agF:Tryz.prog.underlying 201=some (.array 64 5):=by kernel_rfl
theorem agC:Tryz.prog.underlying 5=some (.int .u8):=by kernel_rfl
theorem agD:Tryz.prog.cellsOf 5=1:=by kernel_rfl
theorem agB:Tryz.prog.cellsOf 201=64:=by kernel_rfl
theorem US:(((begin Tryz.prog (fun _ _=>0) default).world.heap[2]?).bind Obj.row?).map (·.2)=some 201:=by kernel_rfl
theorem UR:2<Tryz.prog.globals.size:=by decide+kernel
theorem tables{W:World}(h:laidMetH Tryz.prog Rows.tableTurnsRow.laid W):Lib.TabIs Tryz.prog W "math/bits.deBruijn64tab" .u8 QP:=by
 have aN:laidMet Tryz.prog [("math/bits.deBruijn64tab",Lib.tabData .u8 QP)] W:=h;exact Lib.tabIs_of_head NQ agE agF agC agD agB aN
theorem first{W:World}(h:laidMetH Tryz.prog Rows.tableTurnsRow.laid W)(hs:W.ShapedOpen Tryz.prog):Laid Tryz.prog W H0:=by
 refine akN fun g e cells hm=>?_;have aJ:=tables h;simp only[aad,fU,dm,Ik,or_false] at hm;obtain⟨rfl,rfl,rfl⟩:=hm;exact⟨by decide,W4 NQ UR US hs aJ,by kernel_rfl,by decide+kernel⟩
theorem ale:∃c,Tryz.f6.body=some c:=⟨_,rfl⟩
theorem akP:∃c,Tryz.f3.body=some c:=⟨_,rfl⟩
theorem laidOut:laidOutB Tryz.prog=true:=by kernel_rfl
theorem aog:∀t∈Tryz.f3.params.toList,PP.readableRec t=true/\t<PP.types.size:=by
 intro t aJ;rw[Tryz.params3] at aJ;simp only[fU,Ik,or_false] at aJ;rcases aJ with rfl|rfl|rfl<;>exact⟨by kernel_rfl,G3 (by kernel_rfl)⟩
set_option maxRecDepth 100000 in
theorem aef(H:Type)(enc:TypeId×Value->H)(W:World)(base:Nat)(args:Array Value)(ds gs:List (DataW H))(before:List MemPlace)
 (mK:∀(j:Nat) t v,Tryz.f3.params[j]?=some t->args[j]?=some v->Value.okWide Tryz.prog W .any base t v)
 (gE:DataW.Whole enc Tryz.prog Tryz.f3.params.toList Rows.tableTurnsSpec.vars false W args.toList ds gs before)
 (aG:(DataW.weightsEach Tryz.prog Tryz.f3.params.toList ds).all (·<=reachBytes)=true)
 (a4:laidMetH Tryz.prog Rows.tableTurnsRow.laid W)(aj:W.ShapedOpen Tryz.prog):
 Calls Tryz.prog 3 args W fun e nH=>∃v,e=.returned v/\Rows.tableTurnsSpec.post enc Tryz.prog Tryz.f3 false true false false W args v nH:=by
 have Of:=gE;obtain⟨p,q,gq,jo,rfl,OL,dP⟩:=gE;have ez:DataW.TrodAll enc Tryz.prog W 0 (fun _=>true) true Tryz.f3.params.toList args.toList ds p:=gq;obtain⟨rfl,rfl⟩:=trodVars_none jo;rw[Tryz.params3] at ez mK aG;obtain⟨v0,v1,v2,d0,d1,d2,ic,cP,gW,rfl,rfl,rfl,⟨Qx,t0⟩,⟨d',t1⟩,⟨ej,t2⟩⟩:=trodAll_three ez;have kT:=apb aas (mK 0 23 v0 rfl rfl);obtain⟨a7,rfl⟩:=acu Zz (mK 1 26 v1 rfl rfl);have gQ:=ako tV (mK 2 3 v2 rfl rfl);rw[kT] at t0;rw[gQ] at t2;obtain⟨l,s0,W1,jX,ap,iX,aiT⟩:=alz t0;obtain⟨z,k,IP,u',aw,hk,lN,aiM⟩:=ap1 t1;obtain⟨i2,_,aR⟩:=P3 tV t2;simp at jX aR;obtain⟨qO,tn⟩:=ale;obtain⟨x4,ln⟩:=akP;have VF:=first a4 aj;obtain⟨e5,Y1⟩:=W4 NQ UR US aj (tables a4);have lt:=(LK.1 Y1).1
 have b3:=akQ (Q:=R6 Tryz.prog H0) (g0:=W.heap.size) (J:=kW PP W) (m:=l) (ts:=k) (A':=z) (bits:=i2) (b:=s0) (b':=IP) (c:=W1) (c':=u')
  (fun J=>Fn.closed (K:=aT (R6 Tryz.prog H0) W.heap.size) (H0:=H0) rfl Tryz.func6 tn (fun _ _ h=>h) (fun w h=>ad5 (YG qi num) Tryz.func6 tn h ald))
  (aoE Y1) (by simpa[Nat.blt,vK] using lt) ap iX aiT hk lN aiM
 have FZ:bT (pq PP W) [.slice s0 l.length W1,.agg #[.int .i64 z,.slice IP k.length u'],.int .i64 i2] (#[v0,.agg a7,v2]:Array Value).toList:=by
  have hT:=IE (P:=PP) (w:=W) v0;have aK:bg (pq PP W) (.agg #[.int .i64 z,.slice IP k.length u']) (.agg a7):=by
   have:=bg.Em (μ:=pq PP W) (l:=a7.toList.map (gx PP W)) (l':=a7.toList) ⟨by simp,fun i v v' x y=>by
    rw[j6,y] at x;injection x with x;subst x;exact IE v'⟩
   rw[show a7.toList.map (gx PP W)=_ from aw] at this;exact this
  rw[jX] at hT;have aH:=IE (P:=PP) (w:=W) v2;rw[aR] at aH;exact .cons hT (.cons aK (.cons aH (.nil _)))
 refine(am5 (K:=aT (R6 Tryz.prog H0) W.heap.size) (w:=W) (b:=true) ⟨VF,VF.aki⟩ rfl Tryz.func3 ln FZ b3).mono fun e nH bI=>?_;obtain⟨he,ai⟩:=bI;subst he;exact⟨_,rfl,anC Of ai laidOut aog rfl rfl rfl (fun _ _ _=>trodAll_cons_mk (shut_bool Tryz.underlying4 _) trodAll_mk0)⟩
def Qb (os:Os):World:=World.doorLaid Tryz.prog 400 os
def II:Array Value:=#[.slice none 0 0,.agg #[.int .i64 0,.slice none 0 0],.int .i64 0]
def aev{H:Type}:List (DataW H):=[.nil,.agg [.lit (.int .i64 0),.nil],.lit (.int .i64 0)]
theorem akM(os:Os):laidMetH Tryz.prog Rows.tableTurnsRow.laid ((Qb os).forCall (fun _ _=>0) ⟨#[],II,[]⟩).memory:=
 laidMetH_of_parts3 (fuel:=8) (laidMet_of_run' 8 (by kernel_rfl) (by kernel_rfl)) (by kernel_rfl) (by kernel_rfl)
theorem reads(os:Os){H:Type}(enc:TypeId×Value->H):∃places,DataW.whole enc Tryz.prog ((Qb os).forCall (fun _ _=>0) ⟨#[],II,[]⟩).memory Tryz.f3.params.toList Rows.tableTurnsSpec.vars false II.toList 8=some (aev,[],places):=
 ⟨[],by kernel_rfl⟩
set_option maxRecDepth 100000 in
theorem lifted(os:Os)(started:os.Started)(H:Type)(enc:TypeId×Value->H)(F:Stop.Interp):
 ReturnsInHanded {} Tryz.checked os 3 .any ((OpenSpec.ofChange Rows.tableTurnsSpec).preRow enc Tryz.prog Tryz.f3 Rows.tableTurnsRow.domain false Rows.tableTurnsRow.laid) (((OpenSpec.ofChange Rows.tableTurnsSpec).at F).post enc Tryz.prog Tryz.f3 false true false false):=by
 obtain⟨places,U⟩:=reads os enc
 refine returnsInHanded_of_row (C:=Tryz.checked) (s:=OpenSpec.ofChange Rows.tableTurnsSpec) own started (by kernel_rfl) Tryz.func3
  (witness_row_at (enc:=enc) (C:=Tryz.checked) false (Qb os) II rfl (by kernel_rfl) (by kernel_rfl) (by kernel_rfl)
   (OpenSpec.preRow_of_cond 8 U (by kernel_rfl) (fun k hk=>by cases hk) (by kernel_rfl) (akM os))) ?_
 intro W base args ds gs before mK gE _ _ aG a4 aj _;have ax:gs=[]:=by
  obtain⟨p,q,_,jo,_⟩:=gE;exact(trodVars_none jo).1
 subst ax;refine aef H enc W base args ds [] before mK gE ?_ a4 aj;have r':(OpenSpec.ofChange Rows.tableTurnsSpec).bare.plain.varTypes Tryz.checked.prog=[]:=by kernel_rfl
 rw[r',ij,ij] at aG;exact aG
theorem said:Rows.TableTurnsSaid:=
 OpenClaim.holds_of_cond 3 Tryz.f3 rfl rfl rfl rfl rfl rfl rfl ⟨rfl,rfl,rfl,rfl,rfl⟩ rfl rfl rfl rfl rfl (by kernel_rfl) Tryz.func3 (by kernel_rfl)
  (G3 (by kernel_rfl)) (by unfold Func.isWrapper;first|(rw[a2 (by decide+kernel)];kernel_rfl)|(rw[aZ (by decide+kernel)];exact⟨rfl,rfl⟩))
  (fun os started H enc _ F=>by rw[OpenClaim.pre_eq_preRow];exact lifted os started H enc F)
theorem apI:Tryz.prog.wantsStandIn 23=false:=by kernel_rfl
theorem apJ:Tryz.prog.wantsStandIn 26=false:=by kernel_rfl
theorem apK:Tryz.prog.wantsStandIn 3=false:=by kernel_rfl
theorem n9(f:FuncId)(fn:Func)(aA:Tryz.pinned.checked.prog.funcNamed "parlour/parlourlaw31.TableTurns"=some f)(CD:Tryz.pinned.checked.prog.funcs[f]?=some fn):
 true=Tryz.pinned.checked.prog.looks []/\∀(j:Nat) t,fn.params[j]?=some t->Tryz.pinned.checked.prog.wantsStandIn t=false:=by
 obtain rfl:f=3:=sS ((show Tryz.prog.funcNamed "parlour/parlourlaw31.TableTurns"=some 3 by kernel_rfl).symm.trans aA) |>.symm
 obtain rfl:fn=Tryz.f3:=(sS (Tryz.func3.symm.trans CD)).symm;refine⟨by kernel_rfl,fun j t aJ=>?_⟩;rw[Tryz.params3] at aJ
 match j,aJ with
 |0,aJ=>simp at aJ;subst aJ;exact apI
 |1,aJ=>simp at aJ;subst aJ;exact apJ
 |2,aJ=>simp at aJ;subst aJ;exact apK
 |j+3,aJ=>simp at aJ
theorem card:Rows.TableTurnsCardSaid:=
 Claim7.holds_tied_plain_at .later [] _ _ _ _ said (fun _ h=>by cases h) (by kernel_rfl) (fun _ h=>by cases h) tableTurns_row_tie rfl ⟨rfl,rfl⟩ (by kernel_rfl) rfl n9 (by kernel_rfl)
end
end Go.Opn
namespace Go.Proofs.YtlgjlbpafcifoaaGreatDoor
theorem openTableTurns : Rows.TableTurnsCardSaid := Go.Opn.card
end Go.Proofs.YtlgjlbpafcifoaaGreatDoor
