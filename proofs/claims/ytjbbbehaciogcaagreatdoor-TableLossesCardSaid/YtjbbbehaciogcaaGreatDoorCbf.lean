/- A part of the proof of TableLosses. -/
import Derived.Test.YtjbbbehaciogcaaGreatDoorCat
import Derived.Test.YtjbbbehaciogcaaGreatDoorCbd
import Derived.Test.YtjbbbehaciogcaaGreatDoorCbe
set_option maxRecDepth 100000
set_option maxHeartbeats 8000000
set_option linter.unusedVariables false
set_option linter.unusedSimpArgs false
namespace Go.Opn
noncomputable section
open Go.Cre Go.RowKit Go.Proofs
theorem aus{b:Nat}(h:b<=30):IntKind.i64.wrap (1*2 ^ ((b:Nat):Int).toNat)=((2 ^ b:Nat):Int)/\2 ^ b<=1073741824/\0<2 ^ b:=by
 have:∀b:Nat,b<31->IntKind.i64.wrap (1*2 ^ ((b:Nat):Int).toNat)=((2 ^ b:Nat):Int)/\2 ^ b<=1073741824/\0<2 ^ b:=by decide+kernel
 exact this b I
def Wv(F:pB->Prop)(bH:Nat)(G:aN->aj->Prop)(m:aN)(af:aj):Prop:=∃r wF,F r/\m=(bH,.loop r)::wF/\G wF af
def af7(bH:Nat)(G:aN->aj->Prop)(m:aN)(af:aj):Prop:=∃r wF,m=(bH,.loop r)::wF/\(r.state≠.busy/\r.pending=some .ret)/\G wF af
def Q0{r:pB}{n:Nat}{ps:List Tmp}{vC sE:Code}{bH:Nat}{l:List (Nat×Value)}(_:vf r n ps vC sE bH l)(cv:pB):Prop:=vf cv n ps vC sE bH l
theorem LN{r cv:pB}{n:Nat}{ps:List Tmp}{vC sE:Code}{bH:Nat}{l:List (Nat×Value)}{h:vf r n ps vC sE bH l}(hd:Q0 h cv):cv.state≠.busy/\cv.pending=none:=⟨(by rw[vf.jm hd];intro q;cases q),vf.wQ hd⟩
abbrev qJ(J:aj)(l:List Int)(v:Value):Prop:=iL J v l
theorem iL.addr{J:aj}{b:Option Addr}{n c:Nat}{l:List Int}(h:iL J (.slice b n c) l):addrEq b b=true:=by obtain⟨e,h⟩:=h;exact h.addr
theorem bits_nat{bits:Int}(h:¬(bits<1\/30<bits)):∃k M:Nat,bits=(k:Int)/\k<=30/\M=2 ^ k/\IntKind.i64.wrap (1*2 ^ ((k:Nat):Int).toNat)=(M:Int)/\M<=1073741824/\0<M:=by
 obtain⟨k,hk⟩:∃k:Nat,bits=(k:Int):=⟨bits.toNat,I⟩;obtain⟨ad,ae,aD⟩:=aus (b:=k) I;exact⟨k,_,hk,I,rfl,ad,ae,aD⟩
section
variable {Q:c7 Tryz.prog}{g0:Nat}{J:aj}
theorem avC{ts:List (List Int)}{bits:Int}{b:Option Addr}{c:Nat}(h:dD J 45 1 (eJ (qJ J)) (.slice b ts.length c) ts)(l9:ts.length<9223372036854775807)(lm:∀l∈ts,l.length<9223372036854775807):
 Fn (aU Q g0) 20 [.agg #[.int .i64 bits,.slice b ts.length c]] [] J (fun u m' af=>u=.int .i64 (nb bits ts)/\m'=[]/\J=af):=by
 have aG:addrEq b b=true:=h.addr;have eU:=h.eU;refine Fn.T9 (b2 Tryz.func20) rfl rfl fun H=>?_;refine rg ?_;refine eQ fun ba=>?_;refine fa fun bd=>?_;refine nS ?_;refine c4 [1,2] ?_;refine a2 ?_;refine' az.en 0 [(14,.bool (decide ((bits<1\/30<bits))))] ?jh ?ji;case jh=>
  refine U 0x1225ba ?_;refine c0 10 (fun g2=>?_) fun g2=>?_
  ·refine U 0x1846f7b ?_;refine di (dk ?_);omega
  ·refine U 0x184112d ?_;refine di (dk ?_);omega
 case ji=>
  refine a2 ?_;refine If (fun fc=>?_) fun fc=>?_
  ·have he:=ad7 (ts:=ts) fc;refine U 0x1abe399 ?_;refine'⟨.inr rfl,_,_,[],(by exact .nil _),.cell rfl (by repeat first|exact .head _|refine ki _ ?_) (gR (fz rfl) rfl) (.nil),i' _,?_⟩
   exact⟨by rw[he];rfl,rfl,rfl⟩
  ·refine U 0x17c10a96e757 ?_;refine If (fun iO=>?_) fun iO=>?_
   ·have he:=ad8 (ts:=ts) fc I;refine U 0x1abe399 ?_;refine'⟨.inr rfl,_,_,[],(by exact .nil _),.cell rfl (by repeat first|exact .head _|refine ki _ ?_) (gR (fz rfl) rfl) (.nil),i' _,?_⟩
    exact⟨by rw[he];rfl,rfl,rfl⟩
   ·have he:=ad9 (ts:=ts) fc I;obtain⟨k,M,hk,Mo,BQ,l7,uh,p1⟩:=bits_nat fc;subst hk;rw[gG,<-BQ] at he;refine U 0x96e757 ?_;refine bC (G:=atX aG) (h:=?_);rintro v' m' bu hle ⟨KZ,rfl,rfl,rfl⟩;refine U 0xbeaf8 ?_;refine az.acZ rfl rfl (fun nk bH r ao=>?_);refine⟨(KZ,_)::[(bH,_),(bd,_),(ba,_)],[(nk,_)],_,_,(j9 2 rfl (j9 0 rfl (j9 1 rfl (j9 1 rfl (j9 0 rfl .nil))))),trivial,atW (fQ:=fun _ _ _=>False) (pP:=fun i=>Wv (Q0 ao) bH (fun m af=>m=[(bd,.row [.int .i64 0] 38),(ba,.row [.int .i64 (k:Int),.slice b ts.length c] 30)]/\J=af/\∀y∈ts.take i,nI M y=0)) (xg:=af7 bH (fun m af=>m=[(bd,.row [.int .i64 (qV (nI M) ts)] 38),(ba,.row [.int .i64 (k:Int),.slice b ts.length c] 30)]/\J=af)) l9 eU ⟨_,_,ao,rfl,rfl,rfl,fun y ap=>by cases ap⟩ ?jj,(fun _ _ _ _ q=>q.2.elim),?p8⟩;case jj=>
      rintro i v m cq ak ⟨l,aq,a9⟩ cA ⟨dq,wF,HN,rfl,rfl,rfl,bn⟩;have Mr:=lm l (et aq);have a9:iL J v l:=a9;obtain⟨a',bb,rfl,qX,zT⟩:=a9.inv;have aL:addrEq a' a'=true:=a9.addr;refine vy.acf HN (by repeat first|exact .head _|refine ki _ ?_) rfl rfl (fun H=>?_);refine U 0x6059 ?_;refine⟨rfl,_,(by repeat first|exact .head _ _ _ _|apply gB.app),?_⟩;refine U 0x357 ?_;refine c4 [1,2,3] ?_;refine a2 ?_;refine' az.en 0 [(30,.bool (decide ((l.length<1\/10<l.length))))] ?xH ?xN;case xH=>
        refine U 0x12143a ?_;refine c0 26 (fun Rg=>?_) fun Rg=>?_
        ·refine U 0x1846f7b ?_;refine di (dk ?_);omega
        ·refine U 0x18410a1 ?_;refine di (dk ?_);omega
      case xN=>
        refine a2 ?_;refine If (fun Bc=>?_) fun Bc=>?_
        ·have cT:=adg (M:=M) Bc;refine U 0x1abe399 ?_;refine .inl ⟨some .ret,_,_,_,rfl,(by repeat first|exact .head _ _ _ _|apply gB.app),.refl _,?_⟩;exact⟨false,rfl,(fun q=>by cases q),fun _=>⟨_,_,rfl,⟨(fun q=>by cases q),rfl⟩,by rw[zN bn aq (by rw[cT];decide),cT],rfl⟩⟩
        ·refine U 0xd5f012873816757 ?_;refine c3 [(33,.int .i64 ((0):Int)),(4,.int .i64 ((l.take (0)).sum)),(1,_),(2,_),(31,_),(32,_)] ?_;refine a2 ?_;refine' az.kv (fun(j:Nat)=>⟨[(33,.int .i64 (j:Int)),(4,.int .i64 ((l.take j).sum))],j<=l.length/\uZ M (l.take j),l.length -j⟩) (0) ?hs ?a7;case hs=>exact⟨c5 _,adD⟩
         case a7=>
          rintro j hinv;try simp only at hinv
          obtain⟨aX,h'⟩:=hinv;refine U 0xbe099 ?_;refine If (fun Be=>?_) fun Be=>?_
          ·obtain⟨vC,JJ,G9,Hp,rfl,pa,uu⟩:=a9.wR I;obtain⟨x,aa,oG⟩:=uu j I;have dB:=ad2 aa;obtain⟨eB,m7⟩:=adZ (n:=10) h' (by rw[eA];omega);refine U 0x18124d9d5f57 ?_;refine c4 [1,2,4,6,31,32,33] ?_;refine a2 ?_;refine' az.en 0 [(45,.bool (decide ((x<0\/(M:Int)<x))))] ?G5 ?Hh;case G5=>
            refine U 0x903a ?_;refine c0 39 (fun Q8=>?_) fun Q8=>?_
            ·refine U 0xdef7b ?_;skip
             refine U 0x611b ?_;refine di (dk ?_);omega
            ·refine U 0xa25a1 ?_;rw[l7]
             refine U 0x6104 ?_;refine di (dk ?_);omega
           case Hh=>
            refine a2 ?_;refine If (fun oy=>?_) fun oy=>?_
            ·have cT:=adj Bc aa oy;refine U 0x1abe399 ?_;refine .inl ⟨some .ret,_,_,_,rfl,(by repeat first|exact .head _ _ _ _|apply gB.app),.refl _,?_⟩;exact⟨false,rfl,(fun q=>by cases q),fun _=>⟨_,_,rfl,⟨(fun q=>by cases q),rfl⟩,by rw[zN bn aq (by rw[cT];decide),cT],rfl⟩⟩
            ·have SP:=adE h' aa oy;refine U 0xc08610e757 ?_;rw[<-dB];refine U 0xc0479 ?_;refine kx (j+1) ?_;exact⟨I,SP⟩
          ·obtain rfl:j=l.length:=I
           rw[cU (bU _)] at h' ⊢;refine U 0x512d0e757 ?_;rw[l7];refine U 0x5f04 ?_;refine If (fun o7=>?_) fun o7=>?_
           ·have cT:=adk Bc h' (fun q=>o7 (by exact q));refine U 0x1abe399 ?_;refine .inl ⟨some .ret,_,_,_,rfl,(by repeat first|exact .head _ _ _ _|apply gB.app),.refl _,?_⟩;exact⟨false,rfl,(fun q=>by cases q),fun _=>⟨_,_,rfl,⟨(fun q=>by cases q),rfl⟩,by rw[zN bn aq (by rw[cT];decide),cT],rfl⟩⟩
           ·have cT:=adi Bc h' I;refine hx ?_;refine .inl ⟨none,_,_,_,rfl,(by repeat first|exact .head _ _ _ _|apply gB.app),iZ _,?_⟩;exact⟨true,rfl,(fun _=>⟨_,_,HN.again,rfl,rfl,rfl,Ny bn aq cT⟩),fun q=>by cases q⟩
    rintro v m' bu aY ⟨_,⟨c2,wF,qW,rfl,rfl,rfl,bn⟩|⟨c2,wF,rfl,dB,rfl,rfl⟩⟩;case inr=>
      refine⟨c2,_,(.head _ _ _ _),dB.1,?_⟩;rw[dB.2];exact⟨.inr rfl,_,_,[],.G2 (j9 3 rfl (j9 0 rfl (j9 0 rfl (j9 0 rfl .nil)))) (.nil _),.cell rfl (by repeat first|exact .head _|refine .tail _ ?_|refine ki _ ?_) (gR (fz rfl) rfl) .nil,i' _,by rw[he];exact⟨rfl,rfl,rfl⟩⟩
    have Su:qV (nI M) ts=0:=LM (by rw[cU (bU _)] at bn;exact bn);refine⟨c2,(bH,_)::[(bd,_),(ba,_),(nk,_)],(.head _ _ _ _),(LN qW).1,?_⟩;rw[(LN qW).2];refine U 0x1abe399 ?_;refine'⟨.inr rfl,_,_,[],(by exact .G2 (j9 3 rfl (j9 0 rfl (j9 0 rfl (j9 0 rfl .nil)))) (.nil _)),.cell rfl (by repeat first|exact .head _|refine .tail _ ?_|refine ki _ ?_) (gR (fz rfl) rfl) (.nil),i' _,?_⟩
    exact⟨by rw[he,Su];rfl,rfl,rfl⟩
theorem avB{ts:List (List Int)}{bits:Int}{b:Option Addr}{c:Nat}(h:dD J 45 1 (eJ (qJ J)) (.slice b ts.length c) ts)(l9:ts.length<9223372036854775807)(lm:∀l∈ts,l.length<9223372036854775807):
 Fn (aU Q g0) 27 [.agg #[.int .i64 bits,.slice b ts.length c]] [] J (fun u m' af=>u=.int .i64 (nb bits ts)/\m'=[]/\J=af):=by
 have aG:addrEq b b=true:=h.addr;have eU:=h.eU;refine Fn.b5 (b2 Tryz.func27) rfl rfl fun H=>?_;refine rg ?_;refine eQ fun ba=>?_;refine U 0x302 ?_;refine c4 [1] ?_;refine a2 ?_;refine' az.en 0 [(14,.bool (decide ((bits<1\/30<bits))))] ?jh ?ji;case jh=>
  refine U 0x1225ba ?_;refine c0 10 (fun g2=>?_) fun g2=>?_
  ·refine U 0x1846f7b ?_;refine di (dk ?_);omega
  ·refine U 0x184112d ?_;refine di (dk ?_);omega
 case ji=>
  refine a2 ?_;refine If (fun fc=>?_) fun fc=>?_
  ·have he:=ad7 (ts:=ts) fc;refine U 0x1abe059 ?_;refine bp ?_
   exact⟨by rw[he];rfl,rfl,rfl⟩
  ·refine U 0x17c10a96e757 ?_;refine If (fun iO=>?_) fun iO=>?_
   ·have he:=ad8 (ts:=ts) fc I;refine U 0x1abe059 ?_;refine bp ?_
    exact⟨by rw[he];rfl,rfl,rfl⟩
   ·have he:=ad9 (ts:=ts) fc I;obtain⟨k,M,hk,Mo,BQ,l7,uh,p1⟩:=bits_nat fc;subst hk;rw[gG,<-BQ] at he;refine U 0x6af816757 ?_;refine c3 [(3,.int .i64 ((0):Int)),(1,_)] ?_;refine a2 ?_;refine' az.kv (fun(i:Nat)=>⟨[(3,.int .i64 (i:Int))],i<=ts.length/\∀y∈ts.take i,nI M y=0,ts.length -i⟩) (0) ?hs ?a7;case hs=>exact⟨c5 _,fun y ap=>by cases ap⟩
    case a7=>
     rintro i hinv;try simp only at hinv
     obtain⟨ak,bn⟩:=hinv;refine U 0xbe0854b439 ?_;refine If (fun ms=>?_) fun ms=>?_
     ·obtain⟨kl,off,cells,e,rfl,sR,hD⟩:=eU I;obtain⟨v,av,l,aq,a9⟩:=hD i I;have Mr:=lm l (et aq);have a9:iL J v l:=a9;obtain⟨a',bb,rfl,qX,zT⟩:=a9.inv;have aL:addrEq a' a'=true:=a9.addr;refine U 0xc09260a5b9d5f57 ?_;refine c4 [1,3,4] ?_;refine a2 ?_;refine' az.en 0 [(38,.bool (decide ((l.length<1\/10<l.length))))] ?Qn ?Qy;case Qn=>
        refine U 0x12143a ?_;refine c0 34 (fun Rh=>?_) fun Rh=>?_
        ·refine U 0x1846f7b ?_;refine di (dk ?_);omega
        ·refine U 0x18410a1 ?_;refine di (dk ?_);omega
      case Qy=>
        refine a2 ?_;refine If (fun rJ=>?_) fun rJ=>?_
        ·have cT:=adg (M:=M) rJ;have lM:=zN bn aq (by rw[cT];decide);refine U 0x1abe059 ?_;refine bp ?_
         exact⟨by rw[he,lM,cT];rfl,rfl,rfl⟩
        ·refine U 0x357c0b3816757 ?_;refine c3 [(6,.int .i64 ((0):Int)),(5,.int .i64 ((l.take (0)).sum)),(1,_),(3,_),(4,_)] ?_;refine a2 ?_;refine' az.kv (fun(j:Nat)=>⟨[(6,.int .i64 (j:Int)),(5,.int .i64 ((l.take j).sum))],j<=l.length/\uZ M (l.take j),l.length -j⟩) (0) ?hs ?a7;case hs=>exact⟨c5 _,adD⟩
         case a7=>
          rintro j hinv;try simp only at hinv
          obtain⟨aX,h'⟩:=hinv;refine U 0x5f0428439 ?_;refine If (fun Bf=>?_) fun Bf=>?_
          ·obtain⟨vC,JJ,G9,Hp,rfl,pa,uu⟩:=a9.wR I;obtain⟨x,aa,oG⟩:=uu j I;have dB:=ad2 aa;obtain⟨eB,m7⟩:=adZ (n:=10) h' (by rw[eA];omega);refine U 0xd5f57 ?_;refine c4 [1,3,4,5,6] ?_;refine a2 ?_;refine' az.en 0 [(59,.bool (decide ((x<0\/(M:Int)<x))))] ?aiI ?ajF;case aiI=>
            refine az.Br [] rfl (by kernel_rfl) (a1:=[.val 0,.val 1,.val 2,.val 3,.val 4,.val 5,.val 6,.val 7,.val 8,.val 9,.val 10,.val 11,.val 12,.val 13,.val 14]) (by kernel_rfl) ?_;refine U 0x2449821 ?_;refine sA 50 (fun alF=>?_) fun alF=>?_
            ·refine U 0x6f7bdef7b ?_;skip
             refine U 0x611b ?_;refine di (dk ?_);omega
            ·refine U 0x512d49821 ?_;rw[l7]
             refine U 0x6104 ?_;refine di (dk ?_);omega
           case ajF=>
            refine a2 ?_;refine If (fun zB=>?_) fun zB=>?_
            ·have cT:=adj rJ aa zB;have lM:=zN bn aq (by rw[cT];decide);refine U 0x1abe059 ?_;refine bp ?_
             exact⟨by rw[he,lM,cT];rfl,rfl,rfl⟩
            ·have SP:=adE h' aa zB;refine U 0x6043498210e757 ?_;rw[<-dB];refine U 0x1810c39 ?_;refine kx (j+1) ?_;exact⟨I,SP⟩
          ·obtain rfl:j=l.length:=I
           rw[cU (bU _)] at h' ⊢;refine U 0x512d0e757 ?_;rw[l7];refine U 0x5f04 ?_;refine If (fun Ll=>?_) fun Ll=>?_
           ·have cT:=adk rJ h' (fun q=>Ll (by exact q));have lM:=zN bn aq (by rw[cT];decide);refine U 0x1abe059 ?_;refine bp ?_
            exact⟨by rw[he,lM,cT];rfl,rfl,rfl⟩
           ·have cT:=adi rJ h' I;refine U 0x60430e757 ?_;refine kx (i+1) ?_;exact⟨I,Ny bn aq cT⟩
     ·have Su:qV (nI M) ts=0:=LM (by rw[show i=ts.length by omega,cU (bU _)] at bn;exact bn);refine U 0x6af816757 ?_;refine bp ?_
      exact⟨by rw[he,Su];rfl,rfl,rfl⟩
end
section
variable {Q:c7 Tryz.prog}{g0:Nat}{J:aj}
theorem att{n d:Nat}(aE:n<1000000000000000000)(au:d<1000000000000000000)(l8:0<d):Fn (aU Q g0) 60 [.int .i64 (n:Int),.int .i64 (d:Int)] [] J (tG J (bk (n:Int) d)):=by
 have aq:(ag n).length<=2:=kJ (iM aE bI);have qa:(ag d).length<=2:=kJ (iM au bI);refine Fn.b5 (b2 Tryz.func60) rfl rfl fun H=>?_;refine rg ?_;refine fa fun cQ=>?_;refine U 0x8120738 ?_;refine' W.step rfl (Exec.val rfl rfl (u6 rfl rfl rfl (.inr ⟨rfl,rfl⟩) (by kernel_rfl)) ?_);refine eZ V.kK ?_;refine bC (G:=UQ aE) (h:=?_);rintro v' m' bu hle ⟨aY,rfl,eS⟩;have hU:=eS.gM;obtain⟨fs,gl,rfl,fU⟩:=hU.bA;refine eZ V.kK ?_;refine bC (G:=UQ au) (h:=?_);rintro v' m' cZ hle ⟨bG,rfl,ea⟩;have h5:=ea.gM;obtain⟨fb,eo,rfl,ih⟩:=h5.bA;refine bC (G:=CA (z:=(n:Int)) l8 rfl (fun _=>by rw[fW (show ¬((n:Nat):Int)<0 by omega),fW (show ¬((d:Nat):Int)<0 by omega)];rfl) (hU.mono bG) h5 (by show(ag n).length<=60000;omega) I) (h:=?_);rintro v' m' gi hle ⟨cR,rfl,dW,fi,rfl,bM⟩;have ch:=bM;obtain⟨ir,ep,rfl,oT⟩:=bM.n.bA;obtain⟨kT,dp,rfl,oa⟩:=bM.d.bA;refine U 0xd5f1c ?_;refine bp ?_;exact⟨aY.trans (bG.trans cR),rfl,_,_,rfl,ch⟩
end
abbrev Kq:Value:=.agg #[.bool false,.slice none 0 0,.slice none 0 0]
abbrev KW(J:aj)(r:bx):Value->aN->aj->Prop:=fun u m' af=>J.le af/\m'=[]/\((nY r=true/\∃v1 v2,u=.tuple #[dm r v1 v2,.int .i64 0]/\f' af r v1 v2)\/(nY r=false/\u=.tuple #[Kq,.int .i64 5]))
def vX(x:Nat):Int:=if(ag x).length<=1024 then 0 else 5
theorem LK{x:Nat}:vX x=0↔(ag x).length<=1024:=by
 unfold vX;split
 ·rename_i h;exact⟨fun _=>h,fun _=>rfl⟩
 ·rename_i h;exact⟨fun q=>(by cases q),fun q=>absurd q h⟩
section
variable {Q:c7 Tryz.prog}{g0:Nat}{J:aj}
theorem Yf{v:Value}{x:Nat}(h:cS J v x)(aq:(ag x).length<=100000):Fn (aU Q g0) 70 [v] [] J (fun u m' af=>J.le af/\m'=[]/\∃b n c,u=.tuple #[.slice b n c,.int .i64 (vX x)]/\addrEq b b=true/\(vX x=0->cS af (.slice b n c) x)):=by
 have aR:=h;obtain⟨b,c,rfl,k6⟩:=h.bA;refine Fn.b5 (b2 Tryz.func70) rfl rfl fun H=>?_;refine U 0x2f821439c0859 ?_;refine If (fun eo=>?_) fun eo=>?_
 ·have aA:vX x=5:=aQ I;refine U 0x357c0859 ?_;refine bp ?_
  exact⟨aj.le.refl _,rfl,none,0,0,by rw[aA];rfl,rfl,fun q=>by rw[aA] at q;cases q⟩
 ·have aA:vX x=0:=aV I;refine I2 ?_;refine mr fun eP=>?_;refine W.ei rfl fun Zv EB=>?_;refine eZ V.kK ?_;refine' W.step rfl (.of (tt rfl rfl rfl rfl rfl rfl (eW rfl) (wX Q g0) (fun i q=>by cases q) ?eT ?hm ?aa ?dT ?dX ?aq fun awV aAt Y5 az1=>?_));case eT=>exact .jH _
  case hm=>exact .refl _
  case aa=>exact c9.rd (aR.mono Zv)
  case dT=>exact(show(cj .u32 (ag x)).length=(ag x).length*1 by rw[r8,ha])
  case dX=>exact CO _
  case aq=>exact(show 0+(ag x).length<=1000000 by omega)
  refine U 0x6042 ?_;rw[j2,kj] at Y5;refine Y5.qv (by rw[hi]) fun bu aY al=>?_;refine U 0x357 ?_;refine bp ?_
  have jy:c9 .u32 bu awV (ag x):=⟨_,al⟩
  obtain⟨ir,ep,rfl⟩:=jy.form;exact⟨Zv.trans aY,rfl,ir,_,ep,by rw[aA];rfl,al.addr,fun _=>⟨_,al⟩⟩
theorem ak4{r:bx}{v1 v2:Value}(ao:f' J r v1 v2)(ec:(ag r.z.natAbs).length<=100000)(dA:(ag r.d).length<=100000):Fn (aU Q g0) 33 [dm r v1 v2] [] J (KW J r):=by
 have cT:=ao;obtain⟨a',bb,rfl,aL⟩:=ao.n.bA;obtain⟨bf,br,rfl,aG⟩:=ao.d.bA;refine Fn.b5 (b2 Tryz.func33) rfl rfl fun H=>?_;refine rg ?_;refine eQ fun ba=>?_;refine fa fun bd=>?_;refine U 0xa6e702 ?_;refine bC (G:=Yf cT.n ec) (h:=?_);rintro v' m' bu hle ⟨aY,rfl,fs,hv,gl,rfl,fU,eS⟩;refine U 0xa6e70211ce1 ?_;refine bC (G:=Yf (cT.d.mono aY) dA) (h:=?_);rintro v' m' cZ hle ⟨bG,rfl,fb,fe,eo,rfl,ih,ea⟩;refine U 0x30211ce1 ?_;refine c4 [5,7,1,2,4,6] ?_;refine a2 ?_;refine' az.en 2 [(25,.bool (decide ((vX r.z.natAbs≠0\/vX r.d≠0))))] ?G6 ?Hi;case G6=>
  refine U 0x903a ?_;refine c0 22 (fun Re=>?_) fun Re=>?_
  ·refine U 0xc237b ?_;refine di (dk ?_);omega
  ·refine U 0xc2081 ?_;refine di (dk ?_);omega
 case Hi=>
  refine a2 ?_;refine If (fun qO=>?_) fun qO=>?_
  ·refine U 0x6af817219 ?_;refine bp ?_
   have c:=qO
   refine⟨aY.trans bG,rfl,.inr ⟨?_,rfl⟩⟩;show(decide _&&decide _)=false;rcases c with k|k
   ·rw[fW (fun q=>k (LK.2 q))];rfl
   ·rw[fW (show ¬(ag r.d).length<=1024 from fun q=>k (LK.2 q)),Bool.and_false]
  ·refine U 0x1abe05c8042a6e757 ?_;refine bp ?_
   have aW:vX r.z.natAbs=0:=I
   have aT:vX r.d=0:=I
   refine⟨aY.trans bG,rfl,.inl ⟨?_,_,_,rfl,(eS aW).mono bG,ea aT⟩⟩;show(decide _&&decide _)=true;rw[jx (LK.1 aW),jx (LK.1 aT)];rfl
end
section
variable {K:dR}{B:dv}{o:Oper}{n:Nat}{ds:ee}{l:List (Nat×Value)}{m:aN}{J:aj}
theorem awc{x:Operand}{xt t:TypeId}{v:Value}(ah:o.op=.typeAssert x xt t true)(aa:bJ l x=some (.iface t v))(aE:CM K.P t=true):cY K B o n ds l m J (.tuple #[v,.bool true]):=by
 intro call aJ S H al aB;unfold cz e4;simp only[ah];show C1 K.P _ t true (a3 S.T H x)=_;rw[de al H aa];show g9 (Eo K.P (.iface t v) t true) _=_;have:Eo K.P (.iface t v) t true=some (.tuple #[v,.bool true]):=by
  unfold CM at aE;unfold Eo;cases hu:K.P.underlying t with
  |none=>rw[hu] at aE;cases aE
  |some u=>
   rw[hu] at aE;cases u<;>first
       |(cases aE;done)
       |(simp only[hT,cd])
 rw[this];rfl
end
theorem ve.mono{K:dR}{f:FuncId}{args:List Value}{bg:FrameMode}{bm:aN}{J:aj}{P DR:FrameMode->aN->aj->Prop}(h:ve K f args bg bm J P)(aw:∀u m af,P u m af->DR u m af):ve K f args bg bm J DR:=fun H aB=>by
 obtain⟨v,gV,H',af,m',ad,ae,aD⟩:=h H aB;exact⟨v,gV,H',af,m',ad,ae,aw _ _ _ aD⟩
abbrev QV(e:Int):Value:=.iface 87 (.agg #[.int .i64 e])
section
variable {Q:c7 Tryz.prog}{g0:Nat}{J:aj}
theorem arH{r:bx}{v1 v2:Value}(ao:gh J r v1 v2)(fr:h2 30000 r)(l8:r.d≠0):Fn (aU Q g0) 23 [dm r v1 v2] [] J (KW J r):=by
 have cT:=ao;obtain⟨a',b1,bb,rfl,aL,ix,ks⟩:=ao.n.bN;obtain⟨bf,df,br,rfl,aG,nu,jA⟩:=ao.d.bN;refine Fn.b5 (b2 Tryz.func23) rfl rfl fun H=>?_;refine rg ?_;refine eQ fun ba=>?_;refine fa fun bd=>?_;refine U 0x5e702 ?_;refine bC (G:=atr cT fr l8) (h:=?_);rintro v' m' bu aY ⟨_,rfl,bQ⟩;obtain⟨f,aA⟩:∃f,nY r=f:=⟨_,rfl⟩;rw[aA] at bQ;obtain⟨x,bV,ef,cc,dx,e9,ej,rfl,bt,du,c1⟩:∃(x:Bool) (b:Option Addr) (n c:Nat) (b':Option Addr) (po c':Nat),v'=.tuple #[.agg #[.bool x,.slice b n c,.slice b' po c'],.bool f]/\addrEq b b=true/\addrEq b' b'=true/\(f=true->x=decide (r.z<0)/\f' bu r (.slice b n c) (.slice b' po c')):=by{rcases bQ with⟨h,v1,v2,rfl,ae⟩|⟨h,rfl⟩;{obtain⟨b,c,rfl,q⟩:=ae.n.bA;obtain⟨b',c',rfl,dG⟩:=ae.d.bA;exact⟨_,b,_,c,b',_,c',by rw[h],q,dG,fun _=>⟨rfl,ae⟩⟩};{exact⟨false,none,0,0,none,0,0,by rw[h],rfl,rfl,fun k=>by rw[h] at k;cases k⟩}}
 refine U 0x1ce1 ?_;refine fa fun cQ=>?_;refine U 0x605c ?_;refine c4 [5,2,4] ?_;refine a2 ?_;refine' az.en 1 [(12,.bool (decide ((f=false))))] ?nj ?nl;case nj=>
  refine U 0xc443a ?_;refine di (dk ?_);cases f<;>simp
 case nl=>
  refine a2 ?_;refine If (fun j3=>?_) fun j3=>?_
  ·refine U 0x6af817219 ?_;refine bp ?_
   exact⟨aY,rfl,.inr ⟨aA.trans j3,rfl⟩⟩
  ·refine U 0x1abe05c5e757 ?_;refine bp ?_
   have k:f=true:=by cases f;exact absurd rfl j3;rfl
   obtain⟨rfl,aT⟩:=c1 k;exact⟨aY,rfl,.inl ⟨aA.trans k,_,_,rfl,aT⟩⟩
theorem ahQ{dw:Nat}:Fn (aU Q g0) 17 [.nilIface,.pointer (some ⟨dw,0,none⟩)] [] J (fun u m' af=>m'=[]/\J=af):=by
 refine Fn.b5 (b2 Tryz.func17) rfl rfl fun H=>?_;refine U 0x39 ?_;refine' W.step rfl (Exec.val rfl rfl (aeC rfl rfl ?av (aar Q g0)) ?_);case av=>rfl
 refine ns ?_;refine If (fun fC=>?_) fun fC=>?_
 ·refine U 0x357 ?_;refine bp ?_;exact⟨rfl,rfl⟩
 ·exfalso;cases fC
theorem ahR{dw:Nat}{e:Int}{y:Value}:Fn (aU Q g0) 17 [QV e,.pointer (some ⟨dw,0,none⟩)] [(dw,.row [y] 38)] J (fun u m' af=>m'=[(dw,.row [.int .i64 e] 38)]/\J=af):=by
 refine Fn.b5 (b2 Tryz.func17) rfl rfl fun H=>?_;refine U 0x39 ?_;refine' W.step rfl (Exec.val rfl rfl (aeC rfl rfl ?av (aar Q g0)) ?_);case av=>rfl
 refine ns ?_;refine If (fun fC=>?_) fun fC=>?_
 ·exfalso;cases fC
 ·refine U 0x1ce3960e757 ?_;refine' W.step rfl (Exec.val rfl rfl (awc rfl rfl (ad5 rfl)) ?_);refine U 0x1ce1 ?_;refine fa fun cQ=>?_;refine U 0x5f01ce05c ?_;refine If (fun fV=>?_) fun fV=>?_
  ·refine U 0x639653439 ?_;refine'⟨.inl rfl,rfl,_,_,.nil,.cons _ (.refl _),⟨rfl,rfl⟩⟩
  ·exfalso;cases fV
theorem Fp{dw:Nat}{ys:List Value}:ve (aU Q g0) 16 [.pointer (some ⟨dw,0,none⟩)] .returning [(dw,.row ys 38)] J (fun u m' af=>u=.returning/\m'=[(dw,.row ys 38)]/\J=af):=by
 refine ve.b5 (b2 Tryz.func16) rfl rfl fun H=>?_;refine rg ?_;refine' W.recover rfl rfl rfl rfl rfl rfl rfl ?_;refine bC (G:=ahQ) (h:=?_);rintro v' m' af hle ⟨rfl,rfl⟩;refine nS ?_;exact⟨by exact .inl rfl,rfl,[],_,.nil,.refl _,rfl,rfl,rfl⟩
theorem aqH{dw:Nat}{e:Int}{y:Value}:ve (aU Q g0) 16 [.pointer (some ⟨dw,0,none⟩)] (.panicking [{v:=QV e,recovered:=false}]) [(dw,.row [y] 38)] J (fun u m' af=>settle u=.returning/\m'=[(dw,.row [.int .i64 e] 38)]/\J=af):=by
 refine ve.b5 (b2 Tryz.func16) rfl rfl fun H=>?_;refine rg ?_;refine' W.recover rfl rfl rfl rfl rfl rfl rfl ?_;refine' W.step rfl (Exec.call rfl rfl rfl rfl rfl rfl rfl (bm:=[(dw,.row [y] 38)]) (cN:=[]) (.refl _) trivial (ahR) ?_);rintro v' m' af hle ⟨rfl,rfl⟩;refine nS ?_;exact⟨by exact .inl rfl,rfl,[],_,.nil,.refl _,rfl,rfl,rfl⟩
end
structure agc (J:aj) (x:cf) (v1 v2:Value):Prop where
 n:c9 .u32 J v1 x.num
 d:c9 .u32 J v2 x.den
def I5(l:List cf):Prop:=¬(qz l/\l.length<=15)
def Dr(J:aj)(x:cf)(cs:List Value):Prop:=∃v1 v2,cs=[.bool x.neg,v1,v2]/\agc J x v1 v2
section
variable {Q:c7 Tryz.prog}{g0:Nat}{J:aj}
theorem aa2{l:List cf}{i:Nat}{x:cf}(aa:l[i]?=some x)(h:4<x.num.length\/4<x.den.length):I5 l:=fun q=>by
 have:=q.1 x (et aa);omega
open Classical in
theorem aqB{l:List cf}{b:Option Addr}{c:Nat}(h:dD J 37 3 (Dr J) (.slice b l.length c) l)(l9:l.length<=9223372036854775807):Fn (aU Q g0) 10 [.slice b l.length c] [] J (fun u m' af=>m'=[]/\J=af/\u=.bool (decide (I5 l))):=by
 have k6:addrEq b b=true:=h.addr;obtain⟨_,eU⟩:=h.at;refine Fn.b5 (b2 Tryz.func10) rfl rfl fun H=>?_;refine U 0xd5f02ce059 ?_;refine c3 [(3,.int .i64 ((0):Int)),(0,_)] ?_;refine a2 ?_;refine' az.kv (fun(i:Nat)=>⟨[(3,.int .i64 (i:Int))],i<=l.length/\qz (l.take i),l.length -i⟩) (0) ?hs ?a7;case hs=>exact⟨c5 _,fun x aa=>by rw[fO] at aa;cases aa⟩
 case a7=>
  rintro i hinv;try simp only at hinv
  obtain⟨ak,h'⟩:=hinv;refine U 0x5f0428439 ?_;refine If (fun fC=>?_) fun fC=>?_
  ·obtain⟨a,off,cells,bD,rfl,l6,hD⟩:=eU I;obtain⟨x,cs,aa,g3,mx,v1,v2,rfl,c1⟩:=hD i I I;rw[gG] at aa;obtain⟨a',bb,rfl⟩:=c1.n.form;obtain⟨bf,br,rfl⟩:=c1.d.form;have z4:=mx 1 _ bI rfl;have rW:=mx 2 _ bI rfl;refine U 0x12152d30439d5f57 ?_;refine c0 17 (fun HI=>?_) fun HI=>?_
   ·refine U 0xd5f02ceaf846f7bdef7b ?_;refine bp ?_
    exact⟨rfl,rfl,by rw[jx (aa2 aa I)];rfl⟩
   ·refine U 0x2f8410a969821 ?_;refine If (fun qO=>?_) fun qO=>?_
    ·refine U 0x1abe059 ?_;refine bp ?_
     exact⟨rfl,rfl,by rw[jx (aa2 aa I)];rfl⟩
    ·refine U 0x60430e757 ?_;refine kx (i+1) ?_;exact⟨I,J2 (P:=fun x:cf=>x.num.length<=4/\x.den.length<=4) h' aa ⟨I,I⟩⟩
  ·have uD:l.take i=l:=cU I;rw[uD] at h';refine U 0x357c08850e757 ?_;refine bp ?_
   exact⟨rfl,rfl,cC Value.bool (pX.2 ⟨fun q r=>absurd r.2 I,fun q=>jD fun r=>q ⟨h',I⟩⟩)⟩
end
theorem gX.BB{e:TypeId}{sz k:Nat}{v:Value}{cells:List Value}{bc:aN}(h:gX e sz v k cells bc):∃b c,v=.slice b k c/\addrEq b b=true:=by
 rcases h with⟨h,_,_⟩|⟨a,full,rest,h⟩
 ·exact h.BB
 ·exact⟨_,_,h.v,by simp[addrEq]⟩
abbrev zt(J:aj)(l:List cf)(v:Value):Prop:=∃b c,v=.slice b l.length c/\dD J 37 3 (mY J) (.slice b l.length c) l
theorem zt.mono{J af:aj}(hle:J.le af){l:List cf}{v:Value}(h:zt J l v):zt af l v:=by
 obtain⟨b,c,ad,ae⟩:=h;exact⟨b,c,ad,dD.mono (R':=mY af) hle (fun _ _ q=>q.mono hle) ae⟩
abbrev vp(J:aj)(b:Option Addr)(n c:Nat)(m:List (List cf)):Prop:=dD J 44 1 (eJ (zt J)) (.slice b n c) m
theorem vp.mono{J af:aj}(hle:J.le af){b:Option Addr}{n c:Nat}{m:List (List cf)}(h:vp J b n c m):vp af b n c m:=
 dD.mono (R':=eJ (zt af)) hle (fun _ _ ⟨v,aL,aG⟩=>⟨v,aL,aG.mono hle⟩) h
section
variable {Q:c7 Tryz.prog}{g0:Nat}{J:aj}
end
abbrev Gg(J:aj)(l:List cf)(v:Value):Prop:=∃b c,v=.slice b l.length c/\dD J 37 3 (Dr J) (.slice b l.length c) l
def Om(m:List (List cf)):Prop:=(∃l∈m.take 210,I5 l)\/(20<m.length/\m.length<=200)\/205<m.length
def Le(m:List (List Int)):Prop:=(∃l∈m.take 210,20<l.length)\/205<m.length
theorem ab1{α:Type}{P:α->Prop}{l:List α}{i:Nat}{x:α}(h:∀y∈l.take i,¬P y)(aa:l[i]?=some x)(aR:¬P x):∀y∈l.take (i+1),¬P y:=by
 rw[lD,aa];intro y ap;rcases nh.1 ap with q|q
 ·exact h y q
 ·cases q with
  |head=>exact aR
  |tail _ q=>cases q
theorem abt{α:Type}{l:List α}{i n:Nat}{x:α}(aa:l[i]?=some x)(ak:i<n):x∈l.take n:=by
 refine et (i:=i) ?_;rw[jY,aV ak];exact aa
theorem ab0{α:Type}{P:α->Prop}{l:List α}{i:Nat}(h:∀y∈l.take i,¬P y)(ak:¬(i<l.length/\i<210)):¬∃y∈l.take 210,P y:=fun⟨y,ad,ae⟩=>by
 rcases hH i 210 with q|q
 ·rw[cU (show l.length<=i by omega)] at h
  exact h y (OQ ad) ae
 ·exact h y ((List.take_sublist_take_left q).mem ad) ae
open Classical in
theorem aw4{m:List (List cf)}(h:¬Om m):m.length<=205/\∀l∈m,¬I5 l:=by
 have ad:m.length<=205:=by
  refine O7.1 fun q=>h (.inr (.inr q))
 refine⟨ad,fun l aq q=>h (.inl ⟨l,?_,q⟩)⟩;rw[cU I];exact aq
theorem ag5{m:List (List Int)}(h:¬Le m):m.length<=205/\∀l∈m,l.length<=20:=by
 have ad:m.length<=205:=O7.1 fun q=>h (.inr q);refine⟨ad,fun l aq=>O7.1 fun q=>h (.inl ⟨l,?_,q⟩)⟩;rw[cU I];exact aq
section
variable {Q:c7 Tryz.prog}{g0:Nat}{J:aj}
open Classical in
theorem aw5{m:List (List cf)}{b:Option Addr}{c:Nat}(h:dD J 44 1 (eJ (Gg J)) (.slice b m.length c) m)(rZ:m.length<=9223372036854775807)(lm:∀l∈m,l.length<=9223372036854775807):Fn (aU Q g0) 4 [.slice b m.length c] [] J (fun u m' af=>m'=[]/\J=af/\u=.bool (decide (Om m))):=by
 have k6:addrEq b b=true:=h.addr;have eU:=h.eU;refine Fn.b5 (b2 Tryz.func4) rfl rfl fun H=>?_;refine U 0xd5f02ce059 ?_;refine c3 [(3,.int .i64 ((0):Int)),(0,_)] ?_;refine a2 ?_;refine' az.kv (fun(i:Nat)=>⟨[(3,.int .i64 (i:Int))],i<=m.length/\i<=210/\∀y∈m.take i,¬I5 y,m.length -i⟩) (0) ?hs ?a7;case hs=>exact⟨c5 _,by decide,fun y ap=>by cases ap⟩
 case a7=>
  rintro i hinv;try simp only at hinv
  obtain⟨ak,rU,e6⟩:=hinv;refine c4 [0,3] ?_;refine a2 ?_;refine' az.en 0 [(11,.bool (decide ((i<m.length/\i<210))))] ?nj ?nl;case nj=>
   refine U 0x242843a ?_;refine c0 8 (fun Rd=>?_) fun Rd=>?_
   ·refine U 0xc2081 ?_;refine di (dk ?_);omega
   ·refine U 0xc237b ?_;refine di (dk ?_);omega
  case nl=>
   refine a2 ?_;refine If (fun kn=>?_) fun kn=>?_
   ·obtain⟨kl,off,cells,e,rfl,sR,hD⟩:=eU I;obtain⟨v,av,l,aq,a',bb,rfl,a9⟩:=hD i I;have Mr:=lm l (et aq);refine U 0x930439d5f57 ?_;refine bC (G:=aqB a9 Mr) (h:=?_);rintro v' m' af hle ⟨rfl,rfl,rfl⟩;refine ns ?_;refine If (fun iO=>?_) fun iO=>?_
    ·refine U 0x1abe059 ?_;refine bp ?_
     exact⟨rfl,rfl,by rw[jx (show Om m from .inl ⟨l,abt aq kn.2,iO⟩)];rfl⟩
    ·refine U 0x60430e757 ?_;refine kx (i+1) ?_;exact⟨I,I,ab1 e6 aq iO⟩
   ·refine U 0x357 ?_;refine c4 [0] ?_;refine a2 ?_;refine' az.en 1 [(2,.bool (decide (((20<m.length/\m.length<=200)\/205<m.length))))] ?Qm ?Qx;case Qm=>
     refine U 0x12143a ?_;refine c0 22 (fun al4=>?_) fun al4=>?_
     ·refine U 0x1410a1 ?_;refine c0 27 (fun al5=>?_) fun al5=>?_
      ·refine U 0x30246f7b ?_;refine di (dk ?_);omega
      ·refine U 0x302410a1 ?_;refine di (dk ?_);omega
     ·refine U 0x60482142146f7b ?_;refine di (dk ?_);omega
    case Qx=>
     refine U 0x357 ?_;refine bp ?_
     exact⟨rfl,rfl,cC Value.bool (pX.2 ⟨.inr,fun q=>q.resolve_left (ab0 e6 kn)⟩)⟩
open Classical in
theorem ag6{m:List (List Int)}{bits:Int}{b:Option Addr}{c:Nat}(h:dD J 45 1 (eJ (qJ J)) (.slice b m.length c) m)(rZ:m.length<=9223372036854775807)(lm:∀l∈m,l.length<=9223372036854775807):Fn (aU Q g0) 5 [.agg #[.int .i64 bits,.slice b m.length c]] [] J (fun u m' af=>m'=[]/\J=af/\u=.bool (decide (Le m))):=by
 have k6:addrEq b b=true:=h.addr;have eU:=h.eU;refine Fn.b5 (b2 Tryz.func5) rfl rfl fun H=>?_;refine rg ?_;refine eQ fun ba=>?_;refine U 0x6af816702 ?_;refine c3 [(3,.int .i64 ((0):Int)),(1,_)] ?_;refine a2 ?_;refine' az.kv (fun(i:Nat)=>⟨[(3,.int .i64 (i:Int))],i<=m.length/\i<=210/\∀y∈m.take i,¬20<y.length,m.length -i⟩) (0) ?hs ?a7;case hs=>exact⟨c5 _,by decide,fun y ap=>by cases ap⟩
 case a7=>
  rintro i hinv;try simp only at hinv
  obtain⟨ak,rU,e6⟩:=hinv;refine c4 [1,3] ?_;refine a2 ?_;refine' az.en 0 [(12,.bool (decide ((i<m.length/\i<210))))] ?nj ?nl;case nj=>
   refine U 0x4854b43a ?_;refine c0 9 (fun alW=>?_) fun alW=>?_
   ·refine U 0xc2081 ?_;refine di (dk ?_);omega
   ·refine U 0xc237b ?_;refine di (dk ?_);omega
  case nl=>
   refine a2 ?_;refine If (fun j3=>?_) fun j3=>?_
   ·obtain⟨kl,off,cells,e,rfl,sR,hD⟩:=eU I;obtain⟨v,av,l,aq,a9⟩:=hD i I;have a9:iL J v l:=a9;obtain⟨a',bb,rfl,qX,zT⟩:=a9.inv;have Mr:=lm l (et aq);refine U 0x2f8215260a5b9d5f57 ?_;refine If (fun o5=>?_) fun o5=>?_
    ·refine U 0x1abe059 ?_;refine bp ?_
     exact⟨rfl,rfl,by rw[jx (show Le m from .inl ⟨l,abt aq j3.2,I⟩)];rfl⟩
    ·refine U 0x60430e757 ?_;refine kx (i+1) ?_;exact⟨I,I,ab1 e6 aq I⟩
   ·refine U 0x357 ?_;refine c4 [1] ?_;refine a2 ?_;refine' az.en 1 [(2,.bool (decide ((205<m.length))))] ?Qm ?Qx;case Qm=>
     refine U 0x60442a5ba ?_;refine di (dk ?_);omega
    case Qx=>
     refine U 0x357 ?_;refine bp ?_
     exact⟨rfl,rfl,cC Value.bool (pX.2 ⟨.inr,fun q=>q.resolve_left (ab0 e6 j3)⟩)⟩
end
def yY (s M:Nat):cf:=⟨false,ag (bk (s:Int) M).z.natAbs,ag (bk (s:Int) M).d⟩
def tk (M:Nat)(t:List Int):List cf:=t.map fun s=>yY s.toNat M
theorem FT{M:Nat}{t:List Int}:(tk M t).length=t.length:=j0 ..
theorem atU{M j:Nat}{t:List Int}{x:Int}(h:t[j]?=some x):tk M (t.take (j+1))=tk M (t.take j)++[yY x.toNat M]:=by
 unfold tk;rw[lD,h,KM];rfl
theorem at5{J:aj}{s M:Nat}{v1 v2:Value}(h:f' J (bk (s:Int) M) v1 v2)(l7:0<M)(uh:M<=1073741824)(hs:s<=M):dm (bk (s:Int) M) v1 v2=UH (yY s M) v1 v2/\tH J (yY s M) v1 v2:=by
 have aM:¬(bk (s:Int) M).z<0:=by
  unfold bk;simp only
  have:=Int.ediv_nonneg (pI s) (pI (Nat.gcd (s:Int).natAbs M));omega
 have aq:(ag ((s:Nat):Int).natAbs).length<=4:=by rw[iC];exact kJ (k:=4) (mU (show s<=1073741824 by omega) bI)
 have au:(ag M).length<=4:=kJ (k:=4) (mU uh bI);obtain⟨ad,ae⟩:=Ft l7 aq au;refine⟨?_,⟨h.n,h.d,ad,ae⟩⟩;show Value.agg #[.bool (decide ((bk (s:Int) M).z<0)),v1,v2]=_;rw[fW aM];rfl
theorem ad'{bits:Int}{ts:List (List Int)}(h:nb bits ts=0):¬(bits<1\/30<bits)/\ts.length<=200/\∀t∈ts,nI (2 ^ bits.toNat) t=0:=by
 unfold nb at h;split at h
 ·cases h
 ·split at h
  ·cases h
  ·exact⟨I,I,Yd h⟩
section
variable {Q:c7 Tryz.prog}{g0:Nat}{J:aj}
theorem atI{ts:List (List Int)}{k M:Nat}{b:Option Addr}{c:Nat}(h:dD J 45 1 (eJ (qJ J)) (.slice b ts.length c) ts)(l9:ts.length<=1000)(l7:IntKind.i64.wrap (1*2 ^ ((k:Nat):Int).toNat)=(M:Int))(uh:M<=1073741824)(p1:0<M)(hk:k<=30)(bn:∀t∈ts,nI M t=0):
 Fn (aU Q g0) 28 [.agg #[.int .i64 (k:Int),.slice b ts.length c]] [] J (fun u m' af=>J.le af/\m'=[]/\∃b' c',u=.slice b' ts.length c'/\vp af b' ts.length c' (ts.map (tk M))):=by
 have aG:addrEq b b=true:=h.addr;have eU:=h.eU;refine Fn.b5 (b2 Tryz.func28) rfl rfl fun H=>?_;refine rg ?_;refine eQ fun ba=>?_;refine U 0x357c0b3816702 ?_;refine c3 [(4,.int .i64 ((0):Int)),(3,(.slice none 0 0)),(1,_)] ?_;refine a2 ?_;refine' az.bH (fun(bK:Nat×Value×aN×(List Value)×aj)=>match bK with|(i,gq,bc,d,cq)=>⟨[(4,.int .i64 (i:Int)),(3,gq)],bc++[(ba,.row [.int .i64 (k:Int),.slice b ts.length c] 30)],cq,i<=ts.length/\J.le cq/\gX 44 1 gq i d bc/\hh 1 (fun _=>eJ (zt cq)) d ((ts.take i).map (tk M)),ts.length -i⟩) ⟨0,.slice none 0 0,[],[],J⟩ ?hs ?a7
 case hs=>exact⟨c5 _,aj.le.refl _,.inl ⟨.nil,Dq,CI⟩,⟨rfl,fun i x aa=>by cases aa⟩⟩
 case a7=>
  rintro⟨i,gq,bc,d,cq⟩ hinv;try simp only at hinv
  obtain⟨ak,cA,n0,iv⟩:=hinv;refine U 0xbe0854b439 ?_;refine If (fun kn=>?_) fun kn=>?_
  ·obtain⟨kl,off,cells,e,rfl,sR,hD⟩:=eU I;obtain⟨v,av,t,aI,a9⟩:=hD i I;have a9:iL J v t:=a9;obtain⟨a',bb,rfl,qX,zT⟩:=a9.inv;have aL:addrEq a' a'=true:=a9.addr;have sR:=cA _ _ sR;obtain⟨ix,nu,h',azO⟩:=NV (bn t (et aI));obtain⟨vC,JJ,G9,Hp,rfl,pa,uu⟩:=a9.wR I;have pa:=cA _ _ pa;refine U 0xd5f02ce059d5f57 ?_;refine c3 [(6,.int .i64 ((0):Int)),(5,(.slice none 0 0)),(1,_),(3,_),(4,_)] ?_;refine a2 ?_;refine' az.bH (fun(bK:Nat×Value×aN×(List Value)×aj)=>match bK with|(j,oe,M7,d5,kD)=>⟨[(6,.int .i64 (j:Int)),(5,oe)],M7++(bc++[(ba,.row [.int .i64 (k:Int),.slice (some ⟨kl,off,none⟩) ts.length c] 30)]),kD,j<=t.length/\cq.le kD/\gX 37 3 oe j d5 M7/\hh 3 (fun _=>mY kD) d5 (tk M (t.take j)),t.length -j⟩) ⟨0,.slice none 0 0,[],[],cq⟩ ?hs ?a7
   case hs=>exact⟨c5 _,aj.le.refl _,.inl ⟨.nil,Dq,CI⟩,⟨rfl,fun i x aa=>by cases aa⟩⟩
   case a7=>
    rintro⟨j,oe,M7,d5,kD⟩ hinv;try simp only at hinv
    obtain⟨aX,oD,Mc,RU⟩:=hinv;have ayU:=oD _ _ sR;have ayV:=oD _ _ pa;refine U 0x5f042a4c14b439 ?_;refine If (fun o5=>?_) fun o5=>?_
    ·obtain⟨fs,gl,rfl,fU⟩:=Mc.BB;obtain⟨x,aa,oG⟩:=uu j I;obtain⟨dC,hr⟩:=h' x (et aa);obtain⟨s,rfl⟩:∃s:Nat,x=(s:Int):=⟨x.toNat,I⟩;refine U 0x17d5f57 ?_;refine az.draw rfl (by kernel_rfl) (a1:=[.val 0,.val 1,.val 2,.val 3,.val 4,.val 5,.val 6,.val 7,.val 8,.val 9,.val 10,.val 11,.bE 12,.kG 13,.b9 [0],.bE 14,.bE 15]) (by kernel_rfl) ?_;refine U 0xa25a9305260a5a1 ?_;rw[l7];refine dl rfl (G:=att (n:=s) (d:=M) I I p1) (h:=?_);rintro v' m' bu hle ⟨aY,rfl,v1,v2,rfl,bM⟩;obtain⟨anA,Ry⟩:=at5 bM p1 uh I;rw[anA];have amK:=Ry;obtain⟨fb,eo,rfl⟩:=Ry.n.form;obtain⟨iq,fC,rfl⟩:=Ry.d.form;refine ct.buildSlice rfl rfl rfl rfl rfl rfl (eW rfl) rfl rfl rfl fun axO=>?_;refine ct.b9 fD ?_;refine' ct.vL rfl rfl (Ot rfl rfl rfl rfl rfl rfl (eW rfl) (av5 Q g0) (fun i q=>by cases q) ?eT ?hm ?aa ?dT ?dX ?aX ?aq fun awS aq0 amV=>?_);case eT=>exact Mc
     case hm=>exact(Wc (l₁:=M7)).symm
     case aa=>exact yV
     case dT=>rfl
     case dX=>rfl
     case aX=>exact Nat.one_pos
     case aq=>exact(show j+1<=1000000 by omega)
     refine U 0x302 ?_;have anj:hh 3 (fun _=>mY bu) (d5++[.bool false,.slice fb (yY s M).num.length eo,.slice iq (yY s M).den.length fC]) (tk M (t.take (j+1))):=by
        rw[atU aa,gG];exact(RU.mono fun _ _ _ q=>q.mono aY).app ⟨_,_,rfl,amK⟩ rfl
     refine U 0x1810c39 ?_;refine dN ⟨j+1,awS,aq0,d5++[.bool false,.slice fb (yY s M).num.length eo,.slice iq (yY s M).den.length fC],bu⟩ ?_ (hm:=afG (.cons _ (.refl _)) _);exact⟨I,oD.trans aY,amV,anj⟩
    ·obtain rfl:j=t.length:=I
     rw[pM] at RU;obtain⟨ir,ep,rfl⟩:=Mc.HC;refine U 0x357 ?_;refine gX.qv (fo:=bc++[_]) Mc (.refl _) fun tB iT al=>?_;have mz:zt tB (tk M t) (.slice ir t.length ep):=⟨ir,ep,by rw[FT],by rw[FT];exact⟨⟨d5,by rw[FT];exact al,fun i x aa=>(RU.2 i x aa).mono iT⟩⟩⟩;have ur:hh 1 (fun _=>eJ (zt tB)) (d++[.slice ir t.length ep]) ((ts.take (i+1)).map (tk M)):=by
        rw[lD,aI,KM];exact(iv.mono fun _ _ _ ⟨v,aL,aG⟩=>⟨v,aL,aG.mono (oD.trans iT)⟩).app ⟨_,rfl,mz⟩ rfl
     refine U 0x439 ?_;refine mr fun axQ=>?_;refine' W.step rfl (.of (Ot rfl rfl rfl rfl rfl rfl (eW rfl) (av4 Q g0) (fun i q=>by cases q) ?eT ?hm ?aa ?dT ?dX ?aX ?aq fun ae2 aq1 amX=>?_));case eT=>exact n0
     case hm=>exact(Wc (l₁:=bc)).symm
     case aa=>exact yV
     case dT=>rfl
     case dX=>rfl
     case aX=>exact Nat.one_pos
     case aq=>exact(show i+1<=1000000 by omega)
     refine U 0x60430e702 ?_;refine dN ⟨i+1,ae2,aq1,d++[.slice ir t.length ep],tB⟩ ?_ (hm:=afG (.cons _ (.refl _)) _);exact⟨I,(cA.trans oD).trans iT,amX,ur⟩
  ·obtain rfl:i=ts.length:=I
   rw[pM] at iv;refine U 0x357 ?_;refine gX.qv (fo:=[_]) n0 (.refl _) fun KG iS al=>?_;refine U 0x357c0839 ?_;refine bp ?_;obtain⟨km,hq,rfl⟩:=n0.HC;exact⟨cA.trans iS,rfl,km,hq,rfl,⟨⟨d,by rw[j0];exact al,fun i x aa=>by obtain⟨v,aW,aT⟩:=iv.2 i x aa;exact⟨v,aW,aT.mono iS⟩⟩⟩⟩
end
def lW (m:List (List cf)):Int:=if 200<m.length then 4 else qV mL m
theorem acF{m:List (List cf)}(h:200<m.length):lW m=4:=aV h
theorem acG{m:List (List cf)}(h:¬200<m.length):lW m=qV mL m:=aQ h
theorem acH{m:List (List cf)}(h:lW m=0):m.length<=200/\∀l∈m,mL l=0:=by
 unfold lW at h;split at h
 ·cases h
 ·exact⟨I,Yd h⟩
abbrev Dv(J:aj)(l:List cf)(v:Value):Prop:=∃b c,v=.slice b l.length c/\dD J 63 3 (lA J) (.slice b l.length c) ((iJ l).map fun p:Nat=>bk (p:Int) (g1 l))
theorem Dv.mono{J af:aj}(hle:J.le af){l:List cf}{v:Value}(h:Dv J l v):Dv af l v:=by
 obtain⟨b,c,ad,ae⟩:=h;exact⟨b,c,ad,dD.mono (R':=lA af) hle (fun _ _ q=>q.mono hle) ae⟩
abbrev VP(J:aj)(b:Option Addr)(n c:Nat)(m:List (List cf)):Prop:=dD J 57 1 (eJ (Dv J)) (.slice b n c) m
theorem acz{α:Type}{l a b:α}{bc:List α}:(l::b::(bc++[a])).Perm (bc++[a,l,b]):=by
 have ad:(bc++[a,l,b]).Perm ([l,b,a]++bc):=(DI).trans (List.Perm.append_right bc (DI (l₁:=[a]) (l₂:=[l,b])));have ae:([l,b]++(bc++[a])).Perm ([l,b]++([a]++bc)):=List.Perm.append_left _ DI;exact ae.trans ad.symm
section
variable {Q:c7 Tryz.prog}{g0:Nat}{J:aj}
theorem atA{m:List (List cf)}{b:Option Addr}{c:Nat}{aS:TypeId}(cB:J 2=some (cj .u8 qC,aS))(ay:Nat.blt 2 (aU Q g0).g0=true)(h:vp J b m.length c m)(rZ:m.length<=1000)(lm:∀l∈m,l.length<=1000):
 mQ (aU Q g0) 19 [.slice b m.length c] [] J (fun u m' af=>J.le af/\m'=[]/\lW m=0/\∃b' c',u=.slice b' m.length c'/\VP af b' m.length c' m) (Wu J (lW m)):=by
 have aG:addrEq b b=true:=h.addr;have eU:=h.eU;refine mQ.T9 (b2 Tryz.func19) rfl rfl fun H=>?_;refine U 0x17c10a1ce059 ?_;refine If (fun fC=>?_) fun fC=>?_
 ·have he:=acF (m:=m) I;refine U 0x4e19 ?_;refine' W.panic rfl rfl rfl ?_;exact⟨_,_,rfl,.nil _,.inr ⟨_,[],rfl,i' _,rfl,aj.le.refl _,by rw[he];decide,by rw[he]⟩⟩
 ·have he:=acG (m:=m) I;refine I2 ?_;refine fa fun cm=>?_;refine U 0x738 ?_;refine bC (G:=atZ aG) (h:=?_);rintro v' m' bu hle ⟨pW,rfl,rfl,rfl⟩;refine U 0xbeaf8 ?_;refine az.acZ rfl rfl (fun nk bH r ao=>?_);refine⟨(pW,_)::[(bH,_),(cm,_)],[(nk,_)],_,_,(j9 2 rfl (j9 0 rfl (j9 1 rfl (j9 0 rfl .nil)))),trivial,atY (fQ:=fun bw m' af=>m'=[]/\lW m≠0/\bw=[{v:=QV (lW m),recovered:=false}]) (pP:=fun i=>Wv (Q0 ao) bH (fun abA af=>∃w bc d,abA=(cm,.row [w] 54)::bc/\gX 57 1 w i d bc/\hh 1 (fun _=>eJ (Dv af)) d (m.take i)/\∀y∈m.take i,mL y=0)) (xg:=fun _ _=>False) I eU ⟨_,_,ao,rfl,_,[],[],rfl,.inl ⟨.nil,Dq,CI⟩,⟨rfl,fun i x aa=>by cases aa⟩,fun y ap=>by cases ap⟩ ?jj,(fun bw m' bu aY q=>by
   obtain⟨_,rfl,aG,rfl⟩:=q;exact⟨_,[],rfl,.G2 (.refl _) (.nil _),.inr ⟨_,[],rfl,i' _,rfl,aY,aG,rfl⟩⟩),?p8⟩
  case jj=>
   rintro i v abA cq ak ⟨l,aq,a',bb,rfl,a9⟩ cA ⟨dq,wF,HN,rfl,w,bc,d,rfl,n0,iv,bn⟩;have a9:=dD.mono (R':=mY cq) cA (fun _ _ q=>q.mono cA) a9;have aL:addrEq a' a'=true:=a9.addr;obtain⟨km,hq,rfl,oS⟩:=n0.BB;refine vy.acf HN (by repeat first|exact .head _|refine ki _ ?_) rfl rfl (fun H=>?_);refine U 0x6059 ?_;refine⟨rfl,_,(by repeat first|exact .head _ _ _ _|apply gB.app),?_⟩;refine U 0x5f57 ?_;refine az.ajK rfl (by kernel_rfl) (a1:=[.val 0,.val 1,.bE 2,.kG 3,.b9 [0],.bE 4,.bE 5]) (by kernel_rfl) ?_;refine WP.val rfl V.aaK ?_;refine WP.val rfl V.kK ?_;refine WP.P8 rfl rfl rfl rfl rfl rfl rfl rfl rfl rfl (bm:=[]) (cN:=_) (.refl _) (aty (cA _ _ cB) ay a9 (lm l (et aq))) ?_ ?_
   rotate_left 1
   ·rintro bw m' gi cR ⟨rfl,_,ai,rfl⟩;have j5:lW m=mL l:=he.trans (zN bn aq ai);exact .inr ⟨_,[],rfl,rfl,i' _,rfl,by rw[j5];exact ai,by rw[j5]⟩
   rintro v' m' cZ bG ⟨_,rfl,uB,fb,eo,rfl,BK⟩;have ih:addrEq fb fb=true:=BK.addr;have ur:hh 1 (fun _=>eJ (Dv cZ)) (d++[.slice fb l.length eo]) (m.take (i+1)):=by{rw[lD,aq];exact(iv.mono fun _ _ _ ⟨v,aL,aG⟩=>⟨v,aL,aG.mono bG⟩).app ⟨_,rfl,fb,eo,rfl,BK⟩ rfl}
   refine WP.Nv ?_;refine ct.buildSlice rfl rfl rfl rfl rfl rfl (eW rfl) rfl rfl rfl fun Gz=>?_;refine ct.b9 fD ?_;refine' ct.vL rfl rfl (Ot rfl rfl rfl rfl rfl rfl (eW rfl) (av7 Q g0) (fun i q=>by cases q) ?eT ?hm ?aa ?dT ?dX ?aX ?aq fun aBb TM Y1=>?_);case eT=>exact n0
   case hm=>exact(DI (l₁:=[_,_,_]))
   case aa=>exact yV
   case dT=>rfl
   case dX=>rfl
   case aX=>exact Nat.one_pos
   case aq=>exact(show i+1<=1000000 by omega)
   obtain⟨iq,fC,rfl⟩:=Y1.HC;refine ct.ri (m':=(bH,.loop {dq with state:=.busy})::(cm,.row [.slice km i hq] 54)::(TM++[(Gz,.row [.slice fb l.length eo] 57)])) acz.symm ?_;refine U 0x31c ?_;refine .inl ⟨none,_,_,(bH,_)::(cm,_)::TM,rfl,(by repeat first|exact .head _ _ _ _|apply gB.app),(.cons_cons _ (.cons_cons _ (st _ _))),?_⟩;exact⟨true,rfl,(fun _=>⟨_,_,HN.again,rfl,_,TM,_,rfl,Y1,ur,Ny bn aq uB⟩),fun q=>by cases q⟩
  rintro v m' bu aY ⟨_,⟨c2,wF,qW,rfl,w,bc,d,rfl,n0,iv,bn⟩|al⟩;case inr=>exact al.elim
  rw[cU (bU _)] at iv bn;have nx:lW m=0:=he.trans (LM bn);refine⟨c2,(bH,_)::(cm,_)::(bc++[(nk,_)]),(by rw[Gm,Gm];exact .head _ _ _ _),(LN qW).1,?_⟩;rw[(LN qW).2];obtain⟨km,hq,rfl⟩:=n0.HC;refine n0.qv (fo:=[(nk,_),(bH,_),(cm,_)]) acz (fun gi cR al=>?_);have ft:VP gi km m.length hq m:=⟨⟨d,al,fun i x aa=>by obtain⟨v,aW,aT⟩:=iv.2 i x aa;exact⟨v,aW,aT.mono cR⟩⟩⟩;refine U 0x357c0939 ?_;exact⟨_,_,rfl,.G2 (.refl _) (.nil _),.inl ⟨rfl,_,[],.tmp rfl .nil,i' _,aY.trans cR,rfl,nx,km,hq,rfl,ft⟩⟩
end
section
variable {Q:c7 Tryz.prog}{g0:Nat}{J:aj}
theorem asW{m:List (List cf)}{b:Option Addr}{c:Nat}(h:vp J b m.length c m)(rZ:m.length<=1000)(lm:∀l∈m,l.length<=1000):
 Fn (aU Q g0) 26 [.slice b m.length c] [] J (fun u m' af=>J.le af/\m'=[]/\u=.int .i64 (lW m)):=by
 have aG:addrEq b b=true:=h.addr;have eU:=h.eU;refine Fn.b5 (b2 Tryz.func26) rfl rfl fun H=>?_;refine U 0x17c10a1ce059 ?_;refine If (fun fC=>?_) fun fC=>?_
 ·have he:=acF (m:=m) I;refine U 0x1abe059 ?_;refine bp ?_
  exact⟨aj.le.refl _,rfl,by rw[he];rfl⟩
 ·have he:=acG (m:=m) I;refine U 0x6af816757 ?_;refine c3 [(3,.int .i64 ((0):Int)),(0,_)] ?_;refine a2 ?_;refine' az.bH (fun(bK:Nat×aj)=>match bK with|(i,cq)=>⟨[(3,.int .i64 (i:Int))],[],cq,i<=m.length/\J.le cq/\∀y∈m.take i,mL y=0,m.length -i⟩) ⟨0,J⟩ ?hs ?a7
  case hs=>exact⟨c5 _,aj.le.refl _,fun y ap=>by cases ap⟩
  case a7=>
   rintro⟨i,cq⟩ hinv;try simp only at hinv
   obtain⟨ak,cA,bn⟩:=hinv;refine U 0x5f0428439 ?_;refine If (fun kn=>?_) fun kn=>?_
   ·obtain⟨kl,off,cells,e,rfl,sR,hD⟩:=eU I;obtain⟨v,av,l,aq,bf,br,rfl,gJ⟩:=hD i I;have sR:=cA _ _ sR;have gJ:=dD.mono (R':=mY cq) cA (fun _ _ q=>q.mono cA) gJ;refine U 0x930439d5f57 ?_;refine bC (G:=atS gJ (by have:=lm l (et aq);omega)) (h:=?_);rintro v' m' bu hle ⟨aY,rfl,rfl⟩;refine U 0x302 ?_;refine c4 [0,3,4] ?_;refine a2 ?_;refine' az.en 0 [(20,.bool (decide ((mL l≠0))))] ?xH ?xN;case xH=>
     refine U 0xc103a ?_;refine di (dk ?_);omega
    case xN=>
     refine a2 ?_;refine If (fun hC=>?_) fun hC=>?_
     ·have j5:lW m=mL l:=he.trans (zN bn aq hC);refine U 0x357c0839 ?_;refine bp ?_
      exact⟨cA.trans aY,rfl,by rw[j5];rfl⟩
     ·refine U 0x60430e757 ?_;refine dN ⟨i+1,bu⟩ ?_;exact⟨I,cA.trans aY,Ny bn aq (jD fun q=>hC q)⟩
   ·have nx:lW m=0:=he.trans (LM (by rw[cU I] at bn;exact bn));refine U 0x6af816757 ?_;refine bp ?_
    exact⟨cA,rfl,by rw[nx];rfl⟩
end
end
end Go.Opn
