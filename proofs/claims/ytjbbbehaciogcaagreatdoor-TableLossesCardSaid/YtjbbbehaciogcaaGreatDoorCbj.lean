/- A part of the proof of TableLosses. -/
import Derived.Test.YtjbbbehaciogcaaGreatDoorCbi
set_option maxRecDepth 100000
set_option maxHeartbeats 8000000
set_option linter.unusedVariables false
set_option linter.unusedSimpArgs false
namespace Go.Opn
noncomputable section
open Go.Cre Go.RowKit Go.Proofs
theorem abI{J:aj}{b:Option Addr}{n c:Nat}{m:List (List cf)}(h:vp J b n c m):∀l∈m,qz l:=fun l aq=>by
 obtain⟨i,ak,rfl⟩:=List.getElem_of_mem aq;obtain⟨ad,_⟩:=h.at;obtain⟨kl,off,cells,e,_,_,hD⟩:=h.eU I;obtain⟨v,_,x,aa,a',bb,_,a9⟩:=hD i I;rw[ey ak] at aa;injection aa with aa;subst aa
 exact QD a9
abbrev n8 (g:db)(pl:Int)(m:List (List cf))(ts:List (List Int))(bits:Int):bx:=uL (o3 m ts (2 ^ bits.toNat)) pl g
open Classical in
def ls (g:db)(pl:Int)(m:List (List cf))(ts:List (List Int))(bits:Int):Int:=if iF g=0 then(if pl<0\/g.pl<=pl then 2 else if lW m=0 then(if nb bits ts=0 then(if m.length≠g.is.length\/ts.length≠g.is.length then 10 else if J7 g m ts then(if nY (n8 g pl m ts bits)=true then 0 else 5) else 10) else nb bits ts) else lW m) else iF g
section
variable {g:db}{pl bits:Int}{m:List (List cf)}{ts:List (List Int)}
theorem aa7(h:iF g≠0):ls g pl m ts bits=iF g:=aQ h
theorem aa8(ad:iF g=0)(h:pl<0\/g.pl<=pl):ls g pl m ts bits=2:=by unfold ls;rw[aV ad,aV h]
theorem aa9(ad:iF g=0)(ae:¬(pl<0\/g.pl<=pl))(h:lW m≠0):ls g pl m ts bits=lW m:=by unfold ls;rw[aV ad,aQ ae,aQ h]
theorem aa'(ad:iF g=0)(ae:¬(pl<0\/g.pl<=pl))(aD:lW m=0)(h:nb bits ts≠0):ls g pl m ts bits=nb bits ts:=by unfold ls;rw[aV ad,aQ ae,aV aD,aQ h]
theorem aba(ad:iF g=0)(ae:¬(pl<0\/g.pl<=pl))(aD:lW m=0)(a6:nb bits ts=0)(h:m.length≠g.is.length\/ts.length≠g.is.length):ls g pl m ts bits=10:=by unfold ls;rw[aV ad,aQ ae,aV aD,aV a6,aV h]
theorem abb(ad:iF g=0)(ae:¬(pl<0\/g.pl<=pl))(aD:lW m=0)(a6:nb bits ts=0)(eM:¬(m.length≠g.is.length\/ts.length≠g.is.length))(h:¬J7 g m ts):ls g pl m ts bits=10:=by unfold ls;rw[aV ad,aQ ae,aV aD,aV a6,aQ eM,aQ h]
theorem abc(ad:iF g=0)(ae:¬(pl<0\/g.pl<=pl))(aD:lW m=0)(a6:nb bits ts=0)(eM:¬(m.length≠g.is.length\/ts.length≠g.is.length))(fH:J7 g m ts):(nY (n8 g pl m ts bits)=true->ls g pl m ts bits=0)/\(nY (n8 g pl m ts bits)=false->ls g pl m ts bits=5):=by
 unfold ls;rw[aV ad,aQ ae,aV aD,aV a6,aQ eM,aV fH];exact⟨fun h=>aV h,fun h=>aQ (fun q=>by rw[h] at q;cases q)⟩
end
abbrev lF(J:aj)(g:db)(pl:Int)(m:List (List cf))(ts:List (List Int))(bits:Int):Value->aN->aj->Prop:=fun u m' af=>J.le af/\m'=[]/\((ls g pl m ts bits≠0/\u=.tuple #[Kq,.int .i64 (ls g pl m ts bits)])\/(ls g pl m ts bits=0/\∃v1 v2,u=.tuple #[dm (n8 g pl m ts bits) v1 v2,.int .i64 0]/\f' af (n8 g pl m ts bits) v1 v2))
theorem lF.bad{J af:aj}{g:db}{pl bits:Int}{m:List (List cf)}{ts:List (List Int)}{e:Int}(he:ls g pl m ts bits=e)(aR:e≠0)(hle:J.le af):lF J g pl m ts bits (.tuple #[Kq,.int .i64 e]) [] af:=⟨hle,rfl,.inl ⟨by rw[he];exact aR,by rw[he]⟩⟩
theorem KW.un{J af:aj}{r:bx}{u:Value}{m':aN}(h:KW J r u m' af):J.le af/\m'=[]/\∃(x:Bool) (b:Option Addr) (n c:Nat) (b':Option Addr) (po c':Nat) (e:Int),u=.tuple #[.agg #[.bool x,.slice b n c,.slice b' po c'],.int .i64 e]/\addrEq b b=true/\addrEq b' b'=true/\((nY r=true/\e=0/\x=decide (r.z<0)/\f' af r (.slice b n c) (.slice b' po c'))\/(nY r=false/\e=5/\Value.agg #[.bool x,.slice b n c,.slice b' po c']=Kq)):=by
 obtain⟨ad,ae,⟨aD,v1,v2,rfl,a6⟩|⟨aD,rfl⟩⟩:=h
 ·have eM:=a6
  obtain⟨b,c,rfl,q⟩:=a6.n.bA;obtain⟨b',c',rfl,dG⟩:=a6.d.bA;exact⟨ad,ae,_,b,_,c,b',_,c',0,rfl,q,dG,.inl ⟨aD,rfl,rfl,eM⟩⟩
 ·exact⟨ad,ae,false,none,0,0,none,0,0,5,rfl,rfl,rfl,.inr ⟨aD,rfl,rfl⟩⟩
theorem lF.fit{J af:aj}{g:db}{pl bits:Int}{m:List (List cf)}{ts:List (List Int)}{x:Bool}{v1 v2:Value}{e:Int}(h:(nY (n8 g pl m ts bits)=true/\e=0/\x=decide ((n8 g pl m ts bits).z<0)/\f' af (n8 g pl m ts bits) v1 v2)\/(nY (n8 g pl m ts bits)=false/\e=5/\Value.agg #[.bool x,v1,v2]=Kq))(gJ:(nY (n8 g pl m ts bits)=true->ls g pl m ts bits=0)/\(nY (n8 g pl m ts bits)=false->ls g pl m ts bits=5))(hle:J.le af):lF J g pl m ts bits (.tuple #[.agg #[.bool x,v1,v2],.int .i64 e]) [] af:=by
 rcases h with⟨ad,rfl,rfl,a6⟩|⟨ad,rfl,aD⟩
 ·exact⟨hle,rfl,.inr ⟨gJ.1 ad,_,_,rfl,a6⟩⟩
 ·rw[aD];exact lF.bad (gJ.2 ad) bI hle
theorem hh.tW{α:Type}{af:aj}{e:TypeId}{R:α->List Value->Prop}{d:List Value}{xs:List α}{a n:Nat}(h:hh 3 (fun _=>R) d xs)(aE:xs.length=n)(aq:n<=1000)(fY:af a=some (d,e)):dD af e 3 R (.slice (some ⟨a,0,none⟩) n n) xs:=by
 subst aE;exact⟨d,fR.row fY (by rw[gO,cU (by rw[h.1];exact bU _)]) h.1 (fun _=>⟨bU _,mU aq bI⟩) (fun _=>rfl),fun j x aa=>h.2 j x aa⟩
def rH(g:db)(pl:Int)(cK:Nat->bx)(i:Nat):List bx:=(List.range g.is.length).map fun j=>if j<i/\(g.is[j]?).map (·.1)=some pl then cK j else⟨0,1⟩
section
variable {g:db}{pl:Int}{cK:Nat->bx}{i:Nat}{x:Int×Int}
theorem sC:(rH g pl cK i).length=g.is.length:=by unfold rH;rw[j0,List.length_range]
theorem DX{j:Nat}(h:j<g.is.length):(rH g pl cK i)[j]?=some (if j<i/\(g.is[j]?).map (·.1)=some pl then cK j else⟨0,1⟩):=by
 unfold rH;rw[lC,Gn h];rfl
theorem agR:rH g pl cK 0=List.replicate g.is.length ⟨0,1⟩:=by
 apply ss
 intro j;by_cases h:j<g.is.length
 ·rw[DX h,aQ (fun q=>by omega),vm,aV h]
 ·rw[jX (by rw[sC];omega),jX (by rw[kE];omega)]
theorem agP(aa:g.is[i]?=some x)(aw:¬x.1=pl):rH g pl cK (i+1)=rH g pl cK i:=by
 apply ss
 intro j;by_cases h:j<g.is.length
 ·rw[DX h,DX h]
  by_cases q:j=i
  ·subst q
   rw[aa,aQ (fun q=>aw (by injection q.2)),aQ (fun q=>by omega)]
  ·simp only[show(j<i+1)=(j<i) from propext ⟨fun z=>by omega,fun z=>by omega⟩]
 ·rw[jX (by rw[sC];omega),jX (by rw[sC];omega)]
theorem agQ(aa:g.is[i]?=some x)(aw:x.1=pl):rH g pl cK (i+1)=(rH g pl cK i).set i (cK i):=by
 apply ss
 intro j;by_cases h:j<g.is.length
 ·rw[DX h]
  by_cases q:j=i
  ·subst q
   rw[V4 (by rw[sC];exact h),aa,aV ⟨I,by rw[<-aw];rfl⟩]
  ·rw[OM (fun r=>q r.symm),DX h]
   simp only[show(j<i+1)=(j<i) from propext ⟨fun z=>by omega,fun z=>by omega⟩]
 ·rw[jX (by rw[sC];omega),jX (by rw[im,sC];omega)]
theorem agO(aa:g.is[i]?=some x)(aw:x.1=pl):(rH g pl cK g.is.length)[i]?=some (cK i):=by
 have h:=(ff.1 aa).1;rw[DX h,aa,aV ⟨h,by rw[<-aw];rfl⟩]
end
def J8(g:db)(m:List (List cf))(ts:List (List Int))(i:Nat):Prop:=∀(j:Nat) x,j<i->g.is[j]?=some x->∃l t,m[j]?=some l/\ts[j]?=some t/\(l.length:Int)=x.2/\(t.length:Int)=x.2
theorem U9{g:db}{m:List (List cf)}{ts:List (List Int)}{i:Nat}{x:Int×Int}{l:List cf}{t:List Int}(h:J8 g m ts i)(aa:g.is[i]?=some x)(aq:m[i]?=some l)(aI:ts[i]?=some t)(ad:(l.length:Int)=x.2)(ae:(t.length:Int)=x.2):J8 g m ts (i+1):=fun j y aX ap=>by
 rcases hH j i with q|q
 ·exact h j y q ap
 ·obtain rfl:j=i:=I
  rw[aa] at ap;injection ap with ap;subst ap
  exact⟨l,t,aq,aI,ad,ae⟩
theorem aes{g:db}{m:List (List cf)}{ts:List (List Int)}(h:J8 g m ts g.is.length):J7 g m ts:=fun j x aa=>h j x (ff.1 aa).1 aa
theorem WU{m:List (List cf)}{ts:List (List Int)}{M i:Nat}{l:List cf}{t:List Int}(aq:m[i]?=some l)(aI:ts[i]?=some t):o3 m ts M i=bk (gT (g1 l) M (iJ l) (t.map Int.toNat):Int) (g1 l*M*2):=by
 unfold o3;rw[aq,aI]
theorem asG{α:Type}{p q a:α}{r:List α}:(p::q::a::r).Perm (a::p::q::r):=Wc (l₁:=[p,q])
section
variable {Q:c7 Tryz.prog}{g0:Nat}{J:aj}
theorem aqJ{g:db}{pl bits:Int}{m:List (List cf)}{ts:List (List Int)}{cg bi b b':Option Addr}{bS ci c c':Nat}{aS:TypeId}(cB:J 2=some (cj .u8 qC,aS))(EN:Nat.blt 2 (aU Q g0).g0=true)(ay:pE J g cg bS bi ci)(hm:vp J b m.length c m)(rZ:m.length<=1000)(lm:∀l∈m,l.length<=1000)
 (aI:dD J 45 1 (eJ (qJ J)) (.slice b' ts.length c') ts)(yh:ts.length<9223372036854775807)(n6:∀l∈ts,l.length<9223372036854775807)(dT:iF g=0->g.ns.length<=60):
 Fn (aU Q g0) 7 [uc g cg bS bi ci,.int .i64 pl,.slice b m.length c,.agg #[.int .i64 bits,.slice b' ts.length c']] [] J (lF J g pl m ts bits):=by
 have uT:addrEq bi bi=true:=ay.i.addr;have uU:addrEq cg cg=true:=ay.n.addr;have k6:addrEq b b=true:=hm.addr;have NN:addrEq b' b'=true:=aI.addr;have h':=abI hm;obtain⟨_,B3⟩:=ay.i.at;have Mf:=hm.eU;have RK:=aI.eU;refine mQ.atL (mQ.b5 (b2 Tryz.func7) rfl rfl fun H=>?_);refine rg ?_;refine eQ fun cQ=>?_;refine eQ fun eP=>?_;refine fa fun hn=>?_;refine fa fun ho=>?_;refine U 0x4b38 ?_;refine' W.defer rfl rfl rfl rfl rfl rfl rfl ?_;refine U 0x3338 ?_;refine' W.step rfl (Exec.call rfl rfl rfl rfl rfl rfl rfl (bm:=[]) (cN:=[_,_,_,_]) (.refl _) trivial (ak' ay) ?_);rintro v' m' bu hle ⟨rfl,rfl,aY⟩;refine U 0x5f040e702 ?_;refine If (fun ms=>?_) fun ms=>?_
 ·refine U 0xd5f1ce0619 ?_
  refine⟨.returning,rfl,.inr ⟨16,#[.pointer (some ⟨ho,0,none⟩)],#[],[(ho,.row [.int .i64 (iF g)] 38)],[(hn,_),(eP,_),(cQ,_)],rfl,.refl _,Fp.mono ?_⟩⟩;rintro F2 m' af ⟨rfl,rfl,rfl⟩ _;exact .inl ⟨rfl,_,[],.cell rfl (.tail _ (.head _)) (wP (fz rfl) rfl) (.cell rfl (.head _) (gR (fz rfl) rfl) .nil),i' _,lF.bad (aa7 ms) ms aY⟩
 ·have oF:iF g=0:=jD fun q=>ms q;have aA:=QZ oF;have Ir:=dT oF;have rU:=aA.i2;refine hx ?_;refine c4 [1,2,4,7,8,9] ?_;refine a2 ?_;refine' az.en 0 [(33,.bool (decide ((pl<0\/g.pl<=pl))))] ?G7 ?Hj;case G7=>
   refine U 0x903a ?_;refine c0 28 (fun al3=>?_) fun al3=>?_
   ·refine U 0x308def7b ?_;refine di (dk ?_);omega
   ·refine U 0x308225a1 ?_;refine di (dk ?_);omega
  case Hj=>
   refine a2 ?_;refine If (fun ow=>?_) fun ow=>?_
   ·refine U 0x6af8e7219 ?_
    refine⟨.returning,rfl,.inr ⟨16,#[.pointer (some ⟨ho,0,none⟩)],#[],[(ho,.row [.int .i64 2] 38)],[(hn,_),(eP,_),(cQ,_)],rfl,.refl _,Fp.mono ?_⟩⟩;rintro F2 m' af ⟨rfl,rfl,rfl⟩ _;exact .inl ⟨rfl,_,[],.cell rfl (.tail _ (.head _)) (wP (fz rfl) rfl) (.cell rfl (.head _) (gR (fz rfl) rfl) .nil),i' _,lF.bad (aa8 oF ow) bI aY⟩
   ·refine U 0xe757 ?_;refine W.P8 rfl rfl rfl rfl rfl rfl rfl rfl (bm:=[]) (cN:=_) (.refl _) (atA (aY _ _ cB) EN (hm.mono aY) rZ lm) ?_ ?_
    rotate_left 1
    ·rintro bw m' gi cR ⟨rfl,hle,aR,rfl⟩;refine⟨_,rfl,.inr ⟨16,#[.pointer (some ⟨ho,0,none⟩)],#[],[(ho,.row [.int .i64 0] 38)],[(hn,_),(eP,_),(cQ,_)],rfl,.refl _,aqH.mono ?_⟩⟩;rintro F2 m' af ⟨hu,rfl,rfl⟩ _;exact .inl ⟨hu,_,[],.cell rfl (.tail _ (.head _)) (wP (fz rfl) rfl) (.cell rfl (.head _) (gR (fz rfl) rfl) .nil),i' _,lF.bad (aa9 oF ow aR) aR (aY.trans hle)⟩
    rintro v' m' cZ hle ⟨bG,rfl,nx,a',bb,rfl,ft⟩;have aL:addrEq a' a'=true:=ft.addr;have am3:=ft.eU;obtain⟨dg,gp⟩:=acH nx;have hP:=aY.trans bG;refine U 0x66702 ?_;refine bC (G:=avC (dD.mono (R':=eJ (qJ cZ)) hP (fun _ _ ⟨v,aW,aT⟩=>⟨v,aW,aT.mono hP⟩) aI) yh n6) (h:=?_);rintro v' m' af hle ⟨rfl,rfl,rfl⟩;refine U 0x5f040e702 ?_;refine If (fun vI=>?_) fun vI=>?_
    ·refine U 0xd5f1ce0619 ?_
     refine⟨.returning,rfl,.inr ⟨16,#[.pointer (some ⟨ho,0,none⟩)],#[],[(ho,.row [.int .i64 (nb bits ts)] 38)],[(hn,_),(eP,_),(cQ,_)],rfl,.refl _,Fp.mono ?_⟩⟩;rintro F2 m' af ⟨rfl,rfl,rfl⟩ _;exact .inl ⟨rfl,_,[],.cell rfl (.tail _ (.head _)) (wP (fz rfl) rfl) (.cell rfl (.head _) (gR (fz rfl) rfl) .nil),i' _,lF.bad (aa' oF ow nx vI) vI hP⟩
    ·have mA:nb bits ts=0:=jD fun q=>vI q;obtain⟨e',fj,pA⟩:=ad' mA;obtain⟨k,M,hk,Mo,BQ,l7,uh,p1⟩:=bits_nat e';subst hk;have HX:2 ^ ((k:Int)).toNat=M:=by rw[gG,BQ]
     rw[HX] at pA;refine hx ?_;refine c4 [1,2,4,7,8,9,11] ?_;refine a2 ?_;refine' az.en 0 [(57,.bool (decide ((m.length≠g.is.length\/ts.length≠g.is.length))))] ?aiG ?ajD;case aiG=>
      refine U 0x90a96943a ?_;refine c0 49 (fun alw=>?_) fun alw=>?_
      ·refine U 0x1846f7bdef7b ?_;refine di (dk ?_);omega
      ·refine U 0x18410a96952d ?_;refine di (dk ?_);omega
     case ajD=>
      refine a2 ?_;refine If (fun xA=>?_) fun xA=>?_
      ·refine U 0x6af8e7219 ?_
       refine⟨.returning,rfl,.inr ⟨16,#[.pointer (some ⟨ho,0,none⟩)],#[],[(ho,.row [.int .i64 10] 38)],[(hn,_),(eP,_),(cQ,_)],rfl,.refl _,Fp.mono ?_⟩⟩;rintro F2 m' af ⟨rfl,rfl,rfl⟩ _;exact .inl ⟨rfl,_,[],.cell rfl (.tail _ (.head _)) (wP (fz rfl) rfl) (.cell rfl (.head _) (gR (fz rfl) rfl) .nil),i' _,lF.bad (aba oF ow nx mA xA) bI hP⟩
      ·refine U 0xa96e757 ?_;refine' W.step rfl (.of (nf rfl rfl rfl rfl rfl (eW rfl) ?aR ?ad ?ae fun zw=>?_));case aR=>exact ck
       case ad=>exact ck
       case ae=>exact ck
       refine U 0x302 ?_;rw[gG];refine U 0xd5f012a5b9 ?_;refine c3 [(66,.int .i64 ((0):Int)),(1,_),(2,_),(4,_),(7,_),(8,_),(9,_),(11,_),(13,_),(64,_),(65,_)] ?_;refine a2 ?_;refine' az.bH (fun(bK:Nat×(List Value)×aj)=>match bK with|(i,d,cq)=>⟨[(66,.int .i64 (i:Int))],[(zw,.row d 63),(ho,.row [.int .i64 0] 38),(hn,.row [.bool false,.slice none 0 0,.slice none 0 0] 37),(eP,.row [.int .i64 (k:Int),.slice b' ts.length c'] 30),(cQ,.row (np g cg bS bi ci) 25)],cq,i<=g.is.length/\cZ.le cq/\hh 3 (fun _=>lA cq) d (rH g pl (o3 m ts M) i)/\J8 g m ts i,g.is.length -i⟩) ⟨0,fM [.bool false,.slice none 0 0,.slice none 0 0] g.is.length,cZ⟩ ?hs ?a7
       case hs=>exact⟨c5 _,aj.le.refl _,by rw[agR];exact hh.zero _ rfl fun _=>⟨_,_,rfl,cJ.nil,cJ.nil⟩,fun j x h=>by omega⟩
       case a7=>
        rintro⟨i,d,cq⟩ hinv;try simp only at hinv
        obtain⟨ak,cA,iv,hW⟩:=hinv;refine U 0xbe099 ?_;refine If (fun vK=>?_) fun vK=>?_
        ·obtain⟨xn,FF,ahS,ajV,rfl,BO,R3⟩:=B3 I;obtain⟨x,cs,aa,g3,mx,rfl⟩:=R3 i I I;rw[gG] at aa;have BO:=(hP.trans cA) _ _ BO;obtain⟨WD,acd,Xm,LC,rfl,zR,Ib⟩:=Mf I;obtain⟨v,av,l,aq,bf,br,rfl,gJ⟩:=Ib i I;have zR:=(hP.trans cA) _ _ zR;obtain⟨at_,Ui,ahT,ajW,rfl,xZ,R7⟩:=RK I;obtain⟨v,q6,t,q5,a9⟩:=R7 i I;have xZ:=(hP.trans cA) _ _ xZ;have a9:iL J v t:=a9;obtain⟨bV,cc,rfl,qX,zT⟩:=a9.inv;have aG:addrEq bf bf=true:=gJ.addr;have bt:addrEq bV bV=true:=a9.addr;have l9:=lm l (et aq);have aoP:=n6 t (et q5);refine U 0x61839d5f57 ?_;refine fa fun vz=>?_;refine U 0x6382 ?_;refine c4 [1,2,4,7,8,9,11,13,14,15,64,65,66] ?_;refine a2 ?_;refine' az.en 0 [(89,.bool (decide ((¬((l.length:Int)=x.2/\(t.length:Int)=x.2)))))] ?xG ?xM;case xG=>
          refine az.Br [] rfl (by kernel_rfl) (a1:=[.val 0,.val 1,.val 2,.val 3,.val 4,.val 5,.val 6,.val 7,.val 8,.val 9,.val 10,.val 11,.val 12,.val 13,.val 14,.val 15,.val 16,.val 17,.val 18]) (by kernel_rfl) ?_;refine U 0x1225a549821 ?_;refine sA 79 (fun Q'=>?_) fun Q'=>?_
          ·refine U 0x611bdef7bdef7b ?_;refine di (dk ?_);omega
          ·refine U 0x61044b4a93052d ?_;refine di (dk ?_);omega
         case xM=>
          refine a2 ?_;refine If (fun P4=>?_) fun P4=>?_
          ·have uj:=aet aa aq q5 P4;refine U 0x6af8e7219 ?_
           refine⟨.returning,rfl,.inr ⟨16,#[.pointer (some ⟨ho,0,none⟩)],#[],[(ho,.row [.int .i64 10] 38)],[(vz,_),(zw,_),(hn,_),(eP,_),(cQ,_)],rfl,asG.symm,Fp.mono ?_⟩⟩;rintro F2 m' af ⟨rfl,rfl,rfl⟩ _;exact .inl ⟨rfl,_,[],.cell rfl (.tail _ (.tail _ (.tail _ (.head _)))) (wP (fz rfl) rfl) (.cell rfl (.head _) (gR (fz rfl) rfl) .nil),i' _,lF.bad (abb oF ow nx mA xA uj) bI (hP.trans cA)⟩
          ·obtain⟨n4,n5⟩:=zg.1 P4;obtain⟨hz,iX,l1,tu⟩:=NU (gp l (et aq));obtain⟨og,AQ,AR,Kl⟩:=NV (pA t (et q5));have axj:=U1 AR;refine U 0x17c10296e757 ?_;refine If (fun ahB=>?_) fun ahB=>?_
           ·refine U 0x3011e757 ?_;refine dN ⟨i+1,d,cq⟩ ?_ (hm:=.cons _ (.refl _));exact⟨I,cA,by rw[agP aa I];exact iv,U9 hW aa aq q5 n4 n5⟩
           ·have apd:x.1=pl:=I
            refine U 0x96e757 ?_;refine' W.step rfl (.of (nf rfl rfl rfl rfl rfl (eW rfl) ?aR ?ad ?ae fun DV=>?_));case aR=>exact ck
            case ad=>exact ck
            case ae=>exact ck
            refine U 0x302 ?_;rw[show x.2.toNat=t.length by omega];refine U 0x6af8095260a5b9 ?_;refine c3 [(104,.int .i64 ((0):Int)),(1,_),(2,_),(4,_),(7,_),(8,_),(9,_),(11,_),(13,_),(14,_),(16,_),(64,_),(65,_),(66,_),(102,_),(103,_)] ?_;refine a2 ?_;refine' az.bH (fun(bK:Nat×(List Value)×aj)=>match bK with|(j,d2,kD)=>⟨[(104,.int .i64 (j:Int))],[(DV,.row (d2++fM [.bool false,.slice none 0 0,.slice none 0 0] (t.length -j)) 63),(vz,.row [.int .i64 x.1,.int .i64 x.2] 59),(zw,.row d 63),(ho,.row [.int .i64 0] 38),(hn,.row [.bool false,.slice none 0 0,.slice none 0 0] 37),(eP,.row [.int .i64 (k:Int),.slice (some ⟨at_,Ui,none⟩) ts.length c'] 30),(cQ,.row (np g cg bS (some ⟨xn,FF,none⟩) ci) 25)],kD,j<=t.length/\cq.le kD/\hh 3 (fun _=>lA kD) d2 ((t.take j).map fun s=>bk ((s.toNat:Nat):Int) M),t.length -j⟩) ⟨0,[],cq⟩ ?hs ?a7
            case hs=>exact⟨c5 _,aj.le.refl _,rfl,fun i x h=>by cases h⟩
            case a7=>
             rintro⟨j,d2,kD⟩ hinv;try simp only at hinv
             obtain⟨aX,oD,p7⟩:=hinv;refine U 0xbe099 ?_;refine If (fun aha=>?_) fun aha=>?_
             ·obtain⟨vC,JJ,G9,Hp,rfl,pa,uu⟩:=a9.wR I;have pa:=(hP.trans (cA.trans oD)) _ _ pa;have ayW:=oD _ _ xZ;obtain⟨oV,eB,oG⟩:=uu j I;obtain⟨dC,hr⟩:=AR oV (et eB);obtain⟨s,rfl⟩:∃s:Nat,oV=(s:Int):=⟨oV.toNat,I⟩;have pe:d2.length=j*3:=by rw[p7.1,j0,eA,g6 aX]
              refine U 0x28968421ce04249839d5f57 ?_;rw[l7];refine bC (G:=atu (n:=s) (d:=M) I I p1) (h:=?_);rintro v' m' pK hle ⟨gE,rfl,dW,fi,rfl,bM⟩;have ch:=bM;obtain⟨fb,fe,eo,rfl,ih,_,_⟩:=bM.n.bN;obtain⟨iq,mG,fC,rfl,mK,_,_⟩:=bM.d.bN;refine eZ V.dz ?_;refine' iN ?hs ?_;case hs=>exact(by rw[show t.length -j=(t.length -(j+1))+1 by omega,AS];exact adM (by rw[pe];omega) rfl)
              refine nS ?_;have ani:hh 3 (fun _=>lA pK) (d2++ko (bk (s:Int) M) (.slice fb fe eo) (.slice iq mG fC)) ((t.take (j+1)).map fun s=>bk ((s.toNat:Nat):Int) M):=by
               rw[lD,eB,KM];exact(p7.mono fun _ _ _ q=>q.mono gE).app ⟨_,_,rfl,ch⟩ rfl
              rw[<-lB];refine U 0xc0479 ?_;refine dN ⟨j+1,d2++ko (bk (s:Int) M) (.slice fb fe eo) (.slice iq mG fC),pK⟩ ?_;exact⟨I,oD.trans gE,ani⟩
             ·obtain rfl:j=t.length:=I
              rw[pM] at p7;refine U 0x357 ?_;refine az.ri (m':=[(DV,.row d2 63),(vz,_),(zw,_),(ho,_),(hn,_),(eP,_),(cQ,_)]) (by show List.Perm _ [(DV,dI.row (d2++fM [.bool false,.slice none 0 0,.slice none 0 0] (t.length -t.length)) 63),(vz,_),(zw,_),(ho,_),(hn,_),(eP,_),(cQ,_)];rw[zq,Ks,hi]) ?_;refine az.ie rfl fun gg=>?_;have gg:kD.le (kD.add DV (d2,63)):=gg;have Sg:=hP.trans (cA.trans (oD.trans gg));obtain⟨sD,eF,ayc,ajX,rfl,lj,anK⟩:=am3 I;obtain⟨v,azV,ap3,Mq,dx,ej,rfl,YF⟩:=anK i I;rw[aq] at Mq;injection Mq with Mq
              subst Mq;have Sh:=cA.trans (oD.trans gg);have lj:=Sh _ _ lj;have du:addrEq dx dx=true:=YF.addr;have aW:=Qh (gp l (et aq)) (h' l (et aq));have aT:=CF (g1 l);have bo:(aO M).length<=1:=yG I;have Rp:=hh.tW (e:=63) (af:=kD.add DV (d2,63)) (p7.mono fun _ _ _ q=>q.mono gg) (j0 _) I (aj.iE _ _ _);have Cm:=awK (Q:=Q) (g0:=g0) (ps:=iJ l) (dO:=t.map Int.toNat) (sa:=g1 l) (b6:=M) (b:=dx) (b':=some ⟨DV,0,none⟩) (c:=ej) (c':=t.length) (by rw[tn];exact dD.mono (R':=lA _) Sh (fun _ _ q=>q.mono Sh) YF) (by rw[j0,OP];exact Rp) (tT l1) p1 I I tu I (by rw[tn];omega) (by rw[tn,j0];omega);rw[tn,j0,<-WU aq q5] at Cm;refine U 0xa4c108439 ?_;refine bC (G:=Cm) (h:=?_);rintro v' m' zj hle ⟨iw,rfl,bl,b7,rfl,bM⟩;have ch:=bM;obtain⟨kT,tf,dp,rfl,oa,_,_⟩:=bM.n.bN;obtain⟨xq,yE,kn,rfl,JP,_,_⟩:=bM.d.bN;refine eZ V.dz ?_;refine' iN ?hs ?_;case hs=>exact y3 _ _ _ (by show 0+i*3+3<=d.length;rw[iv.1,sC];omega)
              refine nS ?_;have ur:hh 3 (fun _=>lA zj) (d.take (0+i*3)++ko (o3 m ts M i) (.slice kT tf dp) (.slice xq yE kn)++d.drop (0+i*3+3)) (rH g pl (o3 m ts M) (i+1)):=by
               rw[agQ aa apd];exact iv.set (new:=ko (o3 m ts M i) (.slice kT tf dp) (.slice xq yE kn)) (by rw[j2]) (by rw[sC];omega) rfl (fun _ _ _ _ q=>q.mono (oD.trans (gg.trans iw))) ⟨_,_,rfl,ch⟩
              refine U 0xc0479 ?_;refine dN ⟨i+1,d.take (0+i*3)++ko (o3 m ts M i) (.slice kT tf dp) (.slice xq yE kn)++d.drop (0+i*3+3),zj⟩ ?_ (hm:=.cons _ (.refl _));exact⟨I,cA.trans (oD.trans (gg.trans iw)),ur,U9 hW aa aq q5 n4 n5⟩
        ·obtain rfl:i=g.is.length:=I
         have Sk:=abc (bits:=(k:Int)) oF ow nx mA xA (aes hW);have ET:n8 g pl m ts (k:Int)=uL (o3 m ts M) pl g:=by show uL (o3 m ts (2 ^ ((k:Int)).toNat)) pl g=_;rw[HX]
         have p4:=WV gp h' pA uh p1;refine U 0x357 ?_;refine az.ie rfl fun gg=>?_;have gg:cq.le (cq.add zw (d,63)):=gg;have Sg:=hP.trans (cA.trans gg);have Rp:=hh.tW (e:=63) (af:=cq.add zw (d,63)) (iv.mono fun _ _ _ q=>q.mono gg) sC I (aj.iE _ _ _);have ZA:=aqK (Q:=Q) (g0:=g0) (qL:=rH g pl (o3 m ts M) g.is.length) (b:=some ⟨zw,0,none⟩) (c:=g.is.length) aA (ay.mono Sg) I I p4 Ir (by rw[sC];exact Rp) sC (fun s x ad ae=>agO ad ae);rw[sC,<-ET] at ZA;have bn:=FZ aA p4 (show 0<=pl by omega) (show pl<g.pl by omega) g.ns.length (bU _);have nr:=abd aA p4 (show 0<=pl by omega) (show pl<g.pl by omega) Ir;rw[<-ET] at nr;refine U 0x8599 ?_;refine bC (G:=ZA) (h:=?_);rintro v' m' zj hle ⟨iw,rfl,bl,b7,rfl,bM⟩;have ch:=bM;obtain⟨kT,tf,dp,rfl,oa,_,_⟩:=bM.n.bN;obtain⟨xq,yE,kn,rfl,JP,_,_⟩:=bM.d.bN;refine bC (G:=arH ch (nr.d'.mono bI) (j1 nr.bS.1)) (h:=?_);rintro v' m' vk hle ao;obtain⟨ll,rfl,Kk,K',Ak,j3,La,M',tO,xQ,rfl,NL,NM,mv⟩:=ao.un;refine U 0x6af8e70e7 ?_
         refine⟨.returning,rfl,.inr ⟨16,#[.pointer (some ⟨ho,0,none⟩)],#[],[(ho,.row [.int .i64 xQ] 38)],[(hn,_),(eP,_),(cQ,_)],rfl,.refl _,Fp.mono ?_⟩⟩
         rintro F2 m' af ⟨rfl,rfl,rfl⟩ _;exact .inl ⟨rfl,_,[],.cell rfl (.tail _ (.head _)) (wP (fz rfl) rfl) (.cell rfl (.head _) (gR (fz rfl) rfl) .nil),i' _,lF.fit mv Sk (Sg.trans (iw.trans ll))⟩
end
theorem aui{α:Type}{x:α}:∀{n:Nat},(List.replicate n x).set 0 x=List.replicate n x
 |0=>rfl
 |_+1=>rfl
theorem adB{a b:bx}:0<y0 (a.z*b.d -b.z*a.d)↔sO a b:=by
 unfold sO y0;split
 ·omega
 ·split<;>omega
theorem atT{J:aj}{e:TypeId}{v:Value}{M:Nat}{t:List Int}(h:dD J e 3 (mY J) v (tk M t))(l7:0<M):dD J e 3 (pR J) v ((t.map Int.toNat).map fun p:Nat=>bk (p:Int) M):=by
 obtain⟨cs,ad,ae⟩:=h;refine⟨cs,by rw[j0,j0];rw[FT] at ad;exact ad,fun i r ao=>?_⟩;rw[lC,lC,Option.map_map] at ao;obtain⟨s,hs,rfl⟩:=xe.1 ao;obtain⟨v1,v2,aW,aT⟩:=ae i (yY s.toNat M) (by unfold tk;rw[lC,hs];rfl);refine⟨v1,v2,?_,aT.n,aT.d⟩;rw[aW];show[Value.bool false,v1,v2]=[Value.bool (decide ((bk ((s.toNat:Nat):Int) M).z<0)),v1,v2];rw[fW (tg l7)]
section
variable {Q:c7 Tryz.prog}{g0:Nat}{J:aj}
theorem aqI{g:db}{pl bits:Int}{m:List (List cf)}{ts:List (List Int)}{cg bi b b':Option Addr}{bS ci c c':Nat}(ay:pE J g cg bS bi ci)(hm:vp J b m.length c m)(rZ:m.length<=1000)(lm:∀l∈m,l.length<=1000)
 (aI:dD J 45 1 (eJ (qJ J)) (.slice b' ts.length c') ts)(yh:ts.length<9223372036854775807)(n6:∀l∈ts,l.length<9223372036854775807)(dT:iF g=0->g.ns.length<=60):
 Fn (aU Q g0) 8 [uc g cg bS bi ci,.int .i64 pl,.slice b m.length c,.agg #[.int .i64 bits,.slice b' ts.length c']] [] J (lF J g pl m ts bits):=by
 have uT:addrEq bi bi=true:=ay.i.addr;have uU:addrEq cg cg=true:=ay.n.addr;have k6:addrEq b b=true:=hm.addr;have NN:addrEq b' b'=true:=aI.addr;have h':=abI hm;obtain⟨_,B3⟩:=ay.i.at;have Mf:=hm.eU;have RK:=aI.eU;obtain⟨_,lN⟩:=ay.n.at;have azn:=ay;refine Fn.b5 (b2 Tryz.func8) rfl rfl fun H=>?_;refine rg ?_;refine eQ fun cQ=>?_;refine eQ fun eP=>?_;refine fa fun hn=>?_;refine U 0x66702 ?_;refine' W.step rfl (Exec.call rfl rfl rfl rfl rfl rfl rfl (bm:=[]) (cN:=[_,_,_]) (.refl _) trivial (atM ay) ?_);rintro v' m' bu hle ⟨rfl,rfl,aY⟩;refine U 0x5f040e702 ?_;refine If (fun nV=>?_) fun nV=>?_
 ·refine U 0xd5f02e0619 ?_;refine bp ?_
  exact lF.bad (aa7 nV) nV aY
 ·have oF:iF g=0:=jD fun q=>nV q;have aA:=QZ oF;have Ir:=dT oF;have rU:=aA.i2;have ix:=aA.b1;refine hx ?_;refine c4 [1,2,4,7,8] ?_;refine a2 ?_;refine' az.en 0 [(36,.bool (decide ((pl<0\/g.pl<=pl))))] ?Bl ?Bq;case Bl=>
   refine U 0x903a ?_;refine c0 31 (fun Rf=>?_) fun Rf=>?_
   ·refine U 0x308def7b ?_;refine di (dk ?_);omega
   ·refine U 0x308225a1 ?_;refine di (dk ?_);omega
  case Bq=>
   refine a2 ?_;refine If (fun iP=>?_) fun iP=>?_
   ·refine U 0x6af817219 ?_;refine bp ?_
    exact lF.bad (aa8 oF iP) bI aY
   ·refine U 0xe757 ?_;refine bC (G:=asW (hm.mono aY) rZ lm) (h:=?_);rintro v' m' cZ hle ⟨bG,rfl,rfl⟩;have hP:=aY.trans bG;refine U 0x302 ?_;refine c4 [1,2,4,7,8,11] ?_;refine a2 ?_;refine' az.en 0 [(41,.bool (decide ((lW m≠0))))] ?xH ?xN;case xH=>
     refine U 0xc103a ?_;refine di (dk ?_);omega
    case xN=>
     refine a2 ?_;refine If (fun vJ=>?_) fun vJ=>?_
     ·refine U 0xd5f02e0619 ?_;refine bp ?_
      exact lF.bad (aa9 oF iP vJ) vJ hP
     ·have nx:lW m=0:=jD fun q=>vJ q;obtain⟨dg,gp⟩:=acH nx;refine U 0x66757 ?_;refine bC (G:=avB (dD.mono (R':=eJ (qJ cZ)) hP (fun _ _ ⟨v,aW,aT⟩=>⟨v,aW,aT.mono hP⟩) aI) yh n6) (h:=?_);rintro v' m' af hle ⟨rfl,rfl,rfl⟩;refine U 0x302 ?_;refine c4 [1,2,4,7,8,12] ?_;refine a2 ?_;refine' az.en 0 [(47,.bool (decide ((nb bits ts≠0))))] ?aiF ?ajC;case aiF=>
       refine U 0xc103a ?_;refine di (dk ?_);omega
      case ajC=>
       refine a2 ?_;refine If (fun Li=>?_) fun Li=>?_
       ·refine U 0xd5f02e0619 ?_;refine bp ?_
        exact lF.bad (aa' oF iP nx Li) Li hP
       ·have mA:nb bits ts=0:=jD fun q=>Li q;obtain⟨e',fj,pA⟩:=ad' mA;obtain⟨k,M,hk,Mo,BQ,l7,uh,p1⟩:=bits_nat e';subst hk;have HX:2 ^ ((k:Int)).toNat=M:=by rw[gG,BQ]
        rw[HX] at pA;refine hx ?_;refine c4 [1,2,4,7,8] ?_;refine a2 ?_;refine' az.en 0 [(64,.bool (decide ((m.length≠g.is.length\/ts.length≠g.is.length))))] ?Ql ?Qw;case Ql=>
         refine U 0x90a96943a ?_;refine c0 56 (fun alA=>?_) fun alA=>?_
         ·refine U 0x1846f7bdef7b ?_;refine di (dk ?_);omega
         ·refine U 0x18410a96952d ?_;refine di (dk ?_);omega
        case Qw=>
         refine a2 ?_;refine If (fun Lk=>?_) fun Lk=>?_
         ·refine U 0x6af817219 ?_;refine bp ?_
          exact lF.bad (aba oF iP nx mA Lk) bI hP
         ·refine U 0x6af816757 ?_;refine c3 [(13,.int .i64 ((0):Int)),(1,_),(2,_),(4,_),(7,_),(8,_)] ?_;refine a2 ?_;refine' az.bH (fun(i:Nat)=>⟨[(13,.int .i64 (i:Int))],[(hn,.row [.bool false,.slice none 0 0,.slice none 0 0] 37),(eP,.row [.int .i64 (k:Int),.slice b' ts.length c'] 30),(cQ,.row (np g cg bS bi ci) 25)],cZ,i<=g.is.length/\J8 g m ts i,g.is.length -i⟩) (0) ?hs ?a7;case hs=>exact⟨c5 _,fun j x h=>by omega⟩
          case a7=>
           rintro i hinv;try simp only at hinv
           obtain⟨ak,hW⟩:=hinv;refine U 0xbe0854b439 ?_;refine If (fun Ll=>?_) fun Ll=>?_
           ·obtain⟨xn,FF,ahS,ajV,rfl,BO,R3⟩:=B3 I;obtain⟨x,cs,aa,g3,mx,rfl⟩:=R3 i I I;rw[gG] at aa;have BO:=hP _ _ BO;have Zs:=mx 1 _ bI rfl;obtain⟨WD,acd,Xm,LC,rfl,zR,Ib⟩:=Mf I;obtain⟨v,av,l,aq,bf,br,rfl,gJ⟩:=Ib i I;have zR:=hP _ _ zR;obtain⟨at_,Ui,ahT,ajW,rfl,xZ,R7⟩:=RK I;obtain⟨v,q6,t,q5,a9⟩:=R7 i I;have xZ:=hP _ _ xZ;have a9:iL J v t:=a9;obtain⟨bV,cc,rfl,qX,zT⟩:=a9.inv;have aG:addrEq bf bf=true:=gJ.addr;have bt:addrEq bV bV=true:=a9.addr;have l9:=lm l (et aq);have aoP:=n6 t (et q5);refine U 0xd5f57 ?_;refine c4 [1,2,4,7,8,13] ?_;refine a2 ?_;refine' az.en 0 [(99,.bool (decide ((¬((l.length:Int)=x.2/\(t.length:Int)=x.2)))))] ?xG ?xM;case xG=>
             refine az.Br [] rfl (by kernel_rfl) (a1:=[.val 0,.val 1,.val 2,.val 3,.val 4,.val 5,.val 6,.val 7,.val 8,.val 9,.val 10,.val 11,.val 12,.val 13,.val 14,.val 15,.val 16,.val 17,.val 18,.val 19,.val 20,.val 21,.val 22,.val 23,.val 24,.val 25,.val 26]) (by kernel_rfl) ?_;refine U 0x1225a60a5a549821 ?_;refine sA 85 (fun alG=>?_) fun alG=>?_
             ·refine U 0x611bdef7bdef7bdef7b ?_;refine di (dk ?_);omega
             ·refine U 0x61044b4c14b4a93052d ?_;refine di (dk ?_);omega
            case xM=>
             refine a2 ?_;refine If (fun P6=>?_) fun P6=>?_
             ·have uj:=aet aa aq q5 P6;refine U 0x6af817219 ?_;refine bp ?_
              exact lF.bad (abb oF iP nx mA Lk uj) bI hP
             ·obtain⟨n4,n5⟩:=zg.1 P6;refine U 0x60430e757 ?_;refine dN (i+1) ?_;exact⟨I,U9 hW aa aq q5 n4 n5⟩
           ·obtain rfl:i=g.is.length:=I
            have Sk:=abc (bits:=(k:Int)) oF iP nx mA Lk (aes hW);have ET:n8 g pl m ts (k:Int)=uL (o3 m ts M) pl g:=by show uL (o3 m ts (2 ^ ((k:Int)).toNat)) pl g=_;rw[HX]
            have pb:=WV gp h' pA uh p1;have ma:0<=pl:=I
            have r0:pl<g.pl:=I
            have ayZ:(ag M).length<=4:=kJ (k:=4) (mU uh bI);obtain⟨cK,Y7⟩:∃cK,cK=o3 m ts M:=⟨_,rfl⟩;rw[<-Y7] at pb ET;obtain⟨kl,off,cells,bD,rfl,EB,fJ⟩:=lN I;refine U 0x66757 ?_;refine bC (G:=atI (dD.mono (R':=eJ (qJ cZ)) hP (fun _ _ ⟨v,aW,aT⟩=>⟨v,aW,aT.mono hP⟩) aI) I l7 uh p1 Mo pA) (h:=?_);rintro v' m' gi hle ⟨cR,rfl,D2,sF,rfl,YQ⟩;have Ur:addrEq D2 D2=true:=YQ.addr;have am2:=YQ.eU;refine U 0xa96e702 ?_;refine' W.step rfl (.of (nf rfl rfl rfl rfl rfl (eW rfl) ?aR ?ad ?ae fun Pk=>?_));case aR=>exact ck
            case ad=>exact ck
            case ae=>exact ck
            refine U 0x302 ?_;rw[gG];refine U 0x39 ?_;refine bC (G:=Dl (z:=0) bI) (h:=?_);rintro v' m' qI hle ⟨gE,rfl,dW,fi,rfl,bM⟩;have kH:=bM;obtain⟨W1,o6,rfl,aAO⟩:=bM.n.bA;obtain⟨W2,Bd,rfl,aAP⟩:=bM.d.bA;refine eZ V.dz ?_;refine' iN ?hs ?_;case hs=>exact y3 _ _ _ (by show 0+0*3+3<=(fM [.bool false,.slice none 0 0,.slice none 0 0] g.ns.length).length;rw[Vx];show 0+0*3+3<=g.ns.length*3;omega)
            refine Jo ?_;refine bC (G:=Dl (z:=0) bI) (h:=?_);rintro v' m' pK hle ⟨gg,rfl,dW,fi,rfl,ch⟩;have lh:=ch;obtain⟨agT,ow,rfl,aAQ⟩:=ch.n.bA;obtain⟨agU,Be,rfl,aAR⟩:=ch.d.bA;refine fa fun Gz=>?_;refine U 0x6af8167021671c ?_;refine c3 [(19,.int .i64 ((0):Int)),(17,.int .i64 (1000000)),(18,.int .i64 (-1000000)),(1,_),(2,_),(4,_),(8,_),(14,_),(15,_),(16,_)] ?_;refine a2 ?_;refine' az.bH (fun(bK:Nat×(List bx)×bx×Int×Int×(List Value)×Value×Value×aj)=>match bK with|(i,A,dt,fF,gv,d,bl,b7,cq)=>⟨[(19,.int .i64 (i:Int)),(17,.int .i64 gv),(18,.int .i64 fF)],[(Gz,.row (ko dt bl b7) 37),(Pk,.row d 37),(hn,.row [.bool false,.slice none 0 0,.slice none 0 0] 37),(eP,.row [.int .i64 (k:Int),.slice b' ts.length c'] 30),(cQ,.row (np g (some ⟨kl,off,none⟩) bS bi ci) 25)],cq,i<=g.ns.length/\pK.le cq/\od cK pl g.ns i=⟨A,dt,fF,gv⟩/\hh 3 (fun j r cs=>AM g.ns i j->pR cq r cs) d A/\f' cq dt bl b7,g.ns.length -i⟩) ⟨0,List.replicate g.ns.length ⟨0,1⟩,⟨0,1⟩,-1000000,1000000,(fM [.bool false,.slice none 0 0,.slice none 0 0] g.ns.length).take (0+0*3)++ko ⟨0,1⟩ (.slice W1 _ o6) (.slice W2 _ Bd)++(fM [.bool false,.slice none 0 0,.slice none 0 0] g.ns.length).drop (0+0*3+3),.slice agT _ ow,.slice agU _ Be,pK⟩ ?hs ?a7
            case hs=>refine⟨c5 _,aj.le.refl _,rfl,?_,lh⟩;(have h:=hh.set (R':=fun j r cs=>AM g.ns 0 j->pR pK r cs) (k:=0) (p:=0+0*3) (new:=ko ⟨0,1⟩ (.slice W1 (ag (0:Int).natAbs).length o6) (.slice W2 (ag 1).length Bd)) (y:=⟨0,1⟩) (hh.zero (sz:=3) (R:=fun _ _ _=>True) (z:=[.bool false,.slice none 0 0,.slice none 0 0]) (x:=(⟨0,1⟩:bx)) g.ns.length rfl fun _=>trivial) rfl (by rw[kE];omega) rfl (fun j r cs ad _ ae=>by rcases ae with ae|⟨p,y,aD,_⟩;exact absurd ae ad;omega) (fun _=>⟨_,_,rfl,kH.mono gg⟩));rw[aui] at h;exact h
            case a7=>
             rintro⟨i,A,dt,fF,gv,d,bl,b7,cq⟩ hinv;try simp only at hinv
             obtain⟨ak,cA,al,iv,ch⟩:=hinv;refine U 0xbe0854b439 ?_;refine If (fun Lg=>?_) fun Lg=>?_
             ·obtain⟨x,cs,aa,g3,mx,c1⟩:=fJ i I I;obtain⟨a',bb,bf,br,bV,cc,rfl,hr,mB,lP⟩:=c1;have aL:addrEq a' a'=true:=by obtain⟨e,h⟩:=hr;exact h.addr
              have aG:addrEq bf bf=true:=by obtain⟨e,h⟩:=mB;exact h.addr
              have bt:addrEq bV bV=true:=by obtain⟨e,h⟩:=lP;exact h.addr
              rw[gG] at aa;have z6:=hP.trans (cR.trans (gE.trans (gg.trans cA)));have EB:=z6 _ _ EB;have e6:=aA.nodes x (et aa);have bn:=FZ aA pb ma r0 i ak;rw[al] at bn;have vZ:A.length=g.ns.length:=bn.l;obtain⟨gD,Mi,ln⟩:=iv.get (K9 (ab:=A) (i:=i) I);obtain⟨v1,v2,rfl,iR⟩:=ln (aeX aA I);have zU:=iR;obtain⟨PC,PZ,rfl,atc⟩:=iR.n.bA;obtain⟨PD,Bf,rfl,atd⟩:=iR.d.bA;have RA:=ch;obtain⟨xr,ox,rfl,Us⟩:=ch.n.bA;obtain⟨xu,rK,rfl,Ut⟩:=ch.d.bA;have ea:kz (101*i+1) (atR A i):=Pz bn (j:=i) I;have o9:kz (101*i+1) dt:=bn.dt;have ayH:=ea.n;have ayI:=ea.d;have Ce:=N2 (cK:=cK) (pl:=pl) aa;rw[al] at Ce;have Sa:=fun c aC=>aA.Cv.I1 i x c (c5 _) I aa aC;have azA:x.an.length<=60:=by rcases FB e6 with q|q|q;omega;omega;(rw[q.2.1];decide)
              have wo:eg 8 (dm (atR A i) (.slice PC (ag (atR A i).z.natAbs).length PZ) (.slice PD (ag (atR A i).d).length Bf)) (dm (atR A i) (.slice PC (ag (atR A i).z.natAbs).length PZ) (.slice PD (ag (atR A i).d).length Bf))=true:=by simp[eg,je,atc,atd,m0]
              refine U 0x1860a5b9d5f57 ?_;refine fa fun GA=>?_;refine U 0x30c10e71c ?_;refine fa fun KZ=>?_;refine U 0x31c ?_;refine c4 [1,2,4,8,14,15,16,17,18,19,20,21] ?_;refine a2 ?_;refine' az.en 0 [(135,.bool (decide ((x.k=2/\x.p=pl))))] ?aiL ?ajI;case aiL=>
               refine U 0x1225ba ?_;refine c0 130 (fun alV=>?_) fun alV=>?_
               ·refine U 0x3082052d ?_;refine di (dk ?_);omega
               ·refine U 0x308def7b ?_;refine di (dk ?_);omega
              case ajI=>
               refine c4 [135,1,2,4,8,14,15,16,17,18,19,20,21] ?_;refine a2 ?_;refine' az.lb 1 (fun(bK:(bx)×(Value)×(Value)×(aj))=>match bK with|(be,u1,bT,mn)=>⟨[],[(KZ,.row (ko be u1 bT) 37),(GA,.row [.int .i64 x.k,.int .i64 x.p,.int .i64 x.i,.slice a' x.an.length bb,.slice bf x.ws.length br,.slice bV x.ig.length cc] 72),(Gz,.row (ko dt (.slice xr (ag dt.z.natAbs).length ox) (.slice xu (ag dt.d).length rK)) 37),(Pk,.row d 37),(hn,.row [.bool false,.slice none 0 0,.slice none 0 0] 37),(eP,.row [.int .i64 (k:Int),.slice b' ts.length c'] 30),(cQ,.row (np g (some ⟨kl,off,none⟩) bS bi ci) 25)],mn,cq.le mn/\f' mn be u1 bT/\be=tL cK pl x (atR A i)⟩) ?ah3 ?ajl
               case ah3=>
                refine If (fun D6=>?_) fun D6=>?_
                ·obtain⟨rW,MA⟩:=D6;have Z4:=aA.types x (et aa) rW;have EQ:=(ff.1 Z4).1;have jB:0<=x.i:=by rcases FB e6 with q|q|q<;>omega
                 obtain⟨WD,acd,Xm,LC,rfl,zR,Ib⟩:=Mf I;obtain⟨v,av,l,aq,PG,aht,rfl,gJ⟩:=Ib x.i.toNat I;have zR:=z6 _ _ zR;have aAS:addrEq PG PG=true:=gJ.addr;obtain⟨axY,aAz,ayb,ayv,rfl,YL,anJ⟩:=am2 I;obtain⟨v,aoX,aAe,Zu,PH,xz,rfl,YG⟩:=anJ x.i.toNat I;have YL:=(gE.trans (gg.trans cA)) _ _ YL;have aAT:addrEq PH PH=true:=YG.addr;rw[lC] at Zu;obtain⟨t,q5,rfl⟩:=xe.1 Zu;obtain⟨ec,dA,ib,j8⟩:=NU (gp l (et aq));obtain⟨og,AQ,AR,Kl⟩:=NV (pA t (et q5));have axj:=U1 AR;obtain⟨ap3,aA5,LS,LU,ayE,ayF⟩:=hW _ _ EQ Z4;rw[aq] at LS;rw[q5] at LU;injection LS with LS
                 injection LU with LU
                 subst LS;subst LU;have HM:=(dD.mono (R':=mY cq) z6 (fun _ _ q=>q.mono z6) gJ).FR ib;have Zx:=gE.trans (gg.trans cA);have BK:=atT (dD.mono (R':=mY cq) Zx (fun _ _ q=>q.mono Zx) YG) p1;have aW:=Qh (gp l (et aq)) (h' l (et aq));have Cm:=agJ (Q:=Q) (g0:=g0) (J:=cq) (ps:=iJ l) (dO:=t.map Int.toNat) (sa:=g1 l) (b6:=M) (b:=PG) (b':=PH) (c:=aht) (c':=xz) (by rw[tn];exact HM) (by rw[j0];rw[FT] at BK;exact BK) (tT ib) p1 I I j8 I (by rw[tn];omega) (by rw[tn,j0];omega);rw[tn,j0,<-WU aq q5,<-Y7] at Cm;rw[FT] at aoX;refine a2 ?_;refine az.draw rfl (by kernel_rfl) (a1:=[.val 0,.val 1,.val 2,.val 3,.val 4,.val 5,.val 6,.val 7,.val 8,.val 9,.val 10,.bE 11,.b9 [0],.bE 12,.bE 13]) (by kernel_rfl) ?_;refine U 0xf24c9685264b42c ?_;refine' bz.dE rfl rfl rfl rfl rfl rfl rfl rfl rfl dF (Cm) ?_;rintro v' m' zj hle ⟨iw,rfl,dW,fi,rfl,hV⟩;have BM:=hV;obtain⟨agV,Lj,rfl,atg⟩:=hV.n.bA;obtain⟨agW,o7,rfl,ath⟩:=hV.d.bA;have Rm:=pb x.i.toNat;have ayJ:=Rm.n;have ayK:=Rm.d;refine bz.b9 fD ?_;refine' bz.dE rfl rfl rfl rfl rfl rfl rfl rfl rfl (dj (eC rfl) dF) (JN rfl rfl (zU.mono iw) BM ea.bS.1 Rm.bS.1 I I I I) ?_;rintro v' m' vk hle ⟨ll,rfl,dW,fi,rfl,e1⟩;have zS:f' vk (yS (atR A i) (cK x.i.toNat)) dW fi:=e1;obtain⟨W3,D8,rfl,ati⟩:=e1.n.bA;obtain⟨W4,Xd,rfl,atj⟩:=e1.d.bA;refine U 0x639e ?_;refine fG ⟨yS (atR A i) (cK x.i.toNat),.slice W3 _ D8,.slice W4 _ Xd,vk⟩ ?_;exact⟨iw.trans ll,zS,(agY ⟨rW,MA⟩).symm⟩
                ·refine hx ?_;refine fG ⟨atR A i,.slice PC _ PZ,.slice PD _ Bf,cq⟩ ?_;exact⟨aj.le.refl _,zU,(PL D6).symm⟩
               case ajl=>
                rintro⟨be,u1,bT,mn⟩ hinv;try simp only at hinv
                obtain⟨lj,BI,zW⟩:=hinv;have amj:=BI;obtain⟨Lb,xA,rfl,aAU⟩:=BI.n.bA;obtain⟨Lc,D9,rfl,aAV⟩:=BI.d.bA;refine U 0x1abe059 ?_;refine c3 [(22,.int .i64 ((0):Int)),(1,_),(2,_),(4,_),(8,_),(14,_),(15,_),(16,_),(17,_),(18,_),(19,_),(20,_),(21,_)] ?_;refine a2 ?_;refine' az.bH (fun(bK:Nat×(List Value))=>match bK with|(s9,d2)=>⟨[(22,.int .i64 (s9:Int))],[(KZ,.row (ko be (.slice Lb (ag be.z.natAbs).length xA) (.slice Lc (ag be.d).length D9)) 37),(GA,.row [.int .i64 x.k,.int .i64 x.p,.int .i64 x.i,.slice a' x.an.length bb,.slice bf x.ws.length br,.slice bV x.ig.length cc] 72),(Gz,.row (ko dt (.slice xr (ag dt.z.natAbs).length ox) (.slice xu (ag dt.d).length rK)) 37),(Pk,.row d2 37),(hn,.row [.bool false,.slice none 0 0,.slice none 0 0] 37),(eP,.row [.int .i64 (k:Int),.slice b' ts.length c'] 30),(cQ,.row (np g (some ⟨kl,off,none⟩) bS bi ci) 25)],mn,s9<=x.an.length/\hh 3 (fun j r cs=>(AM g.ns i j\/(j:Int)∈x.an.take s9)->pR mn r cs) d2 (ka A be (x.an.take s9)),x.an.length -s9⟩) ⟨0,d⟩ ?hs ?a7
                case hs=>exact⟨c5 _,iv.mono fun _ _ _ q aG=>by rcases aG with aG|aG;exact pR.mono lj (q aG);(rw[fO] at aG;cases aG)⟩
                case a7=>
                 rintro⟨s9,d2⟩ hinv;try simp only at hinv
                 obtain⟨azs,p7⟩:=hinv;refine U 0xbe0854b439 ?_;refine If (fun ahl=>?_) fun ahl=>?_
                 ·obtain⟨axX,aAy,aya,ayu,rfl,YK,anB⟩:=hr.wR I;have YK:=(z6.trans lj) _ _ YK;obtain⟨jg,zX,Sq⟩:=anB s9 I;obtain⟨p5,gm⟩:=Sa jg (et zX);have v8:=p7.1;rw[FO,vZ] at v8;have fv:(ka A be (x.an.take s9)).length=g.ns.length:=by rw[FO,vZ]
                  have ur:hh 3 (fun j r cs=>(AM g.ns i j\/(j:Int)∈x.an.take (s9+1))->pR mn r cs) (d2.take (0+jg.toNat*3)++ko be (.slice Lb (ag be.z.natAbs).length xA) (.slice Lc (ag be.d).length D9)++d2.drop (0+jg.toNat*3+3)) (ka A be (x.an.take (s9+1))):=by
                    rw[acO zX];refine p7.set (new:=ko be (.slice Lb (ag be.z.natAbs).length xA) (.slice Lc (ag be.d).length D9)) (by rw[j2]) I rfl (fun j r cs aX q aG=>q ?_) (fun _=>⟨_,_,rfl,amj⟩);rcases aG with aG|aG
                    ·exact .inl aG
                    ·rw[lD,zX] at aG
                     rcases nh.1 aG with bt|bt
                     ·exact .inr bt
                     ·cases bt with
                      |head=>omega
                      |tail _ bt=>cases bt
                  refine U 0x17d5f57 ?_;refine az.draw rfl (by kernel_rfl) (a1:=[.val 0,.val 1,.val 2,.val 3,.val 4,.val 5,.val 6,.val 7,.bE 8]) (by kernel_rfl) ?_;refine U 0x331260a5a1 ?_;refine' ct.vL rfl rfl (AP rfl rfl rfl rfl (u2 rfl) rfl rfl rfl ?ad ?hs ?aw ?_);case aw=>repeat first|exact .head _ _ _ _|apply gB.tail|apply gB.app
                  case hs=>exact y3 _ _ _ (by show 0+jg.toNat*3+3<=d2.length;omega)
                  case ad=>rfl
                  refine U 0x30218738 ?_;refine dN ⟨s9+1,d2.take (0+jg.toNat*3)++ko be (.slice Lb (ag be.z.natAbs).length xA) (.slice Lc (ag be.d).length D9)++d2.drop (0+jg.toNat*3+3)⟩ ?_;exact⟨I,ur⟩
                 ·obtain rfl:s9=x.an.length:=I
                  rw[pM] at p7;have RT:hh 3 (fun j r cs=>AM g.ns (i+1) j->pR mn r cs) d2 (ka A be x.an):=p7.mono fun _ _ _ q aG=>q (awQ aa aG);obtain⟨G8,azh,yi⟩:=p7.get (x:=atR A i) (i:=i) (by rw[<-apV (b:=be) aA aa vZ I];exact K9 (by rw[FO];omega));obtain⟨rq,v4,rfl,nq⟩:=yi (.inl (aeX aA I));have YT:=nq;obtain⟨PE,oy,rfl,ate⟩:=nq.n.bA;obtain⟨PF,zA,rfl,atf⟩:=nq.d.bA;have E3:eg 8 (dm (atR A i) (.slice PE (ag (atR A i).z.natAbs).length oy) (.slice PF (ag (atR A i).d).length zA)) (dm (atR A i) (.slice PE (ag (atR A i).z.natAbs).length oy) (.slice PF (ag (atR A i).d).length zA))=true:=by simp[eg,je,ate,atf,m0]
                  have ao1:eg 8 (dm dt (.slice xr (ag dt.z.natAbs).length ox) (.slice xu (ag dt.d).length rK)) (dm dt (.slice xr (ag dt.z.natAbs).length ox) (.slice xu (ag dt.d).length rK))=true:=by simp[eg,je,Us,Ut,m0]
                  refine U 0xbe0896e757 ?_;refine If (fun ahm=>?_) fun ahm=>?_
                  ·have sY:x.k=3:=I
                   obtain⟨Iw,aof,aog⟩:=NE e6 sY ma r0;obtain⟨B',Ca⟩:=bn.ak;obtain⟨B7,B8⟩:=bn.lo;have SB:=(ff.1 Iw).1;obtain⟨vC,JJ,G9,Hp,rfl,pa,uu⟩:=lP.wR I;have pa:=(z6.trans lj) _ _ pa;obtain⟨y,ap,oG⟩:=uu pl.toNat SB;rw[Iw] at ap;injection ap with ap
                   subst ap;have amk:=o9.n;have aml:=o9.d;refine a2 ?_;refine az.draw rfl (by kernel_rfl) (a1:=[.val 0,.val 1,.val 2,.val 3,.val 4,.val 5,.val 6,.val 7,.val 8,.val 9,.val 10,.val 11,.val 12,.val 13,.bE 14,.b9 [13,12,11,10,9,8,7],.bE 15]) (by kernel_rfl) ?_;refine U 0x1260a5a1 ?_;refine' ct.val rfl rfl rfl rfl (F3 rfl rfl rfl rfl rfl) ?_;refine U 0x1260a5a1 ?_;refine' ct.val rfl rfl rfl rfl (wY rfl rfl rfl rfl rfl) ?_;refine OB rfl V.GJ ?_;refine ct.b9 ⟨?h7,?aW,?aT,?bo,?cu,?fm,?iG,trivial⟩ ?_;case h7=>
                    refine' e3.val rfl rfl rfl (wY rfl rfl rfl rfl rfl) rfl ?he;case he=>exact gy
                   case aW=>
                    refine' e3.val rfl rfl rfl (ik rfl rfl ?ao (gR (fz rfl) ?av)) rfl ?he;case ao=>exact qr
                    case av=>assumption
                    case he=>exact gy
                   case aT=>
                    refine' e3.val rfl rfl rfl (Vd rfl rfl rfl (U3 rfl) ?aR ?ad) rfl ?he;case aR=>exact ck
                    case ad=>exact ck
                    case he=>exact gy
                   case bo=>
                    refine' e3.val rfl rfl rfl (AJ rfl rfl) rfl ?he;case he=>exact gy
                   case cu=>
                    refine' e3.val rfl rfl rfl (ik rfl rfl ?ao (gR (fz rfl) ?av)) rfl ?he;case ao=>exact qr
                    case av=>rfl
                    case he=>exact gy
                   case fm=>
                    refine' e3.val rfl rfl rfl (qE rfl rfl (qB rfl rfl)) rfl ?he;case he=>exact gy
                   case iG=>
                    refine' e3.val rfl rfl rfl (AJ rfl rfl) rfl ?he;case he=>exact gy
                   refine U 0x5f02 ?_;refine az.draw rfl (by kernel_rfl) (a1:=[.val 0,.val 1,.val 2,.val 3,.val 4,.bE 5,.val 6]) (by kernel_rfl) ?_;refine U 0x3cc61821 ?_;refine' bz.dE rfl rfl rfl rfl rfl rfl rfl rfl rfl dF (acr YT (RA.mono lj) ea.bS.1 o9.bS.1 I I I I) ?_;rintro v' m' tB hle ⟨iT,rfl,rfl⟩;refine U 0xbe09e ?_;refine If (fun Xc=>?_) fun Xc=>?_
                   ·have hD:sO (atR A i) dt:=adB.1 I;refine U 0xc0861ce38c30439 ?_;refine dN ⟨i+1,ka A be x.an,atR A i,max fF (nG x pl),min gv (nG x pl),d2,.slice PE _ oy,.slice PF _ zA,tB⟩ ?_ (hm:=.cons _ (.cons _ (.refl _)));exact⟨I,cA.trans (lj.trans iT),by rw[Ce,adW sY hD,zW,PL (fun q=>by omega)],RT.mono fun _ _ _ q aG=>(q aG).mono iT,YT.mono iT⟩
                   ·have hD:¬sO (atR A i) dt:=fun q=>Xc (by have:=adB.2 q;omega);refine U 0x60430e757 ?_;refine dN ⟨i+1,ka A be x.an,dt,max fF (nG x pl),min gv (nG x pl),d2,.slice xr _ ox,.slice xu _ rK,tB⟩ ?_ (hm:=.cons _ (.cons _ (.refl _)));exact⟨I,cA.trans (lj.trans iT),by rw[Ce,adX sY hD,zW,PL (fun q=>by omega)],RT.mono fun _ _ _ q aG=>(q aG).mono iT,RA.mono (lj.trans iT)⟩
                  ·refine U 0x60430e757 ?_;refine dN ⟨i+1,ka A be x.an,dt,fF,gv,d2,.slice xr _ ox,.slice xu _ rK,mn⟩ ?_ (hm:=.cons _ (.cons _ (.refl _)));exact⟨I,cA.trans lj,by rw[Ce,ave I,zW],RT,RA.mono lj⟩
             ·obtain rfl:i=g.ns.length:=I
              have bn:=FZ aA pb ma r0 g.ns.length ak;have Ic:=UW (cK:=cK) (pl:=pl) aA;rw[al] at bn Ic;obtain⟨B',Ca⟩:=bn.ak;obtain⟨B7,B8⟩:=bn.lo;have o9:kz (101*g.ns.length+1) dt:=bn.dt;have amk:=o9.n;have aml:=o9.d;have B':-1000000<=fF:=B';have Ca:fF<=1000000:=Ca;have B7:-1000000<=gv:=B7;have B8:gv<=1000000:=B8;have lh:=ch;obtain⟨xr,ox,rfl,Us⟩:=ch.n.bA;obtain⟨xu,rK,rfl,Ut⟩:=ch.d.bA;have ao1:eg 8 (dm dt (.slice xr (ag dt.z.natAbs).length ox) (.slice xu (ag dt.d).length rK)) (dm dt (.slice xr (ag dt.z.natAbs).length ox) (.slice xu (ag dt.d).length rK))=true:=by simp[eg,je,Us,Ut,m0]
              have nt:n8 g pl m ts (k:Int)=bk (dt.z*(fF -gv)) (dt.d*1):=by rw[ET];unfold uL;rw[al]
              have kt:=abd aA pb ma r0 Ir;rw[<-ET] at kt;have azT:=kt.n;have azU:=kt.d;have YD:(ag 1).length<=1:=kJ bI;have az2:(ag (fF -gv).natAbs).length<=4:=kJ (k:=4) (mU (show(fF -gv).natAbs<=2000000 by omega) bI);have z6:=hP.trans (cR.trans (gE.trans (gg.trans cA)));refine U 0x5f57 ?_;refine az.draw rfl (by kernel_rfl) (a1:=[.val 0,.val 1,.val 2,.val 3,.bE 4,.b9 [0],.bE 5,.bE 6,.val 7,.val 8,.bE 9,.val 10]) (by kernel_rfl) ?_;refine U 0x1e1842c ?_;refine' bz.dE rfl rfl rfl rfl rfl rfl rfl rfl rfl dF (Dl (z:=fF -gv) I) ?_;rintro v' m' zj hle ⟨iw,rfl,dW,fi,rfl,hV⟩;have BM:=hV;obtain⟨agV,Lj,rfl,atg⟩:=hV.n.bA;obtain⟨agW,o7,rfl,ath⟩:=hV.d.bA;refine bz.b9 fD ?_;refine' bz.dE rfl rfl rfl rfl rfl rfl rfl rfl rfl (dj (eC rfl) dF) (avE (s:=⟨fF -gv,1⟩) (lh.mono iw) BM o9.bS.1 Nat.one_pos I I (by show(ag (fF -gv).natAbs).length<=20000;omega) (by show(ag 1).length<=20000;omega)) ?_;rintro v' m' vk hle ⟨ll,rfl,dW,fi,rfl,e1⟩;have e1:f' vk (bk (dt.z*(fF -gv)) (dt.d*1)) dW fi:=e1;rw[<-nt] at e1;have zS:=e1;obtain⟨W3,D8,rfl,ati⟩:=e1.n.bA;obtain⟨W4,Xd,rfl,atj⟩:=e1.d.bA;rw[show bk (dt.z*(⟨fF -gv,1⟩:bx).z) (dt.d*(⟨fF -gv,1⟩:bx).d)=n8 g pl m ts (k:Int) from nt.symm];refine' bz.dE rfl rfl rfl rfl rfl rfl rfl rfl rfl (dj (eC rfl) (dj (eC rfl) dF)) (ak4 zS I I) ?_;rintro v' m' KG hle ao;obtain⟨iS,rfl,Kk,K',Ak,j3,La,M',tO,xQ,rfl,NL,NM,mv⟩:=ao.un;refine U 0xd5f02e1cfe ?_;refine bp ?_
              exact lF.fit mv Sk (z6.trans (iw.trans (ll.trans iS)))
end
end
end Go.Opn
