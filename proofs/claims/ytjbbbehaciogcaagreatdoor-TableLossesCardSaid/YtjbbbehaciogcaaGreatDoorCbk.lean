/- The law TableLosses returns true, whatever its arguments, and they read afterwards as before: the card of TableLosses. Conditions: none beyond the row's own; the listed variables are as the program's text lays them (the tie is given). -/
import Derived.Test.YtjbbbehaciogcaaGreatDoorCbj
import Derived.Test.YtjbbbehaciogcaaGreatDoorCak
import Derived.Test.YtjbbbehaciogcaaGreatDoorProg
import Derived.KernelRfl
import Derived.Test.YtjbbbehaciogcaaGreatDoorCap
import Derived.Conc.Holds
import Derived.SevenTiedAt
import Derived.Test.YtjbbbehaciogcaaGreatDoorCards
import Derived.Test.YtjbbbehaciogcaaGreatDoorTie
import Derived.WalkKit
import Derived.ProofKit
import Derived.OpenShut
import Derived.Deep.DeepHandedRow
import Derived.Lib.LaidTab
import Derived.LaidHandle
import Derived.LaidMore
import Derived.Stop.LaidErr
import Derived.Carry
set_option maxRecDepth 100000
set_option maxHeartbeats 8000000
set_option linter.unusedVariables false
set_option linter.unusedSimpArgs false
namespace Go.Opn
noncomputable section
open Go.Cre Go.RowKit Go.Proofs
theorem dD.tight{J:aj}{e:TypeId}{v:Value}{l:List cf}(h:dD J e 3 (Dr J) v l)(hs:qz l):dD J e 3 (mY J) v l:=by
 obtain⟨cs,ad,ae⟩:=h;refine⟨cs,ad,fun i x aa=>?_⟩;obtain⟨v1,v2,aW,aT⟩:=ae i x aa;have:=hs x (et aa);exact⟨v1,v2,aW,⟨aT.n,aT.d,this.1,this.2⟩⟩
theorem arb{J:aj}{b:Option Addr}{n c:Nat}{m:List (List cf)}(h:dD J 44 1 (eJ (Gg J)) (.slice b n c) m)(hs:∀l∈m,qz l):vp J b n c m:=by
 obtain⟨cs,ad,ae⟩:=h;refine⟨cs,ad,fun i x aa=>?_⟩;obtain⟨v,aW,a',bb,aT,bo⟩:=ae i x aa;exact⟨v,aW,a',bb,aT,bo.tight (hs x (et aa))⟩
def CB (g:db)(pl:Int)(m:List (List cf))(ts:List (List Int))(bits:Int):bx:=if ls g pl m ts bits=0 then n8 g pl m ts bits else⟨0,0⟩
theorem aqM{g:db}{pl bits:Int}{m:List (List cf)}{ts:List (List Int)}(h:ls g pl m ts bits=0):nY (n8 g pl m ts bits)=true:=by
 unfold ls at h;split at h
 ·split at h
  ·cases h
  ·split at h
   ·split at h
    ·split at h
     ·cases h
     ·split at h
      ·split at h
       ·assumption
       ·cases h
      ·cases h
    ·rename_i q;exact absurd h q
   ·rename_i q;exact absurd h q
 ·rename_i q;exact absurd h q
theorem aqN{g:db}{pl bits:Int}{m:List (List cf)}{ts:List (List Int)}:(ag (CB g pl m ts bits).z.natAbs).length<=1024/\(ag (CB g pl m ts bits).d).length<=1024:=by
 unfold CB;split
 ·rename_i h
  have ae:=aqM h;have ae:(decide _&&decide _)=true:=ae;rw[gr] at ae;exact⟨CP ae.1,CP ae.2⟩
 ·show(ag 0).length<=1024/\(ag 0).length<=1024
  rw[lR];exact⟨c5 _,c5 _⟩
theorem lF.aew{J af:aj}{g:db}{pl bits:Int}{m:List (List cf)}{ts:List (List Int)}{u:Value}{m':aN}(h:lF J g pl m ts bits u m' af):J.le af/\m'=[]/\∃v1 v2,u=.tuple #[dm (CB g pl m ts bits) v1 v2,.int .i64 (ls g pl m ts bits)]/\f' af (CB g pl m ts bits) v1 v2:=by
 obtain⟨ad,ae,h⟩:=h;refine⟨ad,ae,?_⟩;rcases h with⟨aD,rfl⟩|⟨aD,v1,v2,rfl,c1⟩
 ·have e:CB g pl m ts bits=⟨0,0⟩:=aQ aD
  rw[e];have aM:∀J:aj,cS J (.slice none 0 0) 0:=fun J=>by unfold cS;rw[lR];exact c9.nil
  exact⟨.slice none 0 0,.slice none 0 0,rfl,⟨aM _,aM _⟩⟩
 ·have e:CB g pl m ts bits=n8 g pl m ts bits:=aV aD
  rw[e,aD];exact⟨v1,v2,rfl,c1⟩
section
variable {Q:c7 Tryz.prog}{g0:Nat}{J:aj}
open Classical in
theorem ap8{g:db}{pl U5:Int}{m:List (List cf)}{ts:List (List Int)}{cg bi b b':Option Addr}{bS ci c c':Nat}{e:TypeId}(hN:∀J,Fn (aU Q g0) 6 [] [] J (af' (.bool true) J))(cB:J 2=some (cj .u8 qC,e))(EN:Nat.blt 2 (aU Q g0).g0=true)(ay:pE J g cg bS bi ci)(dT:g.ns.length<=9223372036854775807)
 (h:dD J 44 1 (eJ (Gg J)) (.slice b m.length c) m)(rZ:m.length<=9223372036854775807)(lm:∀l∈m,l.length<=9223372036854775807)
 (hd:dD J 45 1 (eJ (qJ J)) (.slice b' ts.length c') ts)(yh:ts.length<=9223372036854775807)(n6:∀l∈ts,l.length<=9223372036854775807):
 Fn (aU Q g0) 3 [uc g cg bS bi ci,.int .i64 pl,.slice b m.length c,.agg #[.int .i64 U5,.slice b' ts.length c']] [] J (fun v m' af=>v=.bool true):=by
 have k6:addrEq b b=true:=h.addr;have NN:addrEq b' b'=true:=hd.addr;have uT:addrEq bi bi=true:=ay.i.addr;have uU:addrEq cg cg=true:=ay.n.addr;refine Fn.b5 (b2 Tryz.func3) rfl rfl fun H=>?_;refine rg ?_;refine eQ fun cQ=>?_;refine eQ fun eP=>?_;refine U 0x302 ?_;refine c4 [1,2,4,7] ?_;refine a2 ?_;refine' az.en 0 [(36,.bool (decide ((Om m\/Le ts\/(60<g.ns.length/\g.ns.length<=2000)\/2010<g.ns.length))))] ?jh ?ji;case jh=>
  refine U 0x3a ?_;refine bC (G:=aw5 h rZ lm) (h:=?_);rintro v' m' af hle ⟨rfl,rfl,rfl⟩;refine eZ V.kK ?_;refine c0 15 (fun Ew=>?_) fun Ew=>?_
  ·refine U 0x308def7b0a37bdef7bdef7b0a3fb ?_;refine di (dk ?_);(simp_all;done)
  ·refine KX V.Ts ?_;refine xB (G:=ag6 hd yh n6) (h:=?_);rintro v' m' af hle ⟨rfl,rfl,rfl⟩;refine U 0x28 ?_;refine c0 19 (fun alS=>?_) fun alS=>?_
   ·refine U 0x308def7b0a37bdef7bdef7b ?_;refine di (dk ?_);(simp_all;done)
   ·refine U 0x12152d ?_;refine c0 24 (fun alM=>?_) fun alM=>?_
    ·refine U 0x5082152d ?_;refine c0 31 (fun alP=>?_) fun alP=>?_
     ·refine U 0x308def7b ?_;refine di (dk ?_);(simp_all;omega)
     ·refine U 0x3082152d ?_;refine di (dk ?_);(simp_all;omega)
    ·refine U 0x18410a968508def7b ?_;refine di (dk ?_);(simp_all;omega)
 case ji=>
  refine a2 ?_;refine If (fun iP=>?_) fun iP=>?_
  ·refine rg ?_;refine bC (G:=hN _) (h:=?_);rintro v' m' af hle ⟨rfl,rfl,rfl⟩;refine U 0xd5f02 ?_;refine bp ?_;exact rfl
  ·obtain⟨bl,b7⟩:=aw4 (fun q=>iP (.inl q));obtain⟨gq,u9⟩:=ag5 (fun q=>iP (.inr (.inl q)));have oe:∀l∈m,qz l/\l.length<=15:=fun l aq=>jD (b7 l aq);have l7:=arb h fun l aq=>(oe l aq).1;have wh:m.length<=1000:=I
   have ks:∀l∈m,l.length<=1000:=fun l aq=>by have:=(oe l aq).2;omega
   have r4:ts.length<9223372036854775807:=I
   have m7:∀l∈ts,l.length<9223372036854775807:=fun l aq=>by have:=u9 l aq;omega
   have qc:iF g=0->g.ns.length<=60:=fun q=>by
    have:=(QZ q).df;rcases hH 60 g.ns.length with z|z
    ·exact absurd (.inr (.inr (.inl ⟨z,this⟩))) iP
    ·exact z
   have rY:=aqN (g:=g) (pl:=pl) (m:=m) (ts:=ts) (bits:=U5);refine U 0x302166757 ?_;refine bC (G:=aqJ cB EN ay l7 wh ks hd r4 m7 qc) (h:=?_);rintro v' m' bu hle Rl;obtain⟨aY,rfl,e',fj,rfl,c1⟩:=Rl.aew;have p2:=c1;obtain⟨fs,gl,rfl,fU⟩:=c1.n.bA;obtain⟨fb,eo,rfl,ih⟩:=c1.d.bA;refine U 0x1ce1 ?_;refine fa fun ho=>?_;refine U 0x6042cce05c ?_;refine bC (G:=aqI (ay.mono aY) (l7.mono aY) wh ks (dD.mono (R':=eJ (qJ bu)) aY (fun _ _ ⟨v,aW,aT⟩=>⟨v,aW,aT.mono aY⟩) hd) r4 m7 qc) (h:=?_);rintro v' m' cZ hle Rl;obtain⟨bG,rfl,e',fj,rfl,al⟩:=Rl.aew;have sU:=al;obtain⟨iq,fC,rfl,mK⟩:=al.n.bA;obtain⟨km,hq,rfl,oS⟩:=al.d.bA;refine U 0x1ce1 ?_;refine fa fun pW=>?_;refine U 0x18cce05c ?_;refine bC (G:=auc (p2.mono bG) sU I I) (h:=?_);rintro v' m' af hle ⟨rfl,rfl,o4,rfl,BZ⟩;have BZ:=BZ.2 rfl;subst BZ;refine eZ V.kK ?_;refine c0 57 (fun Yy=>?_) fun Yy=>?_
   ·refine U 0x141021 ?_;refine c0 62 (fun Yz=>?_) fun Yz=>?_
    ·refine xB (G:=hN _) (h:=?_);rintro v' m' af hle ⟨rfl,rfl,rfl⟩;refine U 0x1abe048 ?_;refine bp ?_;exact rfl
    ·exfalso;exact Yz rfl
   ·exfalso;cases Yy
end
end
end Go.Opn
namespace Go.Opn
noncomputable section
open Go Go.Cre Go.RowKit Go.Proofs
def T6:List Int:=[0,1,56,2,57,49,28,3,61,58,42,50,38,29,17,4,62,47,59,36,45,43,51,22,53,39,33,30,24,18,12,5,63,55,48,27,60,41,37,16,46,35,44,21,52,32,23,11,54,26,40,15,34,20,31,10,25,14,19,9,13,8,7,6]
def Xn:List Value:=T6.map fun z=>Value.int .u8 z
def aea:List (Nat×TypeId×List Value):=[(2,188,Xn)]
def H0:ar:=Ye 3 2 aea
theorem aqx:isTrue ((vU Tryz.prog (Et Tryz.prog) 10000).body 6 [] false .run H0)=true:=by kernel_rfl
end
end Go.Opn
namespace Go.Opn
noncomputable section
open Go Go.Cre Go.RowKit
section
variable {H:Type}{P:Program}{enc:TypeId×Value->H}{W:World}{fuel:Nat}{t e:TypeId}{cs:List Value}{x:DataW H×List MemPlace}
theorem Bt{α:Type}{sz:Nat}{R:α->List Value->Prop}(aI:P.underlying t=some (.slice e))(eb:P.cellsOf e=sz)(aR:0<sz)(h:nc enc P W fuel t cs=some x)
 (ao:∀m cG y,nc enc P W m e cG=some y->∃a:α,R a (cG.map (gu P W))):
 ∃(xs:List α) (b:Option Addr) (c:Nat),cs.map (gu P W)=[.slice b xs.length c]/\dD (ku P W) e sz R (.slice b xs.length c) xs/\xs.length<=maxLen:=by
 obtain⟨b,n,c,rows,el,ds,m,ad,_,aD,a6,eM,fH,oC,Ey⟩:=adK aI eb aR h;have rY:∀i:Fin n,∃a:α,R a (((rows.map (gu P W)).drop (i.1*sz)).take sz):=fun i=>by
  obtain⟨aL,aG,y,bt,du⟩:=fH i.1 _ (ey (show i.1<el.length by have:=i.2;omega));obtain⟨a,r⟩:=ao _ _ _ du;refine⟨a,?_⟩;rw[<-V',<-DH,aG];exact r
 refine⟨List.ofFn fun i=>Classical.choose (rY i),b,c,by rw[V6];exact ad,⟨rows.map (gu P W),by rw[V6];exact aD e,fun i a aF=>?_⟩,by rw[V6];exact Ey⟩;have ak:i<n:=by have:=(ff.1 aF).1;simpa using this
 rw[List.getElem?_ofFn,dif_pos ak] at aF;injection aF with aF
 rw[<-aF];exact VL (rY ⟨i,ak⟩)
end
end
end Go.Opn
namespace Go.Cre
noncomputable section
end
end Go.Cre
namespace Go.Opn
noncomputable section
open Go Go.Cre Go.RowKit Go.Proofs Go.ChangeShapes Go.WideShapes Go.ChangeAt
open Go.Proofs.YtjbbbehaciogcaaGreatDoor
abbrev PP:=Tryz.prog
theorem nd:PP.underlying 3=some (.int .i64):=by kernel_rfl
theorem aeu:PP.underlying 27=some (.slice 44):=by kernel_rfl
theorem av2:PP.underlying 44=some (.slice 37):=by kernel_rfl
theorem av1:PP.underlying 35=some (.slice 78):=by kernel_rfl
theorem av3:PP.underlying 78=some (.int .u32):=by kernel_rfl
theorem av0:PP.underlying 28=some (.slice 45):=by kernel_rfl
theorem N9:PP.underlying 45=some (.slice 3):=by kernel_rfl
theorem Dd:PP.underlying 4=some .bool:=by kernel_rfl
theorem Bh:PP.cellsOf 78=1:=by kernel_rfl
theorem ej:PP.cellsOf 4=1:=by kernel_rfl
theorem qP:PP.cellsOf 35=1:=by kernel_rfl
theorem vH:PP.cellsOf 37=3:=by kernel_rfl
theorem rK:PP.cellsOf 44=1:=by kernel_rfl
theorem oy:PP.cellsOf 45=1:=by kernel_rfl
theorem GU:PP.cellsOf 28=1:=by kernel_rfl
theorem Bc:PP.cellsOf 30=2:=by kernel_rfl
theorem at7:y4 PP 37=some 3:=by kernel_rfl
theorem adq:y4 PP 30=some 2:=by kernel_rfl
theorem akL:nW PP 37 0=some (4,0):=by kernel_rfl
theorem akM:nW PP 37 1=some (35,1):=by kernel_rfl
theorem akN:nW PP 37 2=some (35,2):=by kernel_rfl
theorem akJ:nW PP 30 0=some (3,0):=by kernel_rfl
theorem akK:nW PP 30 1=some (28,1):=by kernel_rfl
theorem cc:PP.cellsOf 3=1:=by kernel_rfl
theorem avY:PP.underlying 22=some (.slice 72):=by kernel_rfl
theorem avZ:PP.underlying 23=some (.slice 59):=by kernel_rfl
theorem aho:PP.cellsOf 22=1:=by kernel_rfl
theorem ms:PP.cellsOf 23=1:=by kernel_rfl
theorem qO:PP.cellsOf 25=3:=by kernel_rfl
theorem Lm:PP.cellsOf 72=6:=by kernel_rfl
theorem zB:PP.cellsOf 59=2:=by kernel_rfl
theorem adp:y4 PP 25=some 3:=by kernel_rfl
theorem aub:y4 PP 72=some 6:=by kernel_rfl
theorem aua:y4 PP 59=some 2:=by kernel_rfl
theorem akG:nW PP 25 0=some (3,0):=by kernel_rfl
theorem akH:nW PP 25 1=some (22,1):=by kernel_rfl
theorem akI:nW PP 25 2=some (23,2):=by kernel_rfl
theorem akQ:nW PP 72 0=some (3,0):=by kernel_rfl
theorem akR:nW PP 72 1=some (3,1):=by kernel_rfl
theorem akS:nW PP 72 2=some (3,2):=by kernel_rfl
theorem akT:nW PP 72 3=some (45,3):=by kernel_rfl
theorem akU:nW PP 72 4=some (45,4):=by kernel_rfl
theorem akV:nW PP 72 5=some (45,5):=by kernel_rfl
theorem akO:nW PP 59 0=some (3,0):=by kernel_rfl
theorem akP:nW PP 59 1=some (3,1):=by kernel_rfl
theorem apA{P:Program}{W:World}{base:Nat}{t:TypeId}{v:Value}{k:IntKind}(hu:P.underlying t=some (.int k))(h:Value.okWide P W .any base t v):v.cells.toList=[v]:=by
 unfold Value.okWide at h;rw[hu] at h;simp only at h;unfold Cell.okWide at h;rw[hu] at h;cases v with
 |agg cs=>simp[Cell.ok,hu] at h
 |_=>rfl
theorem trodAll_four{H:Type}{enc:TypeId×Value->H}{P:Program}{w:World}{base:Nat}{spare:Nat->Bool}{held:Bool}{t0 t1 t2 t3:TypeId}{args:Array Value}{ds:List (DataW H)}{ps:List MemPlace}(h:DataW.TrodAll enc P w base spare held [t0,t1,t2,t3] args.toList ds ps):
 ∃v0 v1 v2 rq d0 d1 d2 d3 jQ dg gp lu,args=#[v0,v1,v2,rq]/\ds=[d0,d1,d2,d3]/\ps=jQ++dg++gp++lu/\DataW.Trod enc P w base spare held t0 v0 d0 jQ/\DataW.Trod enc P w base spare held t1 v1 d1 dg/\DataW.Trod enc P w base spare held t2 v2 d2 gp/\DataW.Trod enc P w base spare held t3 rq d3 lu:=by
 obtain⟨v0,aeY,d0,ayo,jQ,hZ,aF,rfl,rfl,aR,h⟩:=trodAll_cons h;obtain⟨v1,awR,d1,vQ,dg,aL,rfl,rfl,rfl,ad,h⟩:=trodAll_cons h;obtain⟨v2,aA9,d2,ayp,gp,aG,rfl,rfl,rfl,ae,h⟩:=trodAll_cons h;obtain⟨rq,aA',d3,ayq,lu,bt,rfl,rfl,rfl,aD,h⟩:=trodAll_cons h;obtain⟨rfl,rfl,rfl⟩:=trodAll_nil h;exact⟨v0,v1,v2,rq,d0,d1,d2,d3,jQ,dg,gp,lu,by cases args;simp_all,rfl,by simp,aR,ad,ae,aD⟩
theorem auI{P:Program}{W:World}{base:Nat}{t e:TypeId}{v:Value}(hu:P.underlying t=some (.slice e))(h:Value.okWide P W .any base t v):v.cells.toList=[v]:=by
 unfold Value.okWide at h;rw[hu] at h;simp only at h;unfold Cell.okWide at h;rw[hu] at h;cases v with
 |agg cs=>simp[Cell.ok,hu] at h
 |_=>rfl
theorem atV{W:World}{g:Nat}{t:TypeId}{f:Nat×Nat}(h:W.heap[g]?=some (.cells (cj .u8 qC).toArray t f)):ku PP W g=some (cj .u8 qC,t):=by
 show uX PP W g=_;rw[NT (UB h)];have e:(cj .u8 qC).toArray.toList.map (gu PP W)=cj .u8 qC:=by
  unfold cj;rw[List.toList_toArray,OP];exact V9 fun b _=>DW rfl
 rw[e]
theorem aqr{H:Type}{enc:TypeId×Value->H}{P:Program}{W:World}{fuel:Nat}{t:TypeId}{cs:List Value}{x:DataW H×List MemPlace}(aI:P.underlying t=some (.int .u32))(h:nc enc P W fuel t cs=some x):∃y:Nat,cs.map (gu P W)=[.int .u32 (y:Int)]:=by
 obtain⟨i,rfl,_,wq⟩:=DataW.trod_int aI h;have ao:0<=i:=by
  have wq:(decide (IntKind.u32.min<=i)&&decide (i<=IntKind.u32.max))=true:=wq;rw[gr] at wq;exact CP wq.1
 exact⟨i.toNat,by rw[rD,DW rfl,show((i.toNat:Nat):Int)=i by omega];rfl⟩
theorem arG{J:aj}{e:TypeId}{v:Value}{l:List Nat}(h:dD J e 1 (fun(z:Nat) cs=>cs=[.int .u32 (z:Int)]) v l):c9 .u32 J v l:=by
 obtain⟨cs,ad,ae⟩:=h;refine⟨e,?_⟩;have aq:=ad.len;have ax:cs=cj .u32 l:=by
  refine ss fun i=>?_;by_cases ak:i<l.length
  ·have aD:=ae i _ (ey ak);have a6:((cs.drop (i*1)).take 1)[0]?=cs[i]?:=by rw[jY,aV I,o0,ha,iD]
   rw[aD] at a6;rw[<-a6,Ns (ey ak)];rfl
  ·rw[jX I,jX (by rw[r8];omega)]
 rw[<-ax];exact ad
theorem abQ{H:Type}{enc:TypeId×Value->H}{W:World}{fuel:Nat}{cs:List Value}{x:DataW H×List MemPlace}(h:nc enc PP W fuel 35 cs=some x):∃(l:List Nat) (b:Option Addr) (c:Nat),cs.map (gu PP W)=[.slice b l.length c]/\c9 .u32 (ku PP W) (.slice b l.length c) l:=by
 obtain⟨l,b,c,ad,ae,_⟩:=Bt (α:=Nat) (R:=fun z cs=>cs=[.int .u32 (z:Int)]) av1 Bh Nat.one_pos h fun m cG y ap=>aqr av3 ap;exact⟨l,b,c,ad,arG ae⟩
theorem ats{H:Type}{enc:TypeId×Value->H}{W:World}{fuel:Nat}{cs:List Value}{x:DataW H×List MemPlace}(h:nc enc PP W fuel 37 cs=some x):∃a:cf,Dr (ku PP W) a (cs.map (gu PP W)):=by
 obtain⟨n,aq,aA⟩:=J1 at7 h;rw[vH] at aq;obtain⟨kQ,aR,_⟩:=aA 0 4 0 1 bI akL ej;obtain⟨hz,ad,_⟩:=aA 1 35 1 1 bI akM qP;obtain⟨iX,ae,_⟩:=aA 2 35 2 1 bI akN qP
 match cs,aq,aR,ad,ae with
 |[p,q,r],_,aR,ad,ae=>
  obtain⟨mZ,hb⟩:∃mZ:Bool,[p]=[Value.bool mZ]:=by
   obtain⟨mZ,e,_⟩:=DataW.trod_bool Dd aR;exact⟨mZ,e⟩
  obtain⟨ec,a',bb,ax,aW⟩:=abQ ad;obtain⟨dA,bf,br,aS,aT⟩:=abQ ae;injection hb with hb _
  subst hb;refine⟨⟨mZ,ec,dA⟩,.slice a' ec.length bb,.slice bf dA.length br,?_,⟨aW,aT⟩⟩;have ax:gu PP W q=.slice a' ec.length bb:=by have:[gu PP W q]=[.slice a' ec.length bb]:=ax;injection this
  have aS:gu PP W r=.slice bf dA.length br:=by have:[gu PP W r]=[.slice bf dA.length br]:=aS;injection this
  show[gu PP W (.bool mZ),gu PP W q,gu PP W r]=_;rw[ax,aS,DW rfl]
theorem awL{H:Type}{enc:TypeId×Value->H}{W:World}{fuel:Nat}{cs:List Value}{x:DataW H×List MemPlace}(h:nc enc PP W fuel 44 cs=some x):∃(l:List cf) (b:Option Addr) (c:Nat),cs.map (gu PP W)=[.slice b l.length c]/\dD (ku PP W) 37 3 (Dr (ku PP W)) (.slice b l.length c) l/\l.length<=9223372036854775807:=by
 obtain⟨l,b,c,ad,ae,aD⟩:=Bt (α:=cf) (R:=Dr (ku PP W)) av2 vH bI h fun m cG y ap=>ats ap;have rZ:maxLen=9223372036854775807:=by decide
 exact⟨l,b,c,ad,ae,I⟩
theorem XX{α:Type}{J:aj}{e:TypeId}{sz:Nat}{R:α->List Value->Prop}{P:α->Prop}{v:Value}{xs:List α}(h:dD J e sz (fun x cs=>R x cs/\P x) v xs):dD J e sz R v xs/\∀x∈xs,P x:=by
 obtain⟨cs,ad,ae⟩:=h;refine⟨⟨cs,ad,fun i x aa=>(ae i x aa).1⟩,fun x aa=>?_⟩;obtain⟨i,ak⟩:=afK aa;exact(ae i x ak).2
theorem apz{J:aj}{e:TypeId}{v:Value}{l:List Int}(h:dD J e 1 (fun(z:Int) cs=>cs=[.int .i64 z]) v l):iL J v l:=by
 obtain⟨cs,ad,ae⟩:=h;refine⟨e,?_⟩;have aq:=ad.len;have ax:cs=l.map (Value.int .i64):=by
  refine ss fun i=>?_;by_cases ak:i<l.length
  ·have aD:=ae i _ (ey ak);have a6:((cs.drop (i*1)).take 1)[0]?=cs[i]?:=by rw[jY,aV I,o0,ha,iD]
   rw[aD] at a6;rw[<-a6,lC,ey ak];rfl
  ·rw[jX I,jX (by rw[j0];omega)]
 rw[<-ax];exact ad
section
variable {H:Type}{enc:TypeId×Value->H}{W:World}{fuel:Nat}{cs:List Value}{x:DataW H×List MemPlace}
theorem aqY(h:nc enc PP W fuel 27 cs=some x):∃(m:List (List cf)) (b:Option Addr) (c:Nat),cs.map (gu PP W)=[.slice b m.length c]/\dD (ku PP W) 44 1 (eJ (Gg (ku PP W))) (.slice b m.length c) m/\m.length<=9223372036854775807/\∀l∈m,l.length<=9223372036854775807:=by
 obtain⟨m,b,c,ad,ae,aD⟩:=Bt (α:=List cf) (R:=fun l cs=>eJ (Gg (ku PP W)) l cs/\l.length<=9223372036854775807) aeu rK Nat.one_pos h fun n cG y ap=>by
  obtain⟨l,b,c,aW,aT,bo⟩:=awL ap;exact⟨l,⟨_,aW,b,c,rfl,aT⟩,bo⟩
 have rZ:maxLen=9223372036854775807:=by decide
 obtain⟨a6,eM⟩:=XX ae;exact⟨m,b,c,ad,a6,I,eM⟩
theorem at0(h:nc enc PP W fuel 28 cs=some x):∃(m:List (List Int)) (b:Option Addr) (c:Nat),cs.map (gu PP W)=[.slice b m.length c]/\dD (ku PP W) 45 1 (eJ (qJ (ku PP W))) (.slice b m.length c) m/\m.length<=9223372036854775807/\∀l∈m,l.length<=9223372036854775807:=by
 have rZ:maxLen=9223372036854775807:=by decide
 obtain⟨m,b,c,ad,ae,aD⟩:=Bt (α:=List Int) (R:=fun l cs=>eJ (qJ (ku PP W)) l cs/\l.length<=9223372036854775807) av0 oy Nat.one_pos h fun n cG y ap=>by
  obtain⟨l,b,c,aW,aT,bo⟩:=Bt (α:=Int) (R:=fun(z:Int) cs=>cs=[.int .i64 z]) N9 cc Nat.one_pos ap fun n cG y ap=>by
   obtain⟨i,_,k⟩:=yw nd ap;exact⟨i,k⟩
  exact⟨l,⟨_,aW,apz aT⟩,I⟩
 obtain⟨a6,eM⟩:=XX ae;exact⟨m,b,c,ad,a6,I,eM⟩
theorem avv(h:nc enc PP W fuel 30 cs=some x):∃(z:Int) (m:List (List Int)) (b:Option Addr) (c:Nat),cs.map (gu PP W)=[.int .i64 z,.slice b m.length c]/\dD (ku PP W) 45 1 (eJ (qJ (ku PP W))) (.slice b m.length c) m/\m.length<=9223372036854775807/\∀l∈m,l.length<=9223372036854775807:=by
 obtain⟨n,aq,aA⟩:=J1 adq h;rw[Bc] at aq;obtain⟨kQ,aR,_⟩:=aA 0 3 0 1 bI akJ cc;obtain⟨hz,ad,_⟩:=aA 1 28 1 1 bI akK GU
 match cs,aq,aR,ad with
 |[p,q],_,aR,ad=>
  obtain⟨z,_,hb⟩:=yw nd aR;obtain⟨m,b,c,ax,aW,aT,bo⟩:=at0 ad;refine⟨z,m,b,c,?_,aW,aT,bo⟩;have hb:gu PP W p=.int .i64 z:=by have:[gu PP W p]=[.int .i64 z]:=hb;injection this
  have ax:gu PP W q=.slice b m.length c:=by have:[gu PP W q]=[.slice b m.length c]:=ax;injection this
  show[gu PP W p,gu PP W q]=_;rw[hb,ax]
end
theorem aqj{α:Type}{l:List α}(h:l.length=6):∃a b c d e f,l=[a,b,c,d,e,f]:=by
 match l,h with
 |[a,b,c,d,e,f],_=>exact⟨a,b,c,d,e,f,rfl⟩
theorem aqi{α:Type}{l:List α}(h:l.length=3):∃a b c,l=[a,b,c]:=by
 match l,h with
 |[a,b,c],_=>exact⟨a,b,c,rfl⟩
theorem aqh{α:Type}{l:List α}(h:l.length=2):∃a b,l=[a,b]:=by
 match l,h with
 |[a,b],_=>exact⟨a,b,rfl⟩
section
variable {H:Type}{enc:TypeId×Value->H}{W:World}{fuel:Nat}{cs:List Value}{x:DataW H×List MemPlace}
theorem aru(h:nc enc PP W fuel 72 cs=some x):∃a:eY,vt (ku PP W) a (cs.map (gu PP W)):=by
 obtain⟨n,ad,ae⟩:=J1 aub h;rw[Lm] at ad;obtain⟨v0,v1,v2,rq,v4,aeB,rfl⟩:=aqj ad;obtain⟨kQ,g0,_⟩:=ae 0 3 0 1 I akQ cc;obtain⟨hz,b4,_⟩:=ae 1 3 1 1 I akR cc;obtain⟨iX,bZ,_⟩:=ae 2 3 2 1 I akS cc;obtain⟨l1,cH,_⟩:=ae 3 45 3 1 I akT oy;obtain⟨tu,fX,_⟩:=ae 4 45 4 1 I akU oy;obtain⟨og,gf,_⟩:=ae 5 45 5 1 I akV oy;obtain⟨i0,_,hb⟩:=yw nd g0;obtain⟨i1,_,ax⟩:=yw nd b4;obtain⟨i2,_,aS⟩:=yw nd bZ;obtain⟨ib,bV,ahq,cl,bo⟩:=Tk N9 nd cc cH;obtain⟨j8,dx,ahr,dS,cu⟩:=Tk N9 nd cc fX;obtain⟨ap2,fs,ahs,cx,fm⟩:=Tk N9 nd cc gf;simp at hb ax aS cl dS cx;exact⟨⟨i0,i1,i2,ib,j8,ap2⟩,bV,ahq,dx,ahr,fs,ahs,by simp[hb,ax,aS,cl,dS,cx],⟨3,bo 3⟩,⟨3,cu 3⟩,⟨3,fm 3⟩⟩
theorem apx(h:nc enc PP W fuel 59 cs=some x):∃a:Int×Int,KC a (cs.map (gu PP W)):=by
 obtain⟨n,ad,ae⟩:=J1 aua h;rw[zB] at ad;obtain⟨v0,v1,rfl⟩:=aqh ad;obtain⟨kQ,g0,_⟩:=ae 0 3 0 1 I akO cc;obtain⟨hz,b4,_⟩:=ae 1 3 1 1 I akP cc;obtain⟨i0,_,hb⟩:=yw nd g0;obtain⟨i1,_,ax⟩:=yw nd b4;simp at hb ax;exact⟨(i0,i1),by unfold KC;simp[hb,ax]⟩
theorem alr(h:nc enc PP W fuel 25 cs=some x):∃(g:db) (cg:Option Addr) (bS:Nat) (bi:Option Addr) (ci:Nat),cs.map (gu PP W)=np g cg bS bi ci/\pE (ku PP W) g cg bS bi ci/\g.ns.length<=maxLen:=by
 obtain⟨n,ad,ae⟩:=J1 adp h;rw[qO] at ad;obtain⟨v0,v1,v2,rfl⟩:=aqi ad;obtain⟨kQ,g0,_⟩:=ae 0 3 0 1 I akG cc;obtain⟨hz,b4,_⟩:=ae 1 22 1 1 I akH aho;obtain⟨iX,bZ,_⟩:=ae 2 23 2 1 I akI ms;obtain⟨i0,_,hb⟩:=yw nd g0;obtain⟨ns,cg,bS,ax,aW,apL⟩:=Bt (R:=vt (ku PP W)) avY Lm I b4 (fun _ _ _ q=>aru q);obtain⟨apH,bi,ci,aS,aT,az6⟩:=Bt (R:=KC) avZ zB I bZ (fun _ _ _ q=>apx q);simp at hb ax aS;exact⟨⟨i0,ns,apH⟩,cg,bS,bi,ci,by simp[hb,ax,aS],⟨aW,aT⟩,apL⟩
end
theorem WN{P:Program}{W:World}{base:Nat}{t:TypeId}{v:Value}{k:Nat}(hk:y4 P t=some k)(h:Value.okWide P W .any base t v):∃cs,v=.agg cs:=by
 unfold y4 at hk;split at hk
 ·rename_i e5 hu;unfold Value.okWide at h;rw[hu] at h;obtain⟨cs,q,_⟩:=h;exact⟨cs,q⟩
 ·cases hk
open Go.Proofs.YtjbbbehaciogcaaGreatDoor
theorem own:ownKnob Tryz.prog.godebug=none:=by kernel_rfl
theorem Q3:Tryz.prog.globalNamed "math/bits.deBruijn64tab"=some 2:=by kernel_rfl
theorem alp:(Tryz.prog.globals[2]?).map (·.type)=some 188:=by kernel_rfl
theorem alq:Tryz.prog.underlying 188=some (.array 64 5):=by kernel_rfl
theorem aln:Tryz.prog.underlying 5=some (.int .u8):=by kernel_rfl
theorem alo:Tryz.prog.cellsOf 5=1:=by kernel_rfl
theorem alm:Tryz.prog.cellsOf 188=64:=by kernel_rfl
theorem Ys:(((begin Tryz.prog (fun _ _=>0) default).world.heap[2]?).bind Obj.row?).map (·.2)=some 188:=by kernel_rfl
theorem Yr:2<Tryz.prog.globals.size:=by decide+kernel
theorem tables{W:World}(h:laidMetH Tryz.prog Rows.tableLossesRow.laid W):Lib.TabIs Tryz.prog W "math/bits.deBruijn64tab" .u8 T6:=by
 have aR:laidMet Tryz.prog [("math/bits.deBruijn64tab",Lib.tabData .u8 T6)] W:=h;exact Lib.tabIs_of_head Q3 alp alq aln alo alm aR
theorem first{W:World}(h:laidMetH Tryz.prog Rows.tableLossesRow.laid W)(hs:W.ShapedOpen Tryz.prog):Laid Tryz.prog W H0:=by
 refine ap5 fun g e cells hm=>?_;have aI:=tables h;simp only[aea,gj,dr,OR,or_false] at hm;obtain⟨rfl,rfl,rfl⟩:=hm;exact⟨by decide,aaF Q3 Yr Ys hs aI,by kernel_rfl,by decide+kernel⟩
theorem aqy:∃c,Tryz.f6.body=some c:=⟨_,rfl⟩
theorem ap7:∃c,Tryz.f3.body=some c:=⟨_,rfl⟩
theorem laidOut:laidOutB Tryz.prog=true:=by kernel_rfl
theorem atz:∀t∈Tryz.f3.params.toList,PP.readableRec t=true/\t<PP.types.size:=by
 intro t aI;rw[Tryz.params3] at aI;simp only[gj,OR,or_false] at aI;rcases aI with rfl|rfl|rfl|rfl<;>exact⟨by kernel_rfl,CP (by kernel_rfl)⟩
set_option maxRecDepth 100000 in
theorem aiD(H:Type)(enc:TypeId×Value->H)(W:World)(base:Nat)(args:Array Value)(ds gs:List (DataW H))(before:List MemPlace)
 (k4:∀(j:Nat) t v,Tryz.f3.params[j]?=some t->args[j]?=some v->Value.okWide Tryz.prog W .any base t v)
 (hN:DataW.Whole enc Tryz.prog Tryz.f3.params.toList Rows.tableLossesSpec.vars false W args.toList ds gs before)
 (aM:(DataW.weightsEach Tryz.prog Tryz.f3.params.toList ds).all (·<=reachBytes)=true)
 (a9:laidMetH Tryz.prog Rows.tableLossesRow.laid W)(al:W.ShapedOpen Tryz.prog):
 Calls Tryz.prog 3 args W fun e ot=>∃v,e=.returned v/\Rows.tableLossesSpec.post enc Tryz.prog Tryz.f3 false true false false W args v ot:=by
 have Rz:=hN;obtain⟨p,q,hU,iR,rfl,R0,eh⟩:=hN;have eS:DataW.TrodAll enc Tryz.prog W 0 (fun _=>true) true Tryz.f3.params.toList args.toList ds p:=hU;obtain⟨rfl,rfl⟩:=trodVars_none iR;rw[Tryz.params3] at eS k4 aM;obtain⟨v0,v1,v2,rq,d0,d1,d2,d3,jQ,dg,gp,lu,rfl,rfl,rfl,⟨Ji,t0⟩,⟨b1,t1⟩,⟨df,t2⟩,⟨ef,t3⟩⟩:=trodAll_four eS;obtain⟨dn,rfl⟩:=WN adp (k4 0 25 v0 rfl rfl);have p5:=apA nd (k4 1 3 v1 rfl rfl);have gm:=auI aeu (k4 2 27 v2 rfl rfl);obtain⟨cm,rfl⟩:=WN adq (k4 3 30 rq rfl rfl);rw[p5] at t1;rw[gm] at t2;obtain⟨g,cg,bS,bi,ci,hb,z1,wa⟩:=alr t0;obtain⟨i1,_,ax⟩:=yw nd t1;obtain⟨l,tM,MW,aS,aq,l9,anW⟩:=aqY t2;obtain⟨z,k,PQ,yx,cl,hk,mw,anP⟩:=avv t3;simp at ax aS;have Cc:maxLen=9223372036854775807:=by decide
 obtain⟨Lp,um⟩:=aqy;obtain⟨zD,m5⟩:=ap7;have Zi:=first a9 al;obtain⟨fE,acW⟩:=aaF Q3 Yr Ys al (tables a9);have lt:=(Oy.1 acW).1
 have bM:=ap8 (Q:=Vn Tryz.prog H0) (g0:=W.heap.size) (J:=ku PP W) (g:=g) (pl:=i1) (m:=l) (ts:=k) (U5:=z) (cg:=cg) (bi:=bi) (bS:=bS) (ci:=ci) (b:=tM) (b':=PQ) (c:=MW) (c':=yx)
  (fun J=>Fn.closed (K:=aU (Vn Tryz.prog H0) W.heap.size) (H0:=H0) rfl Tryz.func6 um (fun _ _ h=>h) (fun w h=>aiq (acC re num) Tryz.func6 um h aqx))
  (atV acW) (by simpa[Nat.blt,xd] using lt) z1 (by omega) aq l9 anW hk mw anP
 have Y6:∀(a:Array Value) (cs:List Value),a.toList.map (gu PP W)=cs->bj (qn PP W) (.agg cs.toArray) (.agg a):=fun a cs he=>by
  have:=bj.GC (μ:=qn PP W) (l:=a.toList.map (gu PP W)) (l':=a.toList) ⟨by simp,fun i v v' x y=>by
   rw[lC,y] at x;injection x with x;subst x;exact K5 v'⟩
  rw[he] at this;exact this
 have ID:b3 (qn PP W) [uc g cg bS bi ci,.int .i64 i1,.slice tM l.length MW,.agg #[.int .i64 z,.slice PQ k.length yx]] (#[.agg dn,v1,v2,.agg cm]:Array Value).toList:=by
  have hZ:=Y6 dn _ hb;have bt:=Y6 cm _ cl;have aL:=K5 (P:=PP) (w:=W) v1;have aG:=K5 (P:=PP) (w:=W) v2;rw[ax] at aL;rw[aS] at aG;exact .cons hZ (.cons aL (.cons aG (.cons bt (.nil _))))
 refine(asw (K:=aU (Vn Tryz.prog H0) W.heap.size) (w:=W) (b:=true) ⟨Zi,Zi.yu⟩ rfl Tryz.func3 m5 ID bM).mono fun e ot bQ=>?_;obtain⟨he,ai⟩:=bQ;subst he;exact⟨_,rfl,asS Rz ai laidOut atz rfl rfl rfl (fun _ _ _=>trodAll_cons_mk (shut_bool Tryz.underlying4 _) trodAll_mk0)⟩
def Tr (os:Os):World:=World.doorLaid Tryz.prog 400 os
def K8:Array Value:=#[.agg #[.int .i64 0,.slice none 0 0,.slice none 0 0],.int .i64 0,.slice none 0 0,.agg #[.int .i64 0,.slice none 0 0]]
def aiT{H:Type}:List (DataW H):=[.agg [.lit (.int .i64 0),.nil,.nil],.lit (.int .i64 0),.nil,.agg [.lit (.int .i64 0),.nil]]
theorem ap4(os:Os):laidMetH Tryz.prog Rows.tableLossesRow.laid ((Tr os).forCall (fun _ _=>0) ⟨#[],K8,[]⟩).memory:=
 laidMetH_of_parts3 (fuel:=8) (laidMet_of_run' 8 (by kernel_rfl) (by kernel_rfl)) (by kernel_rfl) (by kernel_rfl)
theorem reads(os:Os){H:Type}(enc:TypeId×Value->H):∃places,DataW.whole enc Tryz.prog ((Tr os).forCall (fun _ _=>0) ⟨#[],K8,[]⟩).memory Tryz.f3.params.toList Rows.tableLossesSpec.vars false K8.toList 8=some (aiT,[],places):=
 ⟨[],by kernel_rfl⟩
set_option maxRecDepth 100000 in
theorem lifted(os:Os)(started:os.Started)(H:Type)(enc:TypeId×Value->H)(F:Stop.Interp):
 ReturnsInHanded {} Tryz.checked os 3 .any ((OpenSpec.ofChange Rows.tableLossesSpec).preRow enc Tryz.prog Tryz.f3 Rows.tableLossesRow.domain false Rows.tableLossesRow.laid) (((OpenSpec.ofChange Rows.tableLossesSpec).at F).post enc Tryz.prog Tryz.f3 false true false false):=by
 obtain⟨places,aa⟩:=reads os enc
 refine returnsInHanded_of_row (C:=Tryz.checked) (s:=OpenSpec.ofChange Rows.tableLossesSpec) own started (by kernel_rfl) Tryz.func3
  (witness_row_at (enc:=enc) (C:=Tryz.checked) false (Tr os) K8 rfl (by kernel_rfl) (by kernel_rfl) (by kernel_rfl)
   (OpenSpec.preRow_of_cond 8 aa (by kernel_rfl) (fun k hk=>by cases hk) (by kernel_rfl) (ap4 os))) ?_
 intro W base args ds gs before k4 hN _ _ aM a9 al _;have ay:gs=[]:=by
  obtain⟨p,q,_,iR,_⟩:=hN;exact(trodVars_none iR).1
 subst ay;refine aiD H enc W base args ds [] before k4 hN ?_ a9 al;have q6:(OpenSpec.ofChange Rows.tableLossesSpec).bare.plain.varTypes Tryz.checked.prog=[]:=by kernel_rfl
 rw[q6,hi,hi] at aM;exact aM
theorem said:Rows.TableLossesSaid:=
 OpenClaim.holds_of_cond 3 Tryz.f3 rfl rfl rfl rfl rfl rfl rfl ⟨rfl,rfl,rfl,rfl,rfl⟩ rfl rfl rfl rfl rfl (by kernel_rfl) Tryz.func3 (by kernel_rfl)
  (CP (by kernel_rfl)) (by unfold Func.isWrapper;first|(rw[aV (by decide+kernel)];kernel_rfl)|(rw[aQ (by decide+kernel)];exact⟨rfl,rfl⟩))
  (fun os started H enc _ F=>by rw[OpenClaim.pre_eq_preRow];exact lifted os started H enc F)
theorem ava:Tryz.prog.wantsStandIn 25=false:=by kernel_rfl
theorem avb:Tryz.prog.wantsStandIn 27=false:=by kernel_rfl
theorem avd:Tryz.prog.wantsStandIn 30=false:=by kernel_rfl
theorem avc:Tryz.prog.wantsStandIn 3=false:=by kernel_rfl
theorem oQ(f:FuncId)(fn:Func)(aA:Tryz.pinned.checked.prog.funcNamed "parlour/parlourlaw31.TableLosses"=some f)(EM:Tryz.pinned.checked.prog.funcs[f]?=some fn):
 true=Tryz.pinned.checked.prog.looks []/\∀(j:Nat) t,fn.params[j]?=some t->Tryz.pinned.checked.prog.wantsStandIn t=false:=by
 obtain rfl:f=3:=DQ ((show Tryz.prog.funcNamed "parlour/parlourlaw31.TableLosses"=some 3 by kernel_rfl).symm.trans aA) |>.symm
 obtain rfl:fn=Tryz.f3:=(DQ (Tryz.func3.symm.trans EM)).symm;refine⟨by kernel_rfl,fun j t aI=>?_⟩;rw[Tryz.params3] at aI
 match j,aI with
 |0,aI=>simp at aI;subst aI;exact ava
 |1,aI=>simp at aI;subst aI;exact avc
 |2,aI=>simp at aI;subst aI;exact avb
 |3,aI=>simp at aI;subst aI;exact avd
 |j+4,aI=>simp at aI
theorem card:Rows.TableLossesCardSaid:=
 Claim7.holds_tied_plain_at .later [] _ _ _ _ said (fun _ h=>by cases h) (by kernel_rfl) (fun _ h=>by cases h) tableLosses_row_tie rfl ⟨rfl,rfl⟩ (by kernel_rfl) rfl oQ (by kernel_rfl)
end
end Go.Opn
namespace Go.Proofs.YtjbbbehaciogcaaGreatDoor
theorem openTableLosses : Rows.TableLossesCardSaid := Go.Opn.card
end Go.Proofs.YtjbbbehaciogcaaGreatDoor
