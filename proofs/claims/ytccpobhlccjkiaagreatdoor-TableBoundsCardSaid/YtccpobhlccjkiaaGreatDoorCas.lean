/- The law TableBounds returns true, whatever its arguments, and they read afterwards as before: the card of TableBounds. Conditions: none beyond the row's own; the listed variables are as the program's text lays them (the tie is given). -/
import Derived.Test.YtccpobhlccjkiaaGreatDoorCar
set_option linter.defProp false
set_option maxRecDepth 100000
set_option linter.unusedVariables false
namespace Go.Opn
noncomputable section
open Go Go.Cre Go.RowKit Go.Proofs Go.ChangeShapes Go.WideShapes Go.ChangeAt
open Go.Proofs.YtccpobhlccjkiaaGreatDoor
def own:ownKnob Tryz.prog.godebug=none:=by kernel_rfl
def R9:Tryz.prog.globalNamed "math/bits.deBruijn64tab"=some 2:=by kernel_rfl
def aoh:(Tryz.prog.globals[2]?).map (·.type)=some 207:=by kernel_rfl
def aoi:Tryz.prog.underlying 207=some (.array 64 5):=by kernel_rfl
def aof:Tryz.prog.underlying 5=some (.int .u8):=by kernel_rfl
def aog:Tryz.prog.cellsOf 5=1:=by kernel_rfl
def aoe:Tryz.prog.cellsOf 207=64:=by kernel_rfl
def aaw:(((begin Tryz.prog (fun _ _=>0) default).world.heap[2]?).bind Obj.row?).map (·.2)=some 207:=by kernel_rfl
def aav:2<Tryz.prog.globals.size:=by decide+kernel
def tables{W:World}(h:laidMetH Tryz.prog Rows.tableBoundsRow.laid W):Lib.TabIs Tryz.prog W "math/bits.deBruijn64tab" .u8 Vz:=by
 have aQ:laidMet Tryz.prog [("math/bits.deBruijn64tab",Lib.tabData .u8 Vz)] W:=h;exact Lib.tabIs_of_head R9 aoh aoi aof aog aoe aQ
def first{W:World}(h:laidMetH Tryz.prog Rows.tableBoundsRow.laid W)(hs:W.ShapedOpen Tryz.prog):Laid Tryz.prog W H0:=by
 refine ats fun g e cells hm=>?_;have aM:=tables h;simp only[agC,fs,c8,Lr,or_false] at hm;obtain⟨rfl,rfl,rfl⟩:=hm;exact⟨by decide,ada R9 aav aaw hs aM,by kernel_rfl,by decide+kernel⟩
def atM:∃c,Tryz.f18.body=some c:=⟨_,I⟩
def atu:∃c,Tryz.f3.body=some c:=⟨_,I⟩
def laidOut:laidOutB Tryz.prog=true:=by kernel_rfl
def axF:∀t∈Tryz.f3.params.toList,PP.readableRec t=true/\t<PP.types.size:=by
 intro t aM;rw[Tryz.params3] at aM;simp only[fs,Lr,or_false] at aM;rcases aM with rfl|rfl|rfl|rfl|rfl<;>exact⟨by kernel_rfl,OE (by kernel_rfl)⟩
set_option maxRecDepth 100000 in
def alC(H:Type)(enc:TypeId×Value->H)(W:World)(base:Nat)(args:Array Value)(ds gs:List (DataW H))(before:List MemPlace)
 (qS:∀(j:Nat) t v,Tryz.f3.params[j]?=some t->args[j]?=some v->Value.okWide Tryz.prog W .any base t v)
 (k1:DataW.Whole enc Tryz.prog Tryz.f3.params.toList Rows.tableBoundsSpec.vars false W args.toList ds gs before)
 (aR:(DataW.weightsEach Tryz.prog Tryz.f3.params.toList ds).all (·<=reachBytes)=true)
 (bi:laidMetH Tryz.prog Rows.tableBoundsRow.laid W)(au:W.ShapedOpen Tryz.prog):
 Calls Tryz.prog 3 args W fun e yd=>∃v,e=.returned v/\Rows.tableBoundsSpec.post enc Tryz.prog Tryz.f3 false true false false W args v yd:=by
 have apr:=k1;obtain⟨p,q,jh,iH,rfl,To,eb⟩:=k1;have gn:DataW.TrodAll enc Tryz.prog W 0 (fun _=>true) true Tryz.f3.params.toList args.toList ds p:=jh;obtain⟨rfl,rfl⟩:=trodVars_none iH;rw[Tryz.params3] at gn qS aR;obtain⟨d',v1,v2,nH,v4,d0,d1,d2,d3,d4,hQ,dj,ht,jx,m3,rfl,rfl,rfl,⟨Vh,t0⟩,⟨bH,t1⟩,⟨c2,t2⟩,⟨fb,t3⟩,⟨gf,t4⟩⟩:=azV gn;have my:=agd Gq (qS 0 22 d' I I);have w8:=agd Gq (qS 1 22 v1 I I);have hM:=UP mj (qS 2 3 v2 I I);have qJ:=UP mj (qS 3 3 nH I I);have apY:=UP mj (qS 4 3 v4 I I);rw[my] at t0;rw[w8] at t1;rw[hM] at t2;rw[qJ] at t3;rw[apY] at t4;obtain⟨l,cV,kl,kz,aj⟩:=acT Gq mj cE t0;obtain⟨mD,bm,km,aF,hm⟩:=acT Gq mj cE t1;obtain⟨i2,_,aV⟩:=UO mj t2;obtain⟨i3,_,cj⟩:=UO mj t3;obtain⟨i4,_,eT⟩:=UO mj t4;simp at kz aF aV cj eT;obtain⟨st,vo⟩:=atM;obtain⟨El,l8⟩:=atu;have abE:=first bi au;have rK:maxLen=9223372036854775807:=by decide
 have gY:l.length<=9223372036854775807:=by
  obtain⟨b',kM,c',_,_,_,_,Mt,_,_,_,_,_,_,sT⟩:=Ws Gq cE (by omega) t0;simp at Mt;rw[kz] at Mt;injection Mt with _ Mt _
  omega
 have Nl:mD.length<=9223372036854775807:=by
  obtain⟨b',kM,c',_,_,_,_,rA,_,_,_,_,_,_,sT⟩:=Ws Gq cE (by omega) t1;simp at rA;rw[aF] at rA;injection rA with _ rA _
  omega
 obtain⟨fR,afh⟩:=ada R9 aav aaw au (tables bi);have lt:=(PU.1 afh).1
 have bC:=atv (Q:=W8 Tryz.prog H0) (g0:=W.heap.size) (J:=xp PP W) (l:=l) (mD:=mD) (cV:=cV) (bm:=bm) (kl:=kl) (km:=km) (eH:=i2) (eQ:=i3) (ml:=i4)
  (fun J=>Fn.closed (K:=aU (W8 Tryz.prog H0) W.heap.size) (H0:=H0) I Tryz.func18 vo (fun _ _ h=>h) (fun w h=>alm (ae1 r1 num) Tryz.func18 vo h atL))
  (ax1 afh) (by simpa[Nat.blt,x'] using lt) ⟨3,aj 3⟩ gY ⟨3,hm 3⟩ Nl
 have Jp:bW (s5 PP W) [.slice cV l.length kl,.slice bm mD.length km,.int .i64 i2,.int .i64 i3,.int .i64 i4] (#[d',v1,v2,nH,v4]:Array Value).toList:=by
  have k':=D8 (P:=PP) (w:=W) d';have aN:=D8 (P:=PP) (w:=W) v1;have aH:=D8 (P:=PP) (w:=W) v2;have bo:=D8 (P:=PP) (w:=W) nH;have db:=D8 (P:=PP) (w:=W) v4;rw[kz] at k';rw[aF] at aN;rw[aV] at aH;rw[cj] at bo;rw[eT] at db;exact .cons k' (.cons aN (.cons aH (.cons bo (.cons db (.nil _)))))
 refine(av6 (K:=aU (W8 Tryz.prog H0) W.heap.size) (w:=W) (b:=true) ⟨abE,abE.zb⟩ I Tryz.func3 l8 Jp bC).mono fun e yd b3=>?_;obtain⟨he,ak⟩:=b3;subst he;exact⟨_,I,awQ apr ak laidOut axF I I I (fun _ _ _=>trodAll_cons_mk (shut_bool Tryz.underlying4 _) trodAll_mk0)⟩
def UV (os:Os):World:=World.doorLaid Tryz.prog 400 os
def LS:Array Value:=#[.slice none 0 0,.slice none 0 0,.int .i64 0,.int .i64 0,.int .i64 0]
def alS{H:Type}:List (DataW H):=[.nil,.nil,.lit (.int .i64 0),.lit (.int .i64 0),.lit (.int .i64 0)]
def atr(os:Os):laidMetH Tryz.prog Rows.tableBoundsRow.laid ((UV os).forCall (fun _ _=>0) ⟨#[],LS,[]⟩).memory:=
 laidMetH_of_parts3 (fuel:=8) (laidMet_of_run' 8 (by kernel_rfl) (by kernel_rfl)) (by kernel_rfl) (by kernel_rfl)
def reads(os:Os){H:Type}(enc:TypeId×Value->H):∃places,DataW.whole enc Tryz.prog ((UV os).forCall (fun _ _=>0) ⟨#[],LS,[]⟩).memory Tryz.f3.params.toList Rows.tableBoundsSpec.vars false LS.toList 8=some (alS,[],places):=
 ⟨[],by kernel_rfl⟩
set_option maxRecDepth 100000 in
def lifted(os:Os)(started:os.Started)(H:Type)(enc:TypeId×Value->H)(F:Stop.Interp):
 ReturnsInHanded {} Tryz.checked os 3 .any ((OpenSpec.ofChange Rows.tableBoundsSpec).preRow enc Tryz.prog Tryz.f3 Rows.tableBoundsRow.domain false Rows.tableBoundsRow.laid) (((OpenSpec.ofChange Rows.tableBoundsSpec).at F).post enc Tryz.prog Tryz.f3 false true false false):=by
 obtain⟨places,U⟩:=reads os enc
 refine returnsInHanded_of_row (C:=Tryz.checked) (s:=OpenSpec.ofChange Rows.tableBoundsSpec) own started (by kernel_rfl) Tryz.func3
  (witness_row_at (enc:=enc) (C:=Tryz.checked) false (UV os) LS I (by kernel_rfl) (by kernel_rfl) (by kernel_rfl)
   (OpenSpec.preRow_of_cond 8 U (by kernel_rfl) (fun k hk=>by cases hk) (by kernel_rfl) (atr os))) ?_
 intro W base args ds gs before qS k1 _ _ aR bi au _;have aB:gs=[]:=by
  obtain⟨p,q,_,iH,_⟩:=k1;exact(trodVars_none iH).1
 subst aB;refine alC H enc W base args ds [] before qS k1 ?_ bi au;have acz:(OpenSpec.ofChange Rows.tableBoundsSpec).bare.plain.varTypes Tryz.checked.prog=[]:=by kernel_rfl
 rw[acz,gC,gC] at aR;exact aR
def said:Rows.TableBoundsSaid:=
 OpenClaim.holds_of_cond 3 Tryz.f3 I I I I I I I ⟨I,I,I,I,I⟩ I I I I I (by kernel_rfl) Tryz.func3 (by kernel_rfl)
  (OE (by kernel_rfl)) (by unfold Func.isWrapper;first|(rw[aP (by decide+kernel)];kernel_rfl)|(rw[aG (by decide+kernel)];exact⟨I,I⟩))
  (fun os started H enc _ F=>by rw[OpenClaim.pre_eq_preRow];exact lifted os started H enc F)
def agq:Tryz.prog.wantsStandIn 22=false:=by kernel_rfl
def WA:Tryz.prog.wantsStandIn 3=false:=by kernel_rfl
def pC(f:FuncId)(fn:Func)(ay:Tryz.pinned.checked.prog.funcNamed "parlour/parlourlaw31.TableBounds"=some f)(tI:Tryz.pinned.checked.prog.funcs[f]?=some fn):
 true=Tryz.pinned.checked.prog.looks []/\∀(j:Nat) t,fn.params[j]?=some t->Tryz.pinned.checked.prog.wantsStandIn t=false:=by
 obtain rfl:f=3:=LA ((show Tryz.prog.funcNamed "parlour/parlourlaw31.TableBounds"=some 3 by kernel_rfl).symm.trans ay) |>.symm
 obtain rfl:fn=Tryz.f3:=(LA (Tryz.func3.symm.trans tI)).symm;refine⟨by kernel_rfl,fun j t aM=>?_⟩;rw[Tryz.params3] at aM
 match j,aM with
 |0,aM=>simp at aM;subst aM;exact agq
 |1,aM=>simp at aM;subst aM;exact agq
 |2,aM=>simp at aM;subst aM;exact WA
 |3,aM=>simp at aM;subst aM;exact WA
 |4,aM=>simp at aM;subst aM;exact WA
 |j+5,aM=>simp at aM
def card:Rows.TableBoundsCardSaid:=
 Claim7.holds_tied_plain_at .later [] _ _ _ _ said (fun _ h=>by cases h) (by kernel_rfl) (fun _ h=>by cases h) tableBounds_row_tie I ⟨I,I⟩ (by kernel_rfl) I pC (by kernel_rfl)
end
end Go.Opn
namespace Go.Proofs.YtccpobhlccjkiaaGreatDoor
theorem openTableBounds : Rows.TableBoundsCardSaid := Go.Opn.card
end Go.Proofs.YtccpobhlccjkiaaGreatDoor
