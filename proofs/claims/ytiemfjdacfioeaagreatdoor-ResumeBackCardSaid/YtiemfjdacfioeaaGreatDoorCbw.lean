/- The law ResumeBack returns true, whatever its arguments, and they read afterwards as before: the card of ResumeBack. Conditions: none beyond the row's own; the listed variables are as the program's text lays them (the tie is given). -/
import Derived.Shelf.Strings.Builder1
import Derived.Shelf.Strconv.Itoa0
import Derived.Shelf.Strconv.Itoa1
import Derived.Shelf.LaysM
import Derived.Shelf.Strconv.Itoa2
import Derived.Shelf.Strconv.Itoa3
import Derived.Shelf.Slices.Turned
import Derived.Ground.Names2Prog
import Derived.Shelf.Slices.SearchI
import Derived.Test.YtiemfjdacfioeaaGreatDoorProg
import Derived.Test.YtiemfjdacfioeaaGreatDoorCbv
import Derived.Test.YtiemfjdacfioeaaGreatDoorCat
import Derived.Test.YtiemfjdacfioeaaGreatDoorCards
import Derived.Test.YtiemfjdacfioeaaGreatDoorTie
import Derived.WalkKit
import Derived.ProofKit
import Derived.OpenShut
import Derived.Deep.DeepHandedRow
import Derived.Lib.LaidTab
import Derived.LaidHandle
import Derived.LaidMore
import Derived.Stop.LaidErr
import Derived.Carry
namespace Go.Proofs
open Go.Shelf
def Tryz.laysM171_ren:Go.Shelf.Ren:=⟨fun|171=>42|243=>66|246=>87|283=>101|284=>102|285=>103|286=>104|129=>113|317=>112|318=>114|319=>115|320=>116|337=>118|338=>119|n=>n,fun|3=>3|9=>9|2=>2|4=>4|171=>172|0=>0|53=>173|37=>56|5=>5|173=>176|212=>181|51=>182|20=>20|213=>183|46=>184|232=>187|233=>188|n=>n,fun|17=>0|18=>1|19=>2|n=>n⟩
theorem Tryz.laysM171:Go.Proofs.LaysM.n171 Tryz.prog Tryz.laysM171_ren:={
 mixed:=by kernel_rfl
 f129:=Tryz.func113.trans (cC some (by kernel_rfl))
 f171:=Tryz.func42.trans (cC some (by kernel_rfl))
 f243:=Tryz.func66.trans (cC some (by kernel_rfl))
 f246:=Tryz.func87.trans (cC some (by kernel_rfl))
 f283:=Tryz.func101.trans (cC some (by kernel_rfl))
 f284:=Tryz.func102.trans (cC some (by kernel_rfl))
 f285:=Tryz.func103.trans (cC some (by kernel_rfl))
 f286:=Tryz.func104.trans (cC some (by kernel_rfl))
 f317:=Tryz.func112.trans (cC some (by kernel_rfl))
 f318:=Tryz.func114.trans (cC some (by kernel_rfl))
 f319:=Tryz.func115.trans (cC some (by kernel_rfl))
 f320:=Tryz.func116.trans (cC some (by kernel_rfl))
 f337:=Tryz.func118.trans (cC some (by kernel_rfl))
 f338:=Tryz.func119.trans (cC some (by kernel_rfl))
 t0:=Tryz.underlying0
 a0:=Tryz.isAgg0
 z0:=Tryz.sizeOf0
 v0:=Tryz.zeroValue0
 t2:=Tryz.underlying2
 a2:=Tryz.isAgg2
 z2:=Tryz.sizeOf2
 v2:=Tryz.zeroValue2
 t3:=Tryz.underlying3
 a3:=Tryz.isAgg3
 z3:=Tryz.sizeOf3
 v3:=Tryz.zeroValue3
 t4:=Tryz.underlying4
 a4:=Tryz.isAgg4
 z4:=Tryz.sizeOf4
 v4:=Tryz.zeroValue4
 t5:=Tryz.underlying5
 a5:=Tryz.isAgg5
 z5:=Tryz.sizeOf5
 v5:=Tryz.zeroValue5
 t9:=Tryz.underlying9
 a9:=Tryz.isAgg9
 z9:=Tryz.sizeOf9
 v9:=Tryz.zeroValue9
 t20:=Tryz.underlying20
 a20:=Tryz.isAgg20
 z20:=Tryz.sizeOf20
 v20:=Tryz.zeroValue20
 t37:=Tryz.underlying56
 a37:=Tryz.isAgg56
 z37:=Tryz.sizeOf56
 v37:=Tryz.zeroValue56
 t46:=Tryz.underlying184
 a46:=Tryz.isAgg184
 z46:=Tryz.sizeOf184
 v46:=Tryz.zeroValue184
 t51:=Tryz.underlying182
 a51:=Tryz.isAgg182
 z51:=Tryz.sizeOf182
 v51:=Tryz.zeroValue182
 t53:=Tryz.underlying173
 a53:=Tryz.isAgg173
 z53:=Tryz.sizeOf173
 v53:=Tryz.zeroValue173
 t171:=Tryz.underlying172
 a171:=Tryz.isAgg172
 z171:=Tryz.sizeOf172
 v171:=Tryz.zeroValue172
 t173:=Tryz.underlying176
 a173:=Tryz.isAgg176
 z173:=Tryz.sizeOf176
 v173:=Tryz.zeroValue176
 t212:=Tryz.underlying181
 a212:=Tryz.isAgg181
 z212:=Tryz.sizeOf181
 v212:=Tryz.zeroValue181
 t213:=Tryz.underlying183
 a213:=Tryz.isAgg183
 z213:=Tryz.sizeOf183
 t232:=Tryz.underlying187
 a232:=Tryz.isAgg187
 z232:=Tryz.sizeOf187
 v232:=Tryz.zeroValue187
 t233:=Tryz.underlying188
 a233:=Tryz.isAgg188
 z233:=Tryz.sizeOf188
 v233:=Tryz.zeroValue188
 g17:=by kernel_rfl
 g18:=by kernel_rfl
 g19:=by kernel_rfl
 i0:=by kernel_rfl
 i2:=by kernel_rfl
 i3:=by kernel_rfl
 i4:=by kernel_rfl
 i5:=by kernel_rfl
 i9:=by kernel_rfl
 i20:=by kernel_rfl
 i37:=by kernel_rfl
 i46:=by kernel_rfl
 i51:=by kernel_rfl
 i53:=by kernel_rfl
 i171:=by kernel_rfl
 i173:=by kernel_rfl
 i212:=by kernel_rfl
 i232:=by kernel_rfl
 i233:=by kernel_rfl
 m17:=by kernel_rfl
 m18:=by kernel_rfl
 m19:=by kernel_rfl}
open Go.RowKit Go.Sort Go.Lib in
theorem Tryz.strconv_Itoa(n:Int)(bD:-9223372036854775808<=n)(aa:n<=9223372036854775807)(w:World)(ajh:Lib.TabIs Tryz.prog w "internal/strconv.uint64pow10" .u64 Lib.pow10Tab):
 Calls Tryz.prog 42 #[.int .i64 n] w fun e bu=>e=.returned (.string ⟨(Lib.itoa n).toArray⟩)/\∃k os,bu=grow (w.drewN k) os:=Any.strconv_Itoa Tryz.laysM171 n bD aa w ajh
end Go.Proofs
set_option maxRecDepth 100000
set_option linter.unusedVariables false
namespace Go.Opn
noncomputable section
open Go Go.Cre Go.RowKit Go.Proofs Go.ChangeShapes Go.WideShapes Go.ChangeAt
open Go.Proofs.YtiemfjdacfioeaaGreatDoor
abbrev PP:=Tryz.prog
theorem ke:PP.underlying 3=some (.int .i64):=by kernel_rfl
theorem Rr:PP.underlying 22=some (.slice 3):=by kernel_rfl
theorem dh:PP.cellsOf 3=1:=by kernel_rfl
theorem P6{P:Program}{W:World}{base:Nat}{t:TypeId}{v:Value}(hu:P.underlying t=some (.int .i64))(h:Value.okWide P W .any base t v):v.cells.toList=[v]:=by
 unfold Value.okWide at h;rw[hu] at h;simp only at h;unfold Cell.okWide at h;rw[hu] at h;cases v with
 |agg cs=>simp[Cell.ok,hu] at h
 |_=>rfl
theorem anE{P:Program}{W:World}{base:Nat}{t e:TypeId}{v:Value}(hu:P.underlying t=some (.slice e))(h:Value.okWide P W .any base t v):v.cells.toList=[v]:=by
 unfold Value.okWide at h;rw[hu] at h;simp only at h;unfold Cell.okWide at h;rw[hu] at h;cases v with
 |agg cs=>simp[Cell.ok,hu] at h
 |_=>rfl
theorem abn(w:World)(k:Nat)(os:Array Obj):Below w.heap.size w (Go.Sort.grow (w.drewN k) os):=by
 have aZ:∀(k:Nat) (w:World),(w.drewN k).os=w.os/\(w.drewN k).tape=w.tape/\(w.drewN k).output=w.output/\(w.drewN k).heap=w.heap:=by
  intro k;induction k with
  |zero=>intro w;exact⟨rfl,rfl,rfl,rfl⟩
  |succ k aK=>intro w;exact aK w.drew
 obtain⟨aa,ae,aG,br⟩:=aZ k w;refine⟨aa,ae,aG,?_,fun i ao=>?_⟩
 ·show w.heap.size<=((w.drewN k).heap++os).size;rw[br,Array.size_append];omega
 ·show((w.drewN k).heap++os)[i]?=_;rw[br,RS ao]
theorem afm:Tryz.prog.globalNamed "internal/strconv.uint64pow10"=some 0:=by kernel_rfl
theorem amo{w:World}(h:Laid Tryz.prog w H0):Lib.TabIs Tryz.prog w "internal/strconv.uint64pow10" .u64 Lib.pow10Tab:=by
 rcases h.rows 0 (.row Da 181 false 0 sl true) (by kernel_rfl) with q|⟨cells,e,f,bd,_,b9,_,_⟩
 ·cases q
 ·injection bd with bd _
  subst bd;show w.var? Tryz.prog _=_;unfold World.var?;rw[afm];show(match w.heap[0]? with|some (.cells cs _ _)=>some cs|_=>none)=_
  rw[b9];rfl
theorem aj0{g0:Nat}:Jj (I' Tryz.prog H0) g0:=fun n J bD aa=>by
 obtain⟨c,aH⟩:∃c,Tryz.f42.body=some c:=⟨_,rfl⟩;exact Fn.ak9 (K:=bb (I' Tryz.prog H0) g0) (R:=fun v'=>v'=.string ⟨⟨Lib.itoa n⟩⟩) rfl Tryz.func42 aH (fun μ v' h=>by subst h;exact .atom _ rfl) (fun B w0 w fR aU=>
  (Tryz.strconv_Itoa n bD aa w (amo (fR.1.eF fR.2 aU))).mono fun e bu ⟨he,k,os,hw⟩=>⟨⟨_,he,rfl⟩,hw▸abn w k os⟩)
open Go.Proofs.YtiemfjdacfioeaaGreatDoor
theorem own:ownKnob Tryz.prog.godebug=none:=by kernel_rfl
theorem UD:Tryz.prog.globalNamed "math/bits.deBruijn32tab"=some 1:=by kernel_rfl
theorem afq:(Tryz.prog.globals[1]?).map (·.type)=some 187:=by kernel_rfl
theorem aft:Tryz.prog.underlying 187=some (.array 32 5):=by kernel_rfl
theorem afd:Tryz.prog.underlying 5=some (.int .u8):=by kernel_rfl
theorem afj:Tryz.prog.cellsOf 5=1:=by kernel_rfl
theorem afa:Tryz.prog.cellsOf 187=32:=by kernel_rfl
theorem afn:(((begin Tryz.prog (fun _ _=>0) default).world.heap[1]?).bind Obj.row?).map (·.2)=some 187:=by kernel_rfl
theorem afg:1<Tryz.prog.globals.size:=by decide+kernel
theorem UE:Tryz.prog.globalNamed "math/bits.deBruijn64tab"=some 2:=by kernel_rfl
theorem afr:(Tryz.prog.globals[2]?).map (·.type)=some 188:=by kernel_rfl
theorem afu:Tryz.prog.underlying 188=some (.array 64 5):=by kernel_rfl
theorem afe:Tryz.prog.underlying 5=some (.int .u8):=by kernel_rfl
theorem afk:Tryz.prog.cellsOf 5=1:=by kernel_rfl
theorem afb:Tryz.prog.cellsOf 188=64:=by kernel_rfl
theorem afo:(((begin Tryz.prog (fun _ _=>0) default).world.heap[2]?).bind Obj.row?).map (·.2)=some 188:=by kernel_rfl
theorem afh:2<Tryz.prog.globals.size:=by decide+kernel
theorem UF:Tryz.prog.globalNamed "internal/strconv.uint64pow10"=some 0:=by kernel_rfl
theorem afs:(Tryz.prog.globals[0]?).map (·.type)=some 181:=by kernel_rfl
theorem afv:Tryz.prog.underlying 181=some (.array 20 173):=by kernel_rfl
theorem aff:Tryz.prog.underlying 173=some (.int .u64):=by kernel_rfl
theorem afl:Tryz.prog.cellsOf 173=1:=by kernel_rfl
theorem afc:Tryz.prog.cellsOf 181=20:=by kernel_rfl
theorem afp:(((begin Tryz.prog (fun _ _=>0) default).world.heap[0]?).bind Obj.row?).map (·.2)=some 181:=by kernel_rfl
theorem afi:0<Tryz.prog.globals.size:=by decide+kernel
theorem tables{W:World}(h:laidMetH Tryz.prog Rows.resumeBackRow.laid W):Lib.TabIs Tryz.prog W "math/bits.deBruijn32tab" .u8 Qy/\Lib.TabIs Tryz.prog W "math/bits.deBruijn64tab" .u8 Qz/\Lib.TabIs Tryz.prog W "internal/strconv.uint64pow10" .u64 QA:=by
 have bD:laidMet Tryz.prog [("math/bits.deBruijn32tab",Lib.tabData .u8 Qy),("math/bits.deBruijn64tab",Lib.tabData .u8 Qz),("internal/strconv.uint64pow10",Lib.tabData .u64 QA)] W:=h;have aa:=laidMet.tail bD;have ae:=laidMet.tail aa;exact⟨Lib.tabIs_of_head UD afq aft afd afj afa bD,Lib.tabIs_of_head UE afr afu afe afk afb aa,Lib.tabIs_of_head UF afs afv aff afl afc ae⟩
theorem first{W:World}(h:laidMetH Tryz.prog Rows.resumeBackRow.laid W)(af:W.ShapedOpen Tryz.prog):Laid Tryz.prog W H0:=by
 refine aj' fun g e cells hm=>?_;have aD:=tables h;simp only[Zm,fg,dC,Jr,or_false] at hm;rcases hm with⟨rfl,rfl,rfl⟩|⟨rfl,rfl,rfl⟩|⟨rfl,rfl,rfl⟩
 ·exact⟨by decide,Qc UD afg afn af (aD.1),by kernel_rfl,by decide+kernel⟩
 ·exact⟨by decide,Qc UE afh afo af (aD.2.1),by kernel_rfl,by decide+kernel⟩
 ·exact⟨by decide,Qc UF afi afp af (aD.2.2),by kernel_rfl,by decide+kernel⟩
theorem akk:∃c,Tryz.f4.body=some c:=⟨_,rfl⟩
theorem akb:∃c,Tryz.f3.body=some c:=⟨_,rfl⟩
theorem laidOut:laidOutB Tryz.prog=true:=by kernel_rfl
theorem amR:∀t∈Tryz.f3.params.toList,PP.readableRec t=true/\t<PP.types.size:=by
 intro t aD;rw[Tryz.params3] at aD;simp only[fg,Jr,or_false] at aD;rcases aD with rfl|rfl|rfl|rfl<;>exact⟨by kernel_rfl,mA (by kernel_rfl)⟩
set_option maxRecDepth 100000 in
theorem acK(H:Type)(enc:TypeId×Value->H)(W:World)(base:Nat)(args:Array Value)(ds gs:List (DataW H))(before:List MemPlace)
 (uf:∀(j:Nat) t v,Tryz.f3.params[j]?=some t->args[j]?=some v->Value.okWide Tryz.prog W .any base t v)
 (jz:DataW.Whole enc Tryz.prog Tryz.f3.params.toList Rows.resumeBackSpec.vars false W args.toList ds gs before)
 (bN:(DataW.weightsEach Tryz.prog Tryz.f3.params.toList ds).all (·<=reachBytes)=true)
 (bT:laidMetH Tryz.prog Rows.resumeBackRow.laid W)(ax:W.ShapedOpen Tryz.prog):
 Calls Tryz.prog 3 args W fun e ti=>∃v,e=.returned v/\Rows.resumeBackSpec.post enc Tryz.prog Tryz.f3 false true false false W args v ti:=by
 have tO:=jz;obtain⟨p,q,agl,k5,rfl,ahn,d'⟩:=jz;have k4:DataW.TrodAll enc Tryz.prog W 0 (fun _=>true) true Tryz.f3.params.toList args.toList ds p:=agl;obtain⟨rfl,rfl⟩:=trodVars_none k5;rw[Tryz.params3] at k4 uf bN;obtain⟨v0,v1,v2,v3,d0,d1,d2,d3,iL,dS,iz,iX,rfl,rfl,rfl,⟨lH,t0⟩,⟨b0,t1⟩,⟨dn,t2⟩,⟨lh,t3⟩⟩:=trodAll_four k4;have ho:=anE Rr (uf 0 22 v0 rfl rfl);have xh:=P6 ke (uf 1 3 v1 rfl rfl);have ji:=P6 ke (uf 2 3 v2 rfl rfl);have oO:=P6 ke (uf 3 3 v3 rfl rfl);rw[ho] at t0;rw[xh] at t1;rw[ji] at t2;rw[oO] at t3;obtain⟨l,c1,kl,iH,av⟩:=ajR Rr ke dh t0;obtain⟨i1,_,aN⟩:=P5 ke t1;obtain⟨i2,_,bn⟩:=P5 ke t2;obtain⟨i3,_,cP⟩:=P5 ke t3;simp at iH aN bn cP;obtain⟨aqE,lA⟩:=akk;obtain⟨aqJ,k8⟩:=akb;have VD:=first bT ax;have hE:l.length<=9223372036854775807:=by
  obtain⟨b',nL,ch,_,_,_,_,J3,_,_,_,_,_,_,ze⟩:=Y7 Rr dh (by omega) t0;simp at J3;rw[iH] at J3;injection J3 with _ J3 _
  have Pg:maxLen=9223372036854775807:=by decide
  omega
 have fQ:=akc (Q:=I' Tryz.prog H0) (g0:=W.heap.size) (J:=xN PP W) (l:=l) (c1:=c1) (kl:=kl) (EL:=i1) (EW:=i2) (rounds:=i3) aj0
  (fun J=>Fn.closed (K:=bb (I' Tryz.prog H0) W.heap.size) (H0:=H0) rfl Tryz.func4 lA (fun _ _ h=>h) (fun w h=>acE (Yc rH num) Tryz.func4 lA h akj))
  ⟨3,av 3⟩ hE
 have HA:b4 (rI PP W) [.slice c1 l.length kl,.int .i64 i1,.int .i64 i2,.int .i64 i3] (#[v0,v1,v2,v3]:Array Value).toList:=by
  have nN:=FI (P:=PP) (w:=W) v0;have bd:=FI (P:=PP) (w:=W) v1;have a6:=FI (P:=PP) (w:=W) v2;have b9:=FI (P:=PP) (w:=W) v3;rw[iH] at nN;rw[aN] at bd;rw[bn] at a6;rw[cP] at b9;exact .cons nN (.cons bd (.cons a6 (.cons b9 (.nil _))))
 refine(alH (K:=bb (I' Tryz.prog H0) W.heap.size) (w:=W) (b:=true) ⟨VD,VD.ld⟩ rfl Tryz.func3 k8 HA fQ).mono fun e ti c7=>?_;obtain⟨he,au⟩:=c7;subst he;exact⟨_,rfl,amn tO au laidOut amR rfl rfl rfl (fun _ _ _=>trodAll_cons_mk (shut_bool Tryz.underlying4 _) trodAll_mk0)⟩
def Qb (os:Os):World:=World.doorLaid Tryz.prog 400 os
def JH:Array Value:=#[.slice none 0 0,.int .i64 0,.int .i64 0,.int .i64 0]
def ac7{H:Type}:List (DataW H):=[.nil,.lit (.int .i64 0),.lit (.int .i64 0),.lit (.int .i64 0)]
theorem aj9(os:Os):laidMetH Tryz.prog Rows.resumeBackRow.laid ((Qb os).forCall (fun _ _=>0) ⟨#[],JH,[]⟩).memory:=
 laidMetH_of_parts3 (fuel:=8) (laidMet_of_run' 8 (by kernel_rfl) (by kernel_rfl)) (by kernel_rfl) (by kernel_rfl)
theorem reads(os:Os){H:Type}(enc:TypeId×Value->H):∃places,DataW.whole enc Tryz.prog ((Qb os).forCall (fun _ _=>0) ⟨#[],JH,[]⟩).memory Tryz.f3.params.toList Rows.resumeBackSpec.vars false JH.toList 8=some (ac7,[],places):=
 ⟨[],by kernel_rfl⟩
set_option maxRecDepth 100000 in
theorem lifted(os:Os)(started:os.Started)(H:Type)(enc:TypeId×Value->H)(F:Stop.Interp):
 ReturnsInHanded {} Tryz.checked os 3 .any ((OpenSpec.ofChange Rows.resumeBackSpec).preRow enc Tryz.prog Tryz.f3 Rows.resumeBackRow.domain false Rows.resumeBackRow.laid) (((OpenSpec.ofChange Rows.resumeBackSpec).at F).post enc Tryz.prog Tryz.f3 false true false false):=by
 obtain⟨places,U⟩:=reads os enc
 refine returnsInHanded_of_row (C:=Tryz.checked) (s:=OpenSpec.ofChange Rows.resumeBackSpec) own started (by kernel_rfl) Tryz.func3
  (witness_row_at (enc:=enc) (C:=Tryz.checked) false (Qb os) JH rfl (by kernel_rfl) (by kernel_rfl) (by kernel_rfl)
   (OpenSpec.preRow_of_cond 8 U (by kernel_rfl) (fun k aU=>by cases aU) (by kernel_rfl) (aj9 os))) ?_
 intro W base args ds gs before uf jz _ _ bN bT ax _;have aq:gs=[]:=by
  obtain⟨p,q,_,k5,_⟩:=jz;exact(trodVars_none k5).1
 subst aq;refine acK H enc W base args ds [] before uf jz ?_ bT ax;have ajn:(OpenSpec.ofChange Rows.resumeBackSpec).bare.plain.varTypes Tryz.checked.prog=[]:=by kernel_rfl
 rw[ajn,gg,gg] at bN;exact bN
theorem said:Rows.ResumeBackSaid:=
 OpenClaim.holds_of_cond 3 Tryz.f3 rfl rfl rfl rfl rfl rfl rfl ⟨rfl,rfl,rfl,rfl,rfl⟩ rfl rfl rfl rfl rfl (by kernel_rfl) Tryz.func3 (by kernel_rfl)
  (mA (by kernel_rfl)) (by unfold Func.isWrapper;first|(rw[aE (by decide+kernel)];kernel_rfl)|(rw[ap (by decide+kernel)];exact⟨rfl,rfl⟩))
  (fun os started H enc _ F=>by rw[OpenClaim.pre_eq_preRow];exact lifted os started H enc F)
theorem an0:Tryz.prog.wantsStandIn 22=false:=by kernel_rfl
theorem Rk:Tryz.prog.wantsStandIn 3=false:=by kernel_rfl
theorem oh(f:FuncId)(fn:Func)(aC:Tryz.pinned.checked.prog.funcNamed "parlour/parlourlaw41.ResumeBack"=some f)(qg:Tryz.pinned.checked.prog.funcs[f]?=some fn):
 true=Tryz.pinned.checked.prog.looks []/\∀(j:Nat) t,fn.params[j]?=some t->Tryz.pinned.checked.prog.wantsStandIn t=false:=by
 obtain rfl:f=3:=Option.some.inj ((show Tryz.prog.funcNamed "parlour/parlourlaw41.ResumeBack"=some 3 by kernel_rfl).symm.trans aC) |>.symm
 obtain rfl:fn=Tryz.f3:=(Option.some.inj (Tryz.func3.symm.trans qg)).symm;refine⟨by kernel_rfl,fun j t aD=>?_⟩;rw[Tryz.params3] at aD
 match j,aD with
 |0,aD=>simp at aD;subst aD;exact an0
 |1,aD=>simp at aD;subst aD;exact Rk
 |2,aD=>simp at aD;subst aD;exact Rk
 |3,aD=>simp at aD;subst aD;exact Rk
 |j+4,aD=>simp at aD
theorem card:Rows.ResumeBackCardSaid:=
 Claim7.holds_tied_plain_at .later [] _ _ _ _ said (fun _ h=>by cases h) (by kernel_rfl) (fun _ h=>by cases h) resumeBack_row_tie rfl ⟨rfl,rfl⟩ (by kernel_rfl) rfl oh (by kernel_rfl)
end
end Go.Opn
namespace Go.Proofs.YtiemfjdacfioeaaGreatDoor
theorem openResumeBack : Rows.ResumeBackCardSaid := Go.Opn.card
end Go.Proofs.YtiemfjdacfioeaaGreatDoor
