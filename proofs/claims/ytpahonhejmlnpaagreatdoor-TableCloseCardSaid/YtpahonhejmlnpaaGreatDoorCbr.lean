/- The law TableClose returns true, whatever its arguments, and they read afterwards as before: the card of TableClose. Conditions: none beyond the row's own; the listed variables are as the program's text lays them (the tie is given). -/
import Derived.Test.YtpahonhejmlnpaaGreatDoorCbq
set_option maxRecDepth 100000
set_option linter.unusedVariables false
namespace Go.Opn
noncomputable section
open Go Go.Cre Go.RowKit Go.Proofs Go.ChangeShapes Go.WideShapes Go.ChangeAt
open Go.Proofs.YtpahonhejmlnpaaGreatDoor
theorem own:ownKnob Tryz.prog.godebug=none:=by kernel_rfl
theorem GN:Tryz.prog.globalNamed "math/bits.deBruijn64tab"=some 2:=by kernel_rfl
theorem We:(Tryz.prog.globals[2]?).map (·.type)=some 191:=by kernel_rfl
theorem Wf:Tryz.prog.underlying 191=some (.array 64 5):=by kernel_rfl
theorem Wc:Tryz.prog.underlying 5=some (.int .u8):=by kernel_rfl
theorem Wd:Tryz.prog.cellsOf 5=1:=by kernel_rfl
theorem Wb:Tryz.prog.cellsOf 191=64:=by kernel_rfl
theorem M6:(((begin Tryz.prog (fun _ _=>0) default).world.heap[2]?).bind Obj.row?).map (·.2)=some 191:=by kernel_rfl
theorem M5:2<Tryz.prog.globals.size:=by decide+kernel
theorem tables{W:World}(h:laidMetH Tryz.prog Rows.tableCloseRow.laid W):Lib.TabIs Tryz.prog W "math/bits.deBruijn64tab" .u8 Jb:=by
 have aX:laidMet Tryz.prog [("math/bits.deBruijn64tab",Lib.tabData .u8 Jb)] W:=h;exact Lib.tabIs_of_head GN We Wf Wc Wd Wb aX
theorem first{W:World}(h:laidMetH Tryz.prog Rows.tableCloseRow.laid W)(af:W.ShapedOpen Tryz.prog):Laid Tryz.prog W H0:=by
 refine ZW fun g e cells hm=>?_;have aM:=tables h;simp only[Rk,gj,c',Lb,or_false] at hm;obtain⟨rfl,rfl,rfl⟩:=hm;exact⟨by decide,O' GN M5 M6 af aM,by kernel_rfl,by decide+kernel⟩
theorem Z4:∃c,Tryz.f19.body=some c:=⟨_,rfl⟩
theorem ZY:∃c,Tryz.f3.body=some c:=⟨_,rfl⟩
theorem laidOut:laidOutB Tryz.prog=true:=by kernel_rfl
theorem acB:∀t∈Tryz.f3.params.toList,PP.readableRec t=true/\t<PP.types.size:=by
 intro t aM;rw[Tryz.params3] at aM;simp only[gj,Lb,or_false] at aM;rcases aM with rfl|rfl|rfl<;>exact⟨by kernel_rfl,yz (by kernel_rfl)⟩
set_option maxRecDepth 100000 in
theorem Ut(H:Type)(enc:TypeId×Value->H)(W:World)(base:Nat)(args:Array Value)(ds gs:List (DataW H))(before:List MemPlace)
 (uf:∀(j:Nat) t v,Tryz.f3.params[j]?=some t->args[j]?=some v->Value.okWide Tryz.prog W .any base t v)
 (pX:DataW.Whole enc Tryz.prog Tryz.f3.params.toList Rows.tableCloseSpec.vars false W args.toList ds gs before)
 (a0:(DataW.weightsEach Tryz.prog Tryz.f3.params.toList ds).all (·<=reachBytes)=true)
 (bP:laidMetH Tryz.prog Rows.tableCloseRow.laid W)(ak:W.ShapedOpen Tryz.prog):
 Calls Tryz.prog 3 args W fun e sk=>∃v,e=.returned v/\Rows.tableCloseSpec.post enc Tryz.prog Tryz.f3 false true false false W args v sk:=by
 have Xa:=pX;obtain⟨p,q,gr,pW,rfl,XU,dz⟩:=pX;have eL:DataW.TrodAll enc Tryz.prog W 0 (fun _=>true) true Tryz.f3.params.toList args.toList ds p:=gr;obtain⟨rfl,rfl⟩:=trodVars_none pW;rw[Tryz.params3] at eL uf a0;obtain⟨jm,v1,v2,d0,d1,d2,kY,dm,hA,rfl,rfl,rfl,⟨uv,t0⟩,⟨bI,t1⟩,⟨cY,t2⟩⟩:=trodAll_three eL;have jO:=ac' J8 (uf 0 22 jm rfl rfl);have xN:=OT pA (uf 1 3 v1 rfl rfl);have hd:=OT pA (uf 2 3 v2 rfl rfl);rw[jO] at t0;rw[xN] at t1;rw[hd] at t2;obtain⟨l,ig,kl,ku,aA⟩:=Zt J8 pA cZ t0;obtain⟨i1,_,aC⟩:=OS pA t1;obtain⟨i2,_,aZ⟩:=OS pA t2;simp at ku aC aZ;obtain⟨nZ,p1⟩:=Z4;obtain⟨CH,kc⟩:=ZY;have NT:=first bP ak;have p8:l.length<=9223372036854775807:=by
  obtain⟨b',wc,bw,_,_,_,_,CP,_,_,_,_,_,_,t'⟩:=Q3 J8 cZ (by omega) t0;simp at CP;rw[ku] at CP;injection CP with _ CP _
  have N7:maxLen=9223372036854775807:=by decide
  omega
 obtain⟨eK,Qr⟩:=O' GN M5 M6 ak (tables bP);have lt:=(E8.1 Qr).1
 have bY:=ZZ (Q:=Kp Tryz.prog H0) (g0:=W.heap.size) (J:=rO PP W) (l:=l) (ig:=ig) (kl:=kl) (k:=i1) (kb:=i2)
  (fun J=>Fn.closed (K:=aO (Kp Tryz.prog H0) W.heap.size) (H0:=H0) rfl Tryz.func19 p1 (fun _ _ h=>h) (fun w h=>Ul (Qe ov num) Tryz.func19 p1 h Z3))
  (acT Qr) (by simpa[Nat.blt,qY] using lt) ⟨3,aA 3⟩ p8
 have AJ:bF (ow PP W) [.slice ig l.length kl,.int .i64 i1,.int .i64 i2] (#[jm,v1,v2]:Array Value).toList:=by
  have m1:=Cw (P:=PP) (w:=W) jm;have aR:=Cw (P:=PP) (w:=W) v1;rw[ku] at m1;have aN:=Cw (P:=PP) (w:=W) v2;rw[aC] at aR;rw[aZ] at aN;exact .cons m1 (.cons aR (.cons aN (.nil _)))
 refine(abH (K:=aO (Kp Tryz.prog H0) W.heap.size) (w:=W) (b:=true) ⟨NT,NT.Zq⟩ rfl Tryz.func3 kc AJ bY).mono fun e sk cc=>?_;obtain⟨he,ah⟩:=cc;subst he;exact⟨_,rfl,ab5 Xa ah laidOut acB rfl rfl rfl (fun _ _ _=>trodAll_cons_mk (shut_bool Tryz.underlying4 _) trodAll_mk0)⟩
def IH (os:Os):World:=World.doorLaid Tryz.prog 400 os
def Cz:Array Value:=#[.slice none 0 0,.int .i64 0,.int .i64 0]
def UB{H:Type}:List (DataW H):=[.nil,.lit (.int .i64 0),.lit (.int .i64 0)]
theorem ZV(os:Os):laidMetH Tryz.prog Rows.tableCloseRow.laid ((IH os).forCall (fun _ _=>0) ⟨#[],Cz,[]⟩).memory:=
 laidMetH_of_parts3 (fuel:=8) (laidMet_of_run' 8 (by kernel_rfl) (by kernel_rfl)) (by kernel_rfl) (by kernel_rfl)
theorem reads(os:Os){H:Type}(enc:TypeId×Value->H):∃places,DataW.whole enc Tryz.prog ((IH os).forCall (fun _ _=>0) ⟨#[],Cz,[]⟩).memory Tryz.f3.params.toList Rows.tableCloseSpec.vars false Cz.toList 8=some (UB,[],places):=
 ⟨[],by kernel_rfl⟩
set_option maxRecDepth 100000 in
theorem lifted(os:Os)(started:os.Started)(H:Type)(enc:TypeId×Value->H)(F:Stop.Interp):
 ReturnsInHanded {} Tryz.checked os 3 .any ((OpenSpec.ofChange Rows.tableCloseSpec).preRow enc Tryz.prog Tryz.f3 Rows.tableCloseRow.domain false Rows.tableCloseRow.laid) (((OpenSpec.ofChange Rows.tableCloseSpec).at F).post enc Tryz.prog Tryz.f3 false true false false):=by
 obtain⟨places,U⟩:=reads os enc
 refine returnsInHanded_of_row (C:=Tryz.checked) (s:=OpenSpec.ofChange Rows.tableCloseSpec) own started (by kernel_rfl) Tryz.func3
  (witness_row_at (enc:=enc) (C:=Tryz.checked) false (IH os) Cz rfl (by kernel_rfl) (by kernel_rfl) (by kernel_rfl)
   (OpenSpec.preRow_of_cond 8 U (by kernel_rfl) (fun k hk=>by cases hk) (by kernel_rfl) (ZV os))) ?_
 intro W base args ds gs before uf pX _ _ a0 bP ak _;have aq:gs=[]:=by
  obtain⟨p,q,_,pW,_⟩:=pX;exact(trodVars_none pW).1
 subst aq;refine Ut H enc W base args ds [] before uf pX ?_ bP ak;have Y7:(OpenSpec.ofChange Rows.tableCloseSpec).bare.plain.varTypes Tryz.checked.prog=[]:=by kernel_rfl
 rw[Y7,jr,jr] at a0;exact a0
theorem said:Rows.TableCloseSaid:=
 OpenClaim.holds_of_cond 3 Tryz.f3 rfl rfl rfl rfl rfl rfl rfl ⟨rfl,rfl,rfl,rfl,rfl⟩ rfl rfl rfl rfl rfl (by kernel_rfl) Tryz.func3 (by kernel_rfl)
  (yz (by kernel_rfl)) (by unfold Func.isWrapper;first|(rw[bg (by decide+kernel)];kernel_rfl)|(rw[a3 (by decide+kernel)];exact⟨rfl,rfl⟩))
  (fun os started H enc _ F=>by rw[OpenClaim.pre_eq_preRow];exact lifted os started H enc F)
theorem adI:Tryz.prog.wantsStandIn 22=false:=by kernel_rfl
theorem Rd:Tryz.prog.wantsStandIn 3=false:=by kernel_rfl
theorem lO(f:FuncId)(fn:Func)(az:Tryz.pinned.checked.prog.funcNamed "parlour/parlourlaw31.TableClose"=some f)(xS:Tryz.pinned.checked.prog.funcs[f]?=some fn):
 true=Tryz.pinned.checked.prog.looks []/\∀(j:Nat) t,fn.params[j]?=some t->Tryz.pinned.checked.prog.wantsStandIn t=false:=by
 obtain rfl:f=3:=Lu ((show Tryz.prog.funcNamed "parlour/parlourlaw31.TableClose"=some 3 by kernel_rfl).symm.trans az) |>.symm
 obtain rfl:fn=Tryz.f3:=(Lu (Tryz.func3.symm.trans xS)).symm;refine⟨by kernel_rfl,fun j t aM=>?_⟩;rw[Tryz.params3] at aM
 match j,aM with
 |0,aM=>simp at aM;subst aM;exact adI
 |1,aM=>simp at aM;subst aM;exact Rd
 |2,aM=>simp at aM;subst aM;exact Rd
 |j+3,aM=>simp at aM
theorem card:Rows.TableCloseCardSaid:=
 Claim7.holds_tied_plain_at .later [] _ _ _ _ said (fun _ h=>by cases h) (by kernel_rfl) (fun _ h=>by cases h) tableClose_row_tie rfl ⟨rfl,rfl⟩ (by kernel_rfl) rfl lO (by kernel_rfl)
end
end Go.Opn
namespace Go.Proofs.YtpahonhejmlnpaaGreatDoor
theorem openTableClose : Rows.TableCloseCardSaid := Go.Opn.card
end Go.Proofs.YtpahonhejmlnpaaGreatDoor
