/- The law ResumeBytes returns true, whatever its arguments, and they read afterwards as before: the card of ResumeBytes. Conditions: none beyond the row's own; the listed variables are as the program's text lays them (the tie is given). -/
import Derived.Test.YtkmfhjilfjecmaaGreatDoorCbz
set_option maxRecDepth 100000
set_option linter.unusedVariables false
namespace Go.Opn
noncomputable section
open Go Go.Cre Go.RowKit Go.Proofs Go.ChangeShapes Go.WideShapes Go.ChangeAt
open Go.Proofs.YtkmfhjilfjecmaaGreatDoor
theorem own:ownKnob Tryz.prog.godebug=none:=by kernel_rfl
theorem U8:Tryz.prog.globalNamed "math/bits.deBruijn32tab"=some 1:=by kernel_rfl
theorem afW:(Tryz.prog.globals[1]?).map (·.type)=some 187:=by kernel_rfl
theorem afZ:Tryz.prog.underlying 187=some (.array 32 5):=by kernel_rfl
theorem afJ:Tryz.prog.underlying 5=some (.int .u8):=by kernel_rfl
theorem afP:Tryz.prog.cellsOf 5=1:=by kernel_rfl
theorem afG:Tryz.prog.cellsOf 187=32:=by kernel_rfl
theorem afT:(((begin Tryz.prog (fun _ _=>0) default).world.heap[1]?).bind Obj.row?).map (·.2)=some 187:=by kernel_rfl
theorem afM:1<Tryz.prog.globals.size:=by decide+kernel
theorem U9:Tryz.prog.globalNamed "math/bits.deBruijn64tab"=some 2:=by kernel_rfl
theorem afX:(Tryz.prog.globals[2]?).map (·.type)=some 188:=by kernel_rfl
theorem af0:Tryz.prog.underlying 188=some (.array 64 5):=by kernel_rfl
theorem afK:Tryz.prog.underlying 5=some (.int .u8):=by kernel_rfl
theorem afQ:Tryz.prog.cellsOf 5=1:=by kernel_rfl
theorem afH:Tryz.prog.cellsOf 188=64:=by kernel_rfl
theorem afU:(((begin Tryz.prog (fun _ _=>0) default).world.heap[2]?).bind Obj.row?).map (·.2)=some 188:=by kernel_rfl
theorem afN:2<Tryz.prog.globals.size:=by decide+kernel
theorem U':Tryz.prog.globalNamed "internal/strconv.uint64pow10"=some 0:=by kernel_rfl
theorem afY:(Tryz.prog.globals[0]?).map (·.type)=some 181:=by kernel_rfl
theorem af1:Tryz.prog.underlying 181=some (.array 20 173):=by kernel_rfl
theorem afL:Tryz.prog.underlying 173=some (.int .u64):=by kernel_rfl
theorem afR:Tryz.prog.cellsOf 173=1:=by kernel_rfl
theorem afI:Tryz.prog.cellsOf 181=20:=by kernel_rfl
theorem afV:(((begin Tryz.prog (fun _ _=>0) default).world.heap[0]?).bind Obj.row?).map (·.2)=some 181:=by kernel_rfl
theorem afO:0<Tryz.prog.globals.size:=by decide+kernel
theorem tables{W:World}(h:laidMetH Tryz.prog Rows.resumeBytesRow.laid W):Lib.TabIs Tryz.prog W "math/bits.deBruijn32tab" .u8 QY/\Lib.TabIs Tryz.prog W "math/bits.deBruijn64tab" .u8 QZ/\Lib.TabIs Tryz.prog W "internal/strconv.uint64pow10" .u64 Q0:=by
 have bw:laidMet Tryz.prog [("math/bits.deBruijn32tab",Lib.tabData .u8 QY),("math/bits.deBruijn64tab",Lib.tabData .u8 QZ),("internal/strconv.uint64pow10",Lib.tabData .u64 Q0)] W:=h;have aa:=laidMet.tail bw;have ae:=laidMet.tail aa;exact⟨Lib.tabIs_of_head U8 afW afZ afJ afP afG bw,Lib.tabIs_of_head U9 afX af0 afK afQ afH aa,Lib.tabIs_of_head U' afY af1 afL afR afI ae⟩
theorem first{W:World}(h:laidMetH Tryz.prog Rows.resumeBytesRow.laid W)(hs:W.ShapedOpen Tryz.prog):Laid Tryz.prog W H0:=by
 refine akL fun g e cells hm=>?_;have aB:=tables h;simp only[ZN,e3,dB,JK,or_false] at hm;rcases hm with⟨rfl,rfl,rfl⟩|⟨rfl,rfl,rfl⟩|⟨rfl,rfl,rfl⟩
 ·exact⟨by decide,QC U8 afM afT hs (aB.1),by kernel_rfl,by decide+kernel⟩
 ·exact⟨by decide,QC U9 afN afU hs (aB.2.1),by kernel_rfl,by decide+kernel⟩
 ·exact⟨by decide,QC U' afO afV hs (aB.2.2),by kernel_rfl,by decide+kernel⟩
theorem akV:∃c,Tryz.f4.body=some c:=⟨_,rfl⟩
theorem akM:∃c,Tryz.f3.body=some c:=⟨_,rfl⟩
theorem laidOut:laidOutB Tryz.prog=true:=by kernel_rfl
theorem anv:∀t∈Tryz.f3.params.toList,PP.readableRec t=true/\t<PP.types.size:=by
 intro t aB;rw[Tryz.params3] at aB;simp only[e3,JK,or_false] at aB;rcases aB with rfl|rfl|rfl|rfl|rfl|rfl<;>exact⟨by kernel_rfl,lV (by kernel_rfl)⟩
set_option maxRecDepth 100000 in
theorem adj(H:Type)(enc:TypeId×Value->H)(W:World)(base:Nat)(args:Array Value)(ds gs:List (DataW H))(before:List MemPlace)
 (ur:∀(j:Nat) t v,Tryz.f3.params[j]?=some t->args[j]?=some v->Value.okWide Tryz.prog W .any base t v)
 (jM:DataW.Whole enc Tryz.prog Tryz.f3.params.toList Rows.resumeBytesSpec.vars false W args.toList ds gs before)
 (bE:(DataW.weightsEach Tryz.prog Tryz.f3.params.toList ds).all (·<=reachBytes)=true)
 (bS:laidMetH Tryz.prog Rows.resumeBytesRow.laid W)(ax:W.ShapedOpen Tryz.prog):
 Calls Tryz.prog 3 args W fun e tt=>∃v,e=.returned v/\Rows.resumeBytesSpec.post enc Tryz.prog Tryz.f3 false true false false W args v tt:=by
 have tV:=jM;obtain⟨p,q,agU,lK,rfl,ah6,dM⟩:=jM;have lc:DataW.TrodAll enc Tryz.prog W 0 (fun _=>true) true Tryz.f3.params.toList args.toList ds p:=agU;obtain⟨rfl,rfl⟩:=trodVars_none lK;rw[Tryz.params3] at lc ur bE;obtain⟨v0,v1,v2,v3,v4,v5,d0,d1,d2,d3,d4,d5,hH,dH,hP,ij,ki,lr,rfl,rfl,rfl,⟨lU,t0⟩,⟨bX,t1⟩,⟨de,t2⟩,⟨kC,t3⟩,⟨s3,t4⟩,⟨pL,t5⟩⟩:=ao1 lc;have ib:=aoh RQ (ur 0 22 v0 rfl rfl);have xz:=Ij jc (ur 1 3 v1 rfl rfl);have jv:=Ij jc (ur 2 3 v2 rfl rfl);have oX:=Ij jc (ur 3 3 v3 rfl rfl);have ahG:=Ij jc (ur 4 3 v4 rfl rfl);have ahH:=Ij nV (ur 5 5 v5 rfl rfl);rw[ib] at t0;rw[xz] at t1;rw[jv] at t2;rw[oX] at t3;rw[ahG] at t4;rw[ahH] at t5;obtain⟨l,cY,kl,iL,av⟩:=akr RQ jc c3 t0;obtain⟨i1,_,aL⟩:=Lk jc t1;obtain⟨i2,_,bk⟩:=Lk jc t2;obtain⟨i3,_,cG⟩:=Lk jc t3;obtain⟨i4,_,eL⟩:=Lk jc t4;obtain⟨MF,_,cu⟩:=ab6 nV t5;simp at iL aL bk cG eL cu;obtain⟨art,lL⟩:=akV;obtain⟨ary,lf⟩:=akM;have V4:=first bS ax;have hE:l.length<=9223372036854775807:=by
  obtain⟨b',nR,cd,_,_,_,_,Kn,_,_,_,_,_,_,zn⟩:=Zy RQ c3 (by omega) t0;simp at Kn;rw[iL] at Kn;injection Kn with _ Kn _
  have PG:maxLen=9223372036854775807:=by decide
  omega
 have fJ:=akN (Q:=Js Tryz.prog H0) (g0:=W.heap.size) (J:=x1 PP W) (l:=l) (cY:=cY) (kl:=kl) (E0:=i1) (E9:=i2) (rounds:=i3) (at_:=i4) (fO:=MF) akB
  (fun J=>Fn.closed (K:=bd (Js Tryz.prog H0) W.heap.size) (H0:=H0) rfl Tryz.func4 lL (fun _ _ h=>h) (fun w h=>adb (YE rU num) Tryz.func4 lL h akU))
  ⟨3,av 3⟩ hE
 have HQ:b0 (rV PP W) [.slice cY l.length kl,.int .i64 i1,.int .i64 i2,.int .i64 i3,.int .i64 i4,.int .u8 (MF.toNat:Int)] (#[v0,v1,v2,v3,v4,v5]:Array Value).toList:=by
  have np:=AG (P:=PP) (w:=W) v0;have bb:=AG (P:=PP) (w:=W) v1;have a7:=AG (P:=PP) (w:=W) v2;have b8:=AG (P:=PP) (w:=W) v3;have fl:=AG (P:=PP) (w:=W) v4;have jb:=AG (P:=PP) (w:=W) v5;rw[iL] at np;rw[aL] at bb;rw[bk] at a7;rw[cG] at b8;rw[eL] at fl;rw[cu] at jb;exact .cons np (.cons bb (.cons a7 (.cons b8 (.cons fl (.cons jb (.nil _))))))
 refine(amj (K:=bd (Js Tryz.prog H0) W.heap.size) (w:=W) (b:=true) ⟨V4,V4.ll⟩ rfl Tryz.func3 lf HQ fJ).mono fun e tt c8=>?_;obtain⟨he,ap⟩:=c8;subst he;exact⟨_,rfl,amZ tV ap laidOut anv rfl rfl rfl (fun _ _ _=>trodAll_cons_mk (shut_bool Tryz.underlying4 _) trodAll_mk0)⟩
def QB (os:Os):World:=World.doorLaid Tryz.prog 400 os
def J5:Array Value:=#[.slice none 0 0,.int .i64 0,.int .i64 0,.int .i64 0,.int .i64 0,.int .u8 0]
def adG{H:Type}:List (DataW H):=[.nil,.lit (.int .i64 0),.lit (.int .i64 0),.lit (.int .i64 0),.lit (.int .i64 0),.lit (.int .u8 0)]
theorem akK(os:Os):laidMetH Tryz.prog Rows.resumeBytesRow.laid ((QB os).forCall (fun _ _=>0) ⟨#[],J5,[]⟩).memory:=
 laidMetH_of_parts3 (fuel:=8) (laidMet_of_run' 8 (by kernel_rfl) (by kernel_rfl)) (by kernel_rfl) (by kernel_rfl)
theorem reads(os:Os){H:Type}(enc:TypeId×Value->H):∃places,DataW.whole enc Tryz.prog ((QB os).forCall (fun _ _=>0) ⟨#[],J5,[]⟩).memory Tryz.f3.params.toList Rows.resumeBytesSpec.vars false J5.toList 8=some (adG,[],places):=
 ⟨[],by kernel_rfl⟩
set_option maxRecDepth 100000 in
theorem lifted(os:Os)(started:os.Started)(H:Type)(enc:TypeId×Value->H)(F:Stop.Interp):
 ReturnsInHanded {} Tryz.checked os 3 .any ((OpenSpec.ofChange Rows.resumeBytesSpec).preRow enc Tryz.prog Tryz.f3 Rows.resumeBytesRow.domain false Rows.resumeBytesRow.laid) (((OpenSpec.ofChange Rows.resumeBytesSpec).at F).post enc Tryz.prog Tryz.f3 false true false false):=by
 obtain⟨places,U⟩:=reads os enc
 refine returnsInHanded_of_row (C:=Tryz.checked) (s:=OpenSpec.ofChange Rows.resumeBytesSpec) own started (by kernel_rfl) Tryz.func3
  (witness_row_at (enc:=enc) (C:=Tryz.checked) false (QB os) J5 rfl (by kernel_rfl) (by kernel_rfl) (by kernel_rfl)
   (OpenSpec.preRow_of_cond 8 U (by kernel_rfl) (fun k aO=>by cases aO) (by kernel_rfl) (akK os))) ?_
 intro W base args ds gs before ur jM _ _ bE bS ax _;have aq:gs=[]:=by
  obtain⟨p,q,_,lK,_⟩:=jM;exact(trodVars_none lK).1
 subst aq;refine adj H enc W base args ds [] before ur jM ?_ bS ax;have aj0:(OpenSpec.ofChange Rows.resumeBytesSpec).bare.plain.varTypes Tryz.checked.prog=[]:=by kernel_rfl
 rw[aj0,gj,gj] at bE;exact bE
theorem said:Rows.ResumeBytesSaid:=
 OpenClaim.holds_of_cond 3 Tryz.f3 rfl rfl rfl rfl rfl rfl rfl ⟨rfl,rfl,rfl,rfl,rfl⟩ rfl rfl rfl rfl rfl (by kernel_rfl) Tryz.func3 (by kernel_rfl)
  (lV (by kernel_rfl)) (by unfold Func.isWrapper;first|(rw[aE (by decide+kernel)];kernel_rfl)|(rw[an (by decide+kernel)];exact⟨rfl,rfl⟩))
  (fun os started H enc _ F=>by rw[OpenClaim.pre_eq_preRow];exact lifted os started H enc F)
theorem aoD:Tryz.prog.wantsStandIn 22=false:=by kernel_rfl
theorem aoE:Tryz.prog.wantsStandIn 5=false:=by kernel_rfl
theorem Mj:Tryz.prog.wantsStandIn 3=false:=by kernel_rfl
theorem ow(f:FuncId)(fn:Func)(aD:Tryz.pinned.checked.prog.funcNamed "parlour/parlourlaw41.ResumeBytes"=some f)(ql:Tryz.pinned.checked.prog.funcs[f]?=some fn):
 true=Tryz.pinned.checked.prog.looks []/\∀(j:Nat) t,fn.params[j]?=some t->Tryz.pinned.checked.prog.wantsStandIn t=false:=by
 obtain rfl:f=3:=Option.some.inj ((show Tryz.prog.funcNamed "parlour/parlourlaw41.ResumeBytes"=some 3 by kernel_rfl).symm.trans aD) |>.symm
 obtain rfl:fn=Tryz.f3:=(Option.some.inj (Tryz.func3.symm.trans ql)).symm;refine⟨by kernel_rfl,fun j t aB=>?_⟩;rw[Tryz.params3] at aB
 match j,aB with
 |0,aB=>simp at aB;subst aB;exact aoD
 |1,aB=>simp at aB;subst aB;exact Mj
 |2,aB=>simp at aB;subst aB;exact Mj
 |3,aB=>simp at aB;subst aB;exact Mj
 |4,aB=>simp at aB;subst aB;exact Mj
 |5,aB=>simp at aB;subst aB;exact aoE
 |j+6,aB=>simp at aB
theorem card:Rows.ResumeBytesCardSaid:=
 Claim7.holds_tied_plain_at .later [] _ _ _ _ said (fun _ h=>by cases h) (by kernel_rfl) (fun _ h=>by cases h) resumeBytes_row_tie rfl ⟨rfl,rfl⟩ (by kernel_rfl) rfl ow (by kernel_rfl)
end
end Go.Opn
namespace Go.Proofs.YtkmfhjilfjecmaaGreatDoor
theorem openResumeBytes : Rows.ResumeBytesCardSaid := Go.Opn.card
end Go.Proofs.YtkmfhjilfjecmaaGreatDoor
