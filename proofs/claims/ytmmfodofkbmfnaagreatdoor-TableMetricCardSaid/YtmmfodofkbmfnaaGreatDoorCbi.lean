/- A part of the proof of TableMetric. -/
import Derived.Test.YtmmfodofkbmfnaaGreatDoorCbg
import Derived.Test.YtmmfodofkbmfnaaGreatDoorCbh
set_option maxRecDepth 100000
set_option maxHeartbeats 8000000
set_option linter.unusedVariables false
set_option linter.unusedSimpArgs false
namespace Go.Opn
noncomputable section
open Go.Cre Go.RowKit Go.Proofs
theorem Ca{x f k:Nat}(j:(aj x).length<=k)(ay:f<1000000000):(aj (x*f)).length<=k+1:=by
 refine nB ?_;have U:=sw j;rw[m4];exact O0 U (by omega) (by decide)
theorem Cg{J:an}:dE J (.slice none 0 0) 0:=by
 show dx .u32 J _ (aj 0);rw[ks];exact dx.nil
theorem Qo{x y:Nat}(h:¬jD x y<0):y<=x:=by
 rcases gX x y with q|q
 ·exact absurd (rT.2 q) h
 ·exact q
theorem q0{x y:Nat}(h:y<=x):(aj y).length<=(aj x).length:=by
 rcases gX (aj x).length (aj y).length with q|q
 ·have:=zl q;omega
 ·exact q
abbrev O3(J:an)(x y:Nat):Value->aU->an->Prop:=fun u m' ai=>J.le ai/\m'=[]/\∃bc b6,u=.tuple #[bc,b6]/\dE ai bc (x / y)/\dE ai b6 (x % y)
section
variable {K:di}{B:c6}{o:Oper}{n:Nat}{ds:dL}{l:List (Nat×Value)}{m m':aU}{J:an}
theorem ZM{c:Call}{x y:Operand}{k:IntKind}{a b:Int}(ae:o.op=.call c)(aF:c.callee=.builtin .min)(hK:c.args.toList=[x,y])(j:bB l x=some (.int k a))(aC:bB l y=some (.int k b)):ch K B o n ds l m J (.int k (min a b)):=by
 intro call az S H al au;rw[vx ae aF];have k8:c.args=#[x,y]:=by rw[<-Array.toList_inj];exact hK
 have:ek K.P S.T H o=some (.val (.int k (min a b)) H):=by
  refine lk al ?_ j aC rfl rfl ?_ rfl
  ·rw[ae]
   show(Call.operands c).toList=_;simp[Call.operands,aF,k8]
  ·unfold execOp;simp only[ae]
   have ap:en K.P (resolve (mS S.T H) c o.type)=some {target:=.builtin .min c.argTypes o.type (c.args.map fun|.const _=>true|_=>false),args:=#[.int k a,.int k b]}:=by
        unfold resolve;simp only[aF,k8];show some _=some _;simp[gx al H j,gx al H aC];exact⟨by cases x<;>rfl,by cases y<;>rfl⟩
   rw[eW ap];show en K.P ((Builtin.min_ c.argTypes o.type #[.int k a,.int k b]) >>= fun v=>pure (Next.value v))=_;have:en K.P (Builtin.min_ c.argTypes o.type #[.int k a,.int k b])=some (.int k (min a b)):=by
        show some (Value.int k (if b<a then b else a))=_;congr 2
        split<;>omega
   rw[eW this];rfl
 unfold mr;rw[mq al H (vs:=[.int k a,.int k b]) (by rw[hK];simp only[hz,j,aC])];exact this
theorem eK.rd{g0:Nat}{e:TypeId}{sz k:Nat}{v:Value}{cells:List Value}{bq:aU}(h:eK e sz v k cells bq)(hm:∀x∈bq,x∈m):jg g0 B J m sz v k cells:=by
 rcases ke k with rfl|hk
 ·intro H au
  rcases h with⟨h,_,aE⟩|⟨a,full,rest,rfl,_,_,U,_⟩
  ·cases h with
   |nil=>exact⟨rfl,rfl⟩
   |hy a=>exact⟨rfl,rfl⟩
   |opn U ab=>exact⟨rfl,by rw[qf] at U;rw[nY U];rfl⟩
   |cap=>exact absurd (.head _) (aE _ _ _)
  ·exact⟨rfl,by rw[qf] at U;rw[<-U];rfl⟩
 ·obtain⟨a,full,rest,rfl,rfl,U,ab⟩:=h.row hk
  intro H au;refine⟨rfl,?_⟩;obtain⟨f,_,g,_⟩:=(au.own _ _ (hm _ (.head _))).1;unfold hd;cases k with
  |zero=>
   simp only
   rw[qf] at U;rw[<-U];rfl
  |succ k=>
   simp only[g];rw[rW,kd,sT (by omega),U]
end
theorem eK.Se{e:TypeId}{sz k:Nat}{v:Value}{cells:List Value}{bq:aU}(h:eK e sz v k cells bq):∃b c,v=.slice b k c:=by
 rcases h.form with⟨b,aQ,aP,_⟩|⟨a,full,rest,aQ,_⟩
 ·exact⟨_,_,by rw[aP];exact aQ⟩
 ·exact⟨_,_,aQ⟩
theorem Nh{l:List Value}{i:Nat}{v:Value}(h:i<l.length):fD i l [v]=some (l.set i v):=by
 rw[CJ _ _ _ (by rw[xx];omega),OS,bs h,xu];rfl
theorem eK.put{e:TypeId}{a k i x:Nat}{full:List Value}{rest:List Nat}{l:List Nat}(ay:full.take (k*1)=cj .u32 l)(hk:k*1<=full.length)(aw:l.length=k)(aq:i<k):eK e 1 (.slice (some ⟨a,0,none⟩) k cf) (l.set i x).length (cj .u32 (l.set i x)) [(a,.opn (full.set i (.int .u32 (x:Int))) e rest 0)]:=by
 have h:=eK.of (e:=e) (sz:=1) (k:=k) (a:=a) (full:=full.set i (.int .u32 (x:Int))) (rest:=rest) (by rw[rB];exact hk);have ab:(full.set i (.int .u32 (x:Int))).take (k*1)=cj .u32 (l.set i x):=by
  rw[List.take_set,ay];unfold cj;rw[HW]
 rw[ab] at h;rw[rB,aw];exact h
section
variable {Q:eF Tryz.prog}{g0:Nat}{J:an}
theorem GC{v w:Value}{x y:Nat}(U:dE J v x)(ab:dE J w y)(aC:y≠0)(iK:(aj x).length<=100)(ia:(aj y).length<=100):Fn (aS Q g0) 47 [v,w] [] J (O3 J x y):=by
 have gS:=U;have g1:=ab;have U:dx .u32 J v (aj x):=U;have ab:dx .u32 J w (aj y):=ab;obtain⟨bV,bE,rfl⟩:=U.form;obtain⟨b7,b8,rfl⟩:=ab.form;have hh:=pI aC;obtain⟨th,tM⟩:∃th,(aj y)[(aj y).length -1]?=some th:=⟨_,fx (by omega)⟩;have abD:th≠0:=zk y _ (by rw[As];exact tM);have abE:=oK (i' y) tM;obtain⟨f,ay⟩:∃f,f=1000000000 / (th+1):=⟨_,rfl⟩;have yG:0<f:=by rw[ay];exact Nat.div_pos (by omega) (by omega)
 have yH:f<1000000000:=by rw[ay];exact Nat.div_lt_self (by decide) (by omega)
 have TG:(1000000000:Int).tdiv ((th:Int)+1)=(f:Int):=by rw[ay];exact(rz 1000000000 (th+1)).symm
 have abr:(aj f).length<=1:=nB (by rw[Dd];exact yH);have SU:aj f=[f]:=by rw[zm yH];unfold iz;rw[a1 (by omega)]
 obtain⟨X,fA⟩:∃X,X=x*f:=⟨_,rfl⟩;obtain⟨Y,k7⟩:∃Y,Y=y*f:=⟨_,rfl⟩;have abI:(aj X).length<=101:=by rw[fA];exact Ca iK yH
 have yz:(aj Y).length<=101:=by rw[k7];exact Ca ia yH
 have yy:0<Y:=by rw[k7];exact gm (by omega) yG
 have EG:=pI (hR yy);obtain⟨T,cw⟩:∃T,(aj Y)[(aj Y).length -1]?=some T:=⟨_,fx (by omega)⟩;have abG:T≠0:=zk Y _ (by rw[As];exact cw);have abF:=oK (i' Y) cw;obtain⟨a,o,vp,e,rfl,gT,aD⟩:=ab.dv (by omega);have abV:nth vp (o+(((aj y).length:Int) -1).toNat*1)=some (.int .u32 (th:Int)):=by
  rw[show(((aj y).length:Int) -1).toNat=(aj y).length -1 by omega];exact aD _ _ tM
 refine Fn.cH (cK Tryz.func47) rfl rfl fun H=>?_;refine rg ?_;refine aH ?_;refine bg ?_;refine aH ?_;refine cm (G:=GB gS g1 (by omega)) (h:=?_);rintro v' m' ai hle ⟨rfl,rfl,rfl⟩;refine I V.bk ?_;refine aJ ?_;refine If (fun jh=>?_) fun jh=>?_
 ·have cx:x<y:=rT.1 jh;refine rg ?_;refine aH ?_;refine aJ ?_;refine ad.ret ?_;refine'⟨.inr rfl,rfl,_,[],.tmp rfl (.tmp rfl .nil),b1 _,?_⟩;first
   |exact⟨an.le.refl _,rfl,_,_,rfl,by rw[o3 cx];exact Cg,by rw[qc cx];exact gS⟩
   |exact⟨a'.trans (bW.trans (dc.trans (fP.trans (lR.trans k')))),rfl,_,_,rfl,e3.gJ,fm.gJ⟩
 ·have hZ:y<=x:=Qo jh;have SX:Y<=X:=by rw[fA,k7];exact kf _ hZ
  have TX:=q0 SX;refine lf ?_;refine aH ?_;refine I V.bX ?_;refine I V.bw ?_;refine I V.ec ?_;refine I V.gb ?_;refine I V.bX ?_;refine I V.hU ?_;refine I V.gb ?_;rw[TG,show IntKind.u64.wrap (f:Int)=(f:Int) from wrap_u64 (by omega) (by omega),show IntKind.u32.wrap (f:Int)=(f:Int) from wrap_u32 (by omega) (by omega)];refine cm (G:=GV (x:=f) yH) (h:=?_);rintro Zt m' bO a' ⟨_,rfl,cg⟩;have yo:=cg.gJ;refine I V.aI ?_;refine bg ?_;refine aH ?_;refine cm (G:=uQ (gS.mono a') yo (by omega) (by omega)) (h:=?_);rintro v' m' eL bW ⟨_,rfl,yx⟩;rw[<-fA] at yx;refine aH ?_;refine cm (G:=uQ (g1.mono (a'.trans bW)) (yo.mono bW) (by omega) (by omega)) (h:=?_);rintro v' m' hG dc ⟨_,rfl,EH⟩;rw[<-k7] at EH;have yx:=yx.mono dc;refine aH ?_;refine bU ?_;have yo:=(yo.mono bW).mono dc;have J':dx .u32 hG _ (aj X):=yx.gJ;have EG:dx .u32 hG _ (aj Y):=EH.gJ;obtain⟨c5,dj,rfl⟩:=J'.form;obtain⟨dM,eg,rfl⟩:=EG.form;have Ka:=EH.gJ;obtain⟨Iq,Gt,Qi,abk,rfl,S2,UI⟩:=J'.dv (by omega);obtain⟨aaW,WC,Qj,abl,rfl,aby,UJ⟩:=EG.dv (by omega);have abX:nth Qj (WC+(((aj Y).length:Int) -1).toNat*1)=some (.int .u32 (T:Int)):=by
   rw[show(((aj Y).length:Int) -1).toNat=(aj Y).length -1 by omega];exact UJ _ _ cw
  have Tb:ew hG 61 1 (.slice (some ⟨Iq,Gt,none⟩) (aj X).length dj) (aj X).length (cj .u32 (aj X)):=yx;obtain⟨l9,lc⟩:∃w,x3 Iq Gt dj 1 (((aj X).length:Int) -((aj Y).length:Int)+1) ((aj X).length:Int)=w:=⟨_,rfl⟩;have Bl:=QB Tb (a:=((aj X).length:Int) -((aj Y).length:Int)+1) (b:=((aj X).length:Int)) (by omega) (by omega) (by omega) (by omega);rw[lc] at Bl;obtain⟨N,pr⟩:∃N,N=(aj X).length -(aj Y).length+1:=⟨_,rfl⟩;have Ji:(((aj X).length:Int) -((aj Y).length:Int)+1).toNat=N:=by omega
  have Ri:(((aj X).length:Int) -(((aj X).length:Int) -((aj Y).length:Int)+1)).toNat=(aj Y).length -1:=by omega
  rw[Ji,Ri,iE,iE] at Bl;have Rh:((cj .u32 (aj X)).drop N).take ((aj Y).length -1)=cj .u32 ((aj X).drop N):=by
   unfold cj;rw[<-List.map_drop,jY (by rw[jw,qa];omega)]
  rw[Rh] at Bl;have JY:((aj X).drop N).length=(aj Y).length -1:=by rw[qa];omega
  have Eu:(aj X).drop N=aj (bi ((aj X).drop N)):=AZ (I5 (AY X));have pp:bi ((aj X).drop N)<Y:=Rd (m:=(aj Y).length -1) (i' X) (by omega) (by omega);refine rg ?_;refine aH ?_;refine I V.bX ?_;refine I V.bw ?_;refine I V.ec ?_;refine I V.gb ?_;refine I V.aI ?_;refine bg ?_;refine aH ?_;refine aJ ?_;refine ad.draw rfl (by kernel_rfl) (a6:=[.val 0,.val 1,.val 2,.val 3,.val 4,.kF 5,.val 6,.val 7,.val 8,.val 9,.val 10,.val 11,.val 12,.val 13,.cq [4,3,2,1,0],.bZ 14,.val 15,.cq [4,3,2,1,0],.bZ 16]) (by kernel_rfl) ?_;refine fX ?_;refine bd rfl V.bX ?_;refine bd rfl V.bX ?_;refine bR.makeSlice rfl rfl rfl rfl rfl rfl rfl (iQ Q g0) ?a2 ?U ?ab fun xH=>?_;case a2=>exact cQ
  case U=>exact cQ
  case ab=>exact cQ
  refine fX ?_;refine bd rfl V.bX ?_;refine bd rfl V.bX ?_;refine' bR.val rfl rfl rfl rfl (ZT rfl rfl (iQ Q g0) ?aD ?hk rfl rfl ?a2 ?U ?ab ?hw) ?_;case aD=>assumption
  case hk=>exact cQ
  case a2=>exact cQ
  case U=>exact cQ
  case ab=>exact cQ
  case hw=>assumption
  refine bR.cq eV ?_;refine' bR.I3 rfl rfl (rr rfl rfl rfl rfl rfl rfl (iQ Q g0) (uT Q g0) (fun i q=>by cases q) ?ez ?hm ?j ?dQ ?dV ?aw fun Hh LW Kd Ld=>?_);case ez=>exact .nil
  case hm=>exact Xz
  case j=>exact Bl.rd
  case dQ=>exact(by rw[q5,JY,iE])
  case dV=>exact zD _
  case aw=>exact(show 0+((aj Y).length -1)<=1000000 by omega)
  refine bd rfl V.aI ?_;refine bR.cq eV ?_;refine rv rfl V.aI ?_;refine bR.nil ?_;rw[Ji,zero_num];have Ut:N<=N/\hG.le hG/\(List.replicate N 0).length=N/\e5 (List.replicate N 0)/\bi ((List.replicate N 0).drop N)=bi ((aj X).drop N) / Y/\eK 61 1 Hh (aj (bi ((aj X).drop N) % Y)).length (cj .u32 (aj (bi ((aj X).drop N) % Y))) LW:=by
   refine⟨c9 _,an.le.refl _,HU,Mh,?_,?_⟩
   ·rw[va (by rw[HU];exact c9 _),o3 pp];rfl
   ·rw[qc pp,<-Eu,JY]
    rw[lE,rD] at Kd;exact .inl ⟨Kd,Ld.1 CY,Ld.2 Cc⟩
  refine rg ?_;refine aH ?_;refine I V.bX ?_;refine I V.aI ?_;refine aJ ?_;refine ad.block ?_;refine' ad.eZ (l':=[(9,.int .i64 (((N):Int) -1)),(5,(Hh)),(0,_),(1,_),(4,_),(6,_),(7,_)]) ⟨?aab,?fu,rfl,rfl,rfl,rfl,rfl,trivial⟩ (cl _) ?_;case aab=>first|exact cu|exact ak some (ak (Value.int .u64) (by omega))|exact ak some (ak (Value.int .i64) (by omega))
  case fu=>first|exact cu|exact ak some (ak (Value.int .u64) (by omega))|exact ak some (ak (Value.int .i64) (by omega))
  refine aM ?_;refine' ad.hN (fun(cT:Nat×(List Nat)×Value×aU×an)=>match cT with|(k,d,fu,bq,fT)=>⟨[(9,.int .i64 ((k:Int) -1)),(5,fu)],bq++[kz .u32 61 xH d],fT,k<=N/\hG.le fT/\d.length=N/\e5 d/\bi (d.drop k)=bi ((aj X).drop k) / Y/\eK 61 1 fu (aj (bi ((aj X).drop k) % Y)).length (cj .u32 (aj (bi ((aj X).drop k) % Y))) bq,k⟩) ⟨N,List.replicate N 0,Hh,LW,hG⟩ ?ag ?b2
  case ag=>exact Ut
  case b2=>
   rintro⟨k,d,fu,bq,fT⟩ hinv;try simp only at hinv
   obtain⟨hk,fP,Bs,Kk,ER,ez⟩:=hinv;refine rg ?_;refine I V.aT ?_;refine I V.bk ?_;refine aJ ?_;refine If (fun PT=>?_) fun PT=>?_
   ·obtain⟨z,a0⟩:∃z,(aj X)[k -1]?=some z:=⟨_,fx (by omega)⟩;have lS:nth Qi (Gt+((k:Int) -1).toNat*1)=some (.int .u32 (z:Int)):=by
     rw[show((k:Int) -1).toNat=k -1 by omega];exact UI _ _ a0
    have abx:=fP _ _ S2;have sq:=oK (i' X) a0;obtain⟨R,et⟩:∃R,R=bi ((aj X).drop k) % Y:=⟨_,rfl⟩;rw[<-et] at ez;have S7:R<Y:=by rw[et];exact qd _ yy
    have S8:(aj R).length<=101:=ej (q0 (xB S7)) yz;obtain⟨fk,og⟩:∃fk,fk=z+1000000000*R:=⟨_,rfl⟩;have Bn:fk<1000000000*Y:=by omega
    have S':bi (z::aj R)=fk:=by rw[og];show z+1000000000*bi (aj R)=_;rw[gj]
    have abH:(aj fk).length<=102:=nB (jZ Bn (by
     rw[m4,lD];exact kf _ (xB (sw yz))))
    have Jl:k -1+1=k:=by omega
    have bY:=ML (d:=d) yy a0 (by omega) (by rw[Jl];exact et) (by rw[Jl];exact ER) og;have T6:e5 (z::aj R):=fun u hu=>by
     rcases fy.1 hu with rfl|hu
     ·exact sq
     ·exact i' R u hu
    refine fJ ?_;refine aM ?_;refine ad.block ?_;refine rg ?_;refine aH ?_;refine I V.bw ?_;refine I V.ec ?_;refine jA (iQ Q g0) fun Pb=>?_;refine I V.aT ?_;refine' W.step rfl (.of (rr rfl rfl rfl rfl rfl rfl (iQ Q g0) (uT Q g0) (fun i q=>by cases q) ?ez ?hm ?j ?dQ ?dV ?aw fun ac1 acx Tl acb=>?_));case ez=>exact Acc.cap (a:=Pb) (el:=61) (k:=1) (C:=1) (full:=[.int .u32 (z:Int)]) rfl rfl (c9 _) zG
    case hm=>exact .refl _
    case j=>exact ez.rd (fun x j=>.tail _ (rC _ j))
    case dQ=>exact(by rw[q5,iE])
    case dV=>exact zD _
    case aw=>exact(show 1+(aj R).length<=1000000 by omega)
    refine W.XA Tl rfl fun kc dz qB=>?_;refine cm (G:=zV (l:=z::aj R) (by rw[kY,Nat.add_comm];exact qB) T6 (by rw[kY];omega)) (h:=?_);rintro v' m' ai hle ⟨rfl,rfl,vQ⟩;rw[S'] at vQ;have J8:dx .u32 kc v' (aj fk):=vQ.gJ;obtain⟨gp,e1,rfl⟩:=J8.form;have vQ:=vQ.gJ;have h':bi ((aj fk).drop (aj fk).length)=0:=(by rw[HQ];rfl);refine I V.aI ?_;refine bg ?_;refine I V.aI ?_;refine bg ?_;refine aH ?_;refine I V.bX ?_;refine I V.aI ?_;refine aJ ?_;refine ad.block ?_;refine' ad.eZ (l':=[(11,.int .i64 ((((aj fk).length):Int) -1)),(10,.int .u64 (bi ((aj fk).drop ((aj fk).length)):Int)),(0,_),(1,_),(4,_),(5,_),(6,_),(7,_),(9,_)]) ⟨?xe,?z6,rfl,rfl,rfl,rfl,rfl,rfl,rfl,trivial⟩ (cl _) ?_;case xe=>first|exact cu|exact ak some (ak (Value.int .u64) (by omega))|exact ak some (ak (Value.int .i64) (by omega))
    case z6=>first|exact cu|exact ak some (ak (Value.int .u64) (by omega))|exact ak some (ak (Value.int .i64) (by omega))
    refine aM ?_;refine' ad.l2 (α:=(Nat)) (fun(aa:Nat)=>[(11,.int .i64 ((aa:Int) -1)),(10,.int .u64 (bi ((aj fk).drop aa):Int))]) (fun(aa:Nat)=>aa<=(aj fk).length/\((aj Y).length -1<=aa\/aa=(aj fk).length)) (fun(aa:Nat)=>aa) ((aj fk).length) ?ag ?b2;case ag=>exact⟨c9 _,.inr rfl⟩
    case b2=>
     rintro aa hinv;try simp only at hinv
     obtain⟨aX,Ku⟩:=hinv;refine rg ?_;refine aH ?_;refine I V.bX ?_;refine I V.bk ?_;refine aJ ?_;refine If (fun PV=>?_) fun PV=>?_
     ·obtain⟨fv,BS⟩:∃z,(aj fk)[aa -1]?=some z:=⟨_,fx (by omega)⟩;obtain⟨aaV,WB,Qh,abj,rfl,abw,UH⟩:=J8.dv (by omega);have abW:nth Qh (WB+((aa:Int) -1).toNat*1)=some (.int .u32 (fv:Int)):=by
       rw[show((aa:Int) -1).toNat=aa -1 by omega];exact UH _ _ BS
      have Rk:=z3 BS;rw[show aa -1+1=aa by omega] at Rk;have nn:=Ks (n:=(aj Y).length -1) (by omega) Bn (aa -1) (by omega);have Rl:(bi ((aj fk).drop aa):Int)*1000000000+(fv:Int)=(bi ((aj fk).drop (aa -1)):Int):=by omega
      refine fJ ?_;refine aM ?_;refine ad.block ?_;refine rg ?_;refine I V.aT ?_;refine I V.bX ?_;refine aH ?_;refine I V.bw ?_;refine I V.ec ?_;refine I V.gb ?_;refine I V.bX ?_;refine I V.aI ?_;refine bU ?_;rw[Rl];refine rg ?_;refine I V.aT ?_;refine I V.bX ?_;refine I V.aI ?_;refine bU ?_;refine'⟨(aa -1),_,?hinv,?g5,rfl,⟨?VO,?F9,rfl,rfl,rfl,rfl,rfl,rfl,rfl,trivial⟩,cl _,rfl⟩;case VO=>first|exact cu|exact ak some (ak (Value.int .u64) (by omega))|exact ak some (ak (Value.int .i64) (by omega))
      case F9=>first|exact cu|exact ak some (ak (Value.int .u64) (by omega))|exact ak some (ak (Value.int .i64) (by omega))
      case g5=>exact cQ
      case hinv=>exact⟨by omega,.inl (by omega)⟩
     ·have Jk:(aj fk).drop aa=(aj fk).drop ((aj Y).length -1):=by
       rcases Ku with q|q
       ·rw[show aa=(aj Y).length -1 by omega]
       ·rw[va (by omega),va (by omega)]
      have jn:=Ks (n:=(aj Y).length -1) (by omega) Bn _ (c9 _);rw[<-Jk] at jn;have hZ:=Rq cw (by omega) Bn;rw[<-Jk] at hZ;obtain⟨fS,jm⟩:∃fS,fS=bi ((aj fk).drop aa) / T:=⟨_,rfl⟩;have abN:fS<=bi ((aj fk).drop aa):=by rw[jm];exact ve _ _
      rw[<-jm] at hZ;obtain⟨E,jl⟩:∃E,E=Nat.min fS 999999999:=⟨_,rfl⟩;rw[<-jl] at hZ;have kK:E<=999999999:=by rw[jl];exact Nat.min_le_right _ _
      have SR:min (IntKind.u64.wrap ((bi ((aj fk).drop aa):Int).tdiv (T:Int))) 999999999=(E:Int):=by
       rw[show(bi ((aj fk).drop aa):Int).tdiv (T:Int)=(fS:Int) by rw[jm];exact(rz _ _).symm];rw[wrap_u64 (by omega) (by omega),jl];show min (fS:Int) 999999999=((min fS 999999999:Nat):Int);omega
      refine aM ?_;refine ad.exit ?_;refine ma [10,0,1,4,5,6,7,9] ?_;refine aM ?_;refine' ad.nd 1 [(12,.int .u64 (E:Int))] ?Qx ?Q7;case Qx=>
       refine ad.region ?_;refine aH ?_;refine I V.hU ?_;refine' W.step rfl (Exec.val rfl rfl (ZM rfl rfl rfl rfl rfl) ?_);refine I V.aI ?_;refine bU ?_;refine'⟨⟨_,rfl,⟨?zu,rfl,rfl,rfl,rfl,rfl,rfl,rfl,trivial⟩⟩,cl _,rfl⟩;case zu=>exact ak some (ak (Value.int .u64) SR)
      case Q7=>
       refine aM ?_;refine ad.block ?_;refine' ad.eZ (l':=[(12,.int .u64 ((E):Int)),(0,_),(1,_),(4,_),(5,_),(6,_),(7,_),(9,_)]) ⟨?Hd,rfl,rfl,rfl,rfl,rfl,rfl,rfl,trivial⟩ (cl _) ?_;case Hd=>first|exact cu|exact ak some (ak (Value.int .u64) (by omega))|exact ak some (ak (Value.int .i64) (by omega))
       refine aM ?_;refine' ad.hN (fun(cT:Nat×an)=>match cT with|(t,nW)=>⟨[(12,.int .u64 (t:Int))],bq++[kz .u32 61 xH d],nW,fk / Y<=t/\t<=999999999/\kc.le nW,t⟩) ⟨E,kc⟩ ?ag ?b2
       case ag=>exact⟨hZ,kK,an.le.refl _⟩
       case b2=>
        rintro⟨t,nW⟩ hinv;try simp only at hinv
        obtain⟨y2,KY,vO⟩:=hinv;have ug:t<1000000000:=(by omega);refine rg ?_;refine aH ?_;refine I V.gb ?_;refine cm (G:=GV (x:=t) ug) (h:=?_);rintro v' m' xp fB ⟨_,rfl,tL⟩;have tL:=tL.gJ;refine cm (G:=uQ (Ka.mono (fP.trans (dz.trans (vO.trans fB)))) tL (by omega) (ej (nB (k:=1) (by rw[Dd];exact ug)) (by decide))) (h:=?_);rintro v' m' s5 g3 ⟨_,rfl,dN⟩;refine I V.aT ?_;refine cm (G:=GB dN.gJ (vQ.mono (vO.trans (fB.trans g3))) (ej (Ca yz ug) (by decide))) (h:=?_);rintro v' m' ai hle ⟨rfl,rfl,rfl⟩;refine I V.bk ?_;refine aJ ?_;refine If (fun AQ=>?_) fun AQ=>?_
        ·have kN:fk<Y*t:=by
           rcases gX fk (Y*t) with q|q
           ·exact q
           ·exfalso
            rcases Nat.eq_or_lt_of_le q with q|q
            ·rw[tr q] at AQ;omega
            ·rw[vl q] at AQ;omega
         have KB:fk / Y<t:=Nat.div_lt_of_lt_mul kN;have ab4:1<=t:=hn (fj _) KB;have Uv:fk / Y<=t -1/\t -1<=999999999/\kc.le s5:=⟨Nat.le_sub_one_of_lt KB,by omega,vO.trans (fB.trans g3)⟩;refine fJ ?_;refine aM ?_;refine ad.block ?_;refine rg ?_;refine I V.aT ?_;refine I V.bX ?_;refine I V.aI ?_;refine bU ?_;rw[show(t:Int) -1=((t -1:Nat):Int) by omega];refine hO ⟨t -1,s5⟩ ?_;exact Uv
        ·have hL:Y*t<=fk:=by
           rcases gX fk (Y*t) with q|q
           ·rw[xZ q] at AQ;omega
           ·exact q
         have FF:t=fk / Y:=Nat.le_antisymm ((H7 yy).2 (by rw[lD];exact hL)) y2;have TZ:fk -Y*t=fk % Y:=by
           have:=Db fk Y;rw[<-FF] at this;omega
         refine aM ?_;refine ad.exit ?_;refine rg ?_;refine aH ?_;refine I V.gb ?_;refine cm (G:=GV (x:=t) ug) (h:=?_);rintro v' m' HM fY ⟨_,rfl,tL⟩;have tL:=tL.gJ;refine cm (G:=uQ (Ka.mono (fP.trans (dz.trans (vO.trans (fB.trans (g3.trans fY)))))) tL (by omega) (ej (nB (k:=1) (by rw[Dd];exact ug)) (by decide))) (h:=?_);rintro v' m' s6 jo ⟨_,rfl,dN⟩;refine cm (G:=LN (vQ.mono (vO.trans (fB.trans (g3.trans (fY.trans jo))))) dN.gJ hL (by omega) (ej (Ca yz ug) (by decide))) (h:=?_);rintro N7 LS ai hle ⟨rfl,mx⟩;rw[TZ] at mx;refine I V.aT ?_;refine I V.gb ?_;refine I V.aI ?_;refine I V.bw ?_;refine' W.step rfl (.of (nP rfl rfl rfl rfl (lq rfl) rfl rfl rfl ?U ?ag ?ao ?_));case ao=>repeat first|exact .head _ _ _ _|apply e6.tail|apply e6.app
         case ag=>exact pP (l:=d) (x:=t) (k -1) (by omega) (by omega)
         case U=>first|rfl|assumption
         refine bU ?_;rw[FF];have b2:k -1<=N/\hG.le s6/\(d.set (k -1) (fk / Y)).length=N/\e5 (d.set (k -1) (fk / Y))/\bi ((d.set (k -1) (fk / Y)).drop (k -1))=bi ((aj X).drop (k -1)) / Y/\eK 61 1 N7 (aj (bi ((aj X).drop (k -1)) % Y)).length (cj .u32 (aj (bi ((aj X).drop (k -1)) % Y))) LS:=⟨by omega,fP.trans (dz.trans (vO.trans (fB.trans (g3.trans (fY.trans jo))))),by rw[rB];exact Bs,Cm Kk (by rw[<-FF];exact ug),bY.1,by rw[<-bY.2];exact mx⟩;refine rg ?_;refine I V.aT ?_;refine I V.bX ?_;refine I V.aI ?_;refine bU ?_;refine hO ⟨k -1,d.set (k -1) (fk / Y),N7,LS,s6⟩ ?_ (hm:=(cl _).append (xz _ _));exact b2
   ·obtain rfl:k=0:=by omega
    rw[kd,kd,gj] at ER;rw[kd,gj] at ez;obtain⟨R,et⟩:∃R,R=X % Y:=⟨_,rfl⟩;rw[<-et] at ez;have S8:(aj R).length<=101:=ej (q0 (xB (by rw[et];exact qd _ yy))) yz;obtain⟨fF,hb,rfl⟩:=ez.Se;have Ey:dx .u32 fT _ (aj f):=yo.mono fP;rw[SU] at Ey;have SV:∃b c,Zt=.slice b 1 c:=Ey.form;obtain⟨aa0,aa5,rfl⟩:=SV;obtain⟨aaU,WA,Qg,abi,rfl,abv,UG⟩:=Ey.dv Nat.one_pos;have abU:nth Qg (WA+(0:Int).toNat*1)=some (.int .u32 (f:Int)):=UG 0 f rfl;refine aM ?_;refine ad.exit ?_;refine rg ?_;refine I V.aI ?_;refine bg ?_;refine aH ?_;refine I V.bX ?_;refine I V.aI ?_;refine aJ ?_;refine ad.block ?_;refine' ad.eZ (l':=[(14,.int .i64 ((((aj R).length):Int) -1)),(13,.int .u64 ((0):Int)),(4,_),(5,_),(6,_)]) ⟨?He,?Z5,rfl,rfl,rfl,trivial⟩ (cl _) ?_;case He=>first|exact cu|exact ak some (ak (Value.int .u64) (by omega))|exact ak some (ak (Value.int .i64) (by omega))
    case Z5=>first|exact cu|exact ak some (ak (Value.int .u64) (by omega))|exact ak some (ak (Value.int .i64) (by omega))
    refine aM ?_;refine' ad.hN (fun(cT:Nat×Nat×(List Nat)×aU)=>match cT with|(aa,c,L,Gb)=>⟨[(14,.int .i64 ((aa:Int) -1)),(13,.int .u64 (c:Int))],Gb++[kz .u32 61 xH d],fT,aa<=(aj R).length/\L.length=(aj R).length/\e5 L/\L.take aa=(aj R).take aa/\bi (L.drop aa)=bi ((aj R).drop aa) / f/\c=bi ((aj R).drop aa) % f/\eK 61 1 (.slice fF (aj R).length hb) L.length (cj .u32 L) Gb,aa⟩) ⟨(aj R).length,0,aj R,bq⟩ ?ag ?b2
    case ag=>exact⟨c9 _,rfl,i' R,rfl,by rw[HQ];exact(Nat.zero_div f).symm,by rw[HQ];exact(Nat.zero_mod f).symm,ez⟩
    case b2=>
     rintro⟨aa,c,L,Gb⟩ hinv;try simp only at hinv
     obtain⟨aX,J3,J4,J5,EC,aF,Kc⟩:=hinv;refine rg ?_;refine I V.aT ?_;refine I V.bk ?_;refine aJ ?_;refine If (fun PK=>?_) fun PK=>?_
     ·obtain⟨z,a0⟩:∃z,(aj R)[aa -1]?=some z:=⟨_,fx (by omega)⟩;have UW:L[aa -1]?=some z:=by
       have aA:(L.take aa)[aa -1]?=L[aa -1]?:=HT (by omega);have aW:((aj R).take aa)[aa -1]?=(aj R)[aa -1]?:=HT (by omega);rw[<-aA,J5,aW,a0]
      have sq:=oK (i' R) a0;obtain⟨cO,full,rest,bc,rfl,gU,Bt⟩:=Kc.row (by omega);injection bc with bc b6 dX
      subst bc;subst dX;have KE:nth full (0+((aa:Int) -1).toNat*1)=some (.int .u32 (z:Int)):=by
       rw[Gn gU (by omega)];exact ux UW (by omega)
      have Tr:c<f:=by rw[aF];exact qd _ yG
      obtain⟨s,ag⟩:∃s,s=z+1000000000*c:=⟨_,rfl⟩;have Fy:(c:Int)*1000000000+(z:Int)=(s:Int):=by omega
      have wh:s<1000000000000000000:=by omega
      have Kj:s / f<1000000000:=by rw[ag];exact QY sq Tr
      have yF:(s:Int).tdiv (f:Int)=((s / f:Nat):Int):=(rz s f).symm;have ua:(s:Int).tmod (f:Int)=((s % f:Nat):Int):=(xo s f).symm;have UP:IntKind.u64.wrap ((s / f:Nat):Int)=((s / f:Nat):Int):=wrap_u64 (HK _) (by omega);have aA:aa -1+1=aa:=by omega
      have bY:=ML (d:=L) yG a0 (by omega) (by rw[aA];exact aF) (by rw[aA];exact EC) ag;have Uw:aa -1<=(aj R).length/\(L.set (aa -1) (s / f)).length=(aj R).length/\e5 (L.set (aa -1) (s / f))/\(L.set (aa -1) (s / f)).take (aa -1)=(aj R).take (aa -1)/\bi ((L.set (aa -1) (s / f)).drop (aa -1))=bi ((aj R).drop (aa -1)) / f/\s % f=bi ((aj R).drop (aa -1)) % f/\eK 61 1 (.slice (some ⟨cO,0,none⟩) (aj R).length cf) (L.set (aa -1) (s / f)).length (cj .u32 (L.set (aa -1) (s / f))) [(cO,.opn (full.set (aa -1) (.int .u32 ((s / f:Nat):Int))) 61 [] 0)]:=⟨by omega,by rw[rB];exact J3,Cm J4 Kj,by
       rw[List.take_set_of_le (c9 _)];have aQ:(L.take aa).take (aa -1)=L.take (aa -1):=by rw[rE,h5 (by omega)]
       have aP:((aj R).take aa).take (aa -1)=(aj R).take (aa -1):=by rw[rE,h5 (by omega)]
       rw[<-aQ,<-aP,J5],bY.1,bY.2,by
       rw[<-J3];exact eK.put gU Bt rfl (by omega)⟩
      refine fJ ?_;refine aM ?_;refine ad.block ?_;refine rg ?_;refine I V.aT ?_;refine I V.bX ?_;refine aH ?_;refine I V.bw ?_;refine I V.ec ?_;refine I V.gb ?_;refine I V.bX ?_;refine I V.aI ?_;refine bU ?_;rw[Fy];refine rg ?_;refine aH ?_;refine I V.bw ?_;refine I V.ec ?_;refine I V.gb ?_;refine I V.hU ?_;rw[yF,UP];refine I V.gb ?_;rw[show IntKind.u32.wrap ((s / f:Nat):Int)=((s / f:Nat):Int) from wrap_u32 (HK _) (by omega)];refine I V.bw ?_;refine' W.step rfl (.of (Hm rfl rfl rfl rfl (lq rfl) rfl rfl rfl ?U ?ag ?a0 ?ao ?_));case ao=>exact .refl _
      case ag=>exact Nh (by omega)
      case U=>first|rfl|assumption
      case a0=>exact fj _
      refine bU ?_;rw[show 0+((aa:Int) -1).toNat*1=aa -1 by omega];refine rg ?_;refine aH ?_;refine I V.bw ?_;refine I V.ec ?_;refine I V.gb ?_;refine I V.hU ?_;refine I V.aI ?_;refine bU ?_;rw[ua];refine rg ?_;refine I V.aT ?_;refine I V.bX ?_;refine I V.aI ?_;refine bU ?_;refine hO ⟨aa -1,s % f,L.set (aa -1) (s / f),[(cO,.opn (full.set (aa -1) (.int .u32 ((s / f:Nat):Int))) 61 [] 0)]⟩ ?_;exact Uw
     ·obtain rfl:aa=0:=by omega
      rw[kd,kd,gj] at EC;refine eK.pU Kc (.refl _) fun C8 lR S9=>?_;refine ad.ju rfl fun k'=>?_;have Ue:bi d=x / y:=by rw[ER,fA,k7,Nat.mul_div_mul_right _ _ yG]
      have Un:bi L=x % y:=by rw[EC,et,fA,k7,Nat.mul_mod_mul_right,qe _ yG]
      have qB:ew (C8.add xH (cj .u32 d,61)) 61 1 (.slice (some ⟨xH,0,none⟩) N N) d.length (cj .u32 d):=by
       rw[<-Bs];exact .row (an.h6 _ _ _) (by rw[kd,iE];exact jY (by rw[q5];exact c9 _)) (by rw[q5,iE]) (fun _=>⟨c9 _,B7 (by omega)⟩) (fun q=>absurd q (xC (B7 (by omega))))
      refine aM ?_;refine ad.exit ?_;refine rg ?_;refine I V.aT ?_;refine cm (G:=zV (l:=d) qB Kk (by omega)) (h:=?_);rintro v' m' ai hle ⟨rfl,rfl,e3⟩;rw[Ue] at e3;refine I V.aT ?_;refine cm (G:=zV (l:=L) (ew.mono k' S9) J4 (by omega)) (h:=?_);rintro v' m' ai hle ⟨rfl,rfl,fm⟩;rw[Un] at fm;refine aH ?_;refine aJ ?_;refine ad.ret ?_;refine'⟨.inr rfl,rfl,_,[],.tmp rfl (.tmp rfl .nil),b1 _,?_⟩;first
       |exact⟨an.le.refl _,rfl,_,_,rfl,by rw[o3 cx];exact Cg,by rw[qc cx];exact gS⟩
       |exact⟨a'.trans (bW.trans (dc.trans (fP.trans (lR.trans k')))),rfl,_,_,rfl,e3.gJ,fm.gJ⟩
end
section
variable {Q:eF Tryz.prog}{g0:Nat}{J:an}
theorem DQ{v w:Value}{x y:Nat}(U:dE J v x)(ab:dE J w y)(iK:(aj x).length<=100)(ia:(aj y).length<=100):Fn (aS Q g0) 46 [v,w] [] J (fun u m' ai=>J.le ai/\m'=[]/\dE ai u (Nat.gcd x y)):=by
 have gS:dx .u32 J v (aj x):=U;have g1:dx .u32 J w (aj y):=ab;obtain⟨bV,bE,rfl⟩:=gS.form;obtain⟨b7,b8,rfl⟩:=g1.form;refine Fn.cH (cK Tryz.func46) rfl rfl fun H=>?_;refine rg ?_;refine I V.aI ?_;refine aJ ?_;refine ad.block ?_;refine' ad.eZ (l':=[(0,.slice (bV) (aj (x)).length (bE)),(1,.slice (b7) (aj (y)).length (b8))]) ⟨?w0,?bc,trivial⟩ (cl _) ?_;case w0=>first|exact cu|exact ak some (ak (Value.int .u64) (by omega))|exact ak some (ak (Value.int .i64) (by omega))
 case bc=>first|exact cu|exact ak some (ak (Value.int .u64) (by omega))|exact ak some (ak (Value.int .i64) (by omega))
 refine aM ?_;refine' ad.hN (fun(cT:Nat×Nat×(Option Addr)×(Option Addr)×Nat×Nat×an)=>match cT with|(a,b,Dw,k2,AS,xV,fT)=>⟨[(0,.slice Dw (aj a).length AS),(1,.slice k2 (aj b).length xV)],[],fT,J.le fT/\dE fT (.slice Dw (aj a).length AS) a/\dE fT (.slice k2 (aj b).length xV) b/\(aj a).length<=100/\(aj b).length<=100/\Nat.gcd a b=Nat.gcd x y,b⟩) ⟨x,y,bV,b7,bE,b8,J⟩ ?ag ?b2
 case ag=>exact⟨an.le.refl _,U,ab,iK,ia,rfl⟩
 case b2=>
  rintro⟨a,b,Dw,k2,AS,xV,fT⟩ hinv;try simp only at hinv
  obtain⟨fP,e3,fm,tZ,t',ar⟩:=hinv;refine rg ?_;refine aH ?_;refine I V.bk ?_;refine aJ ?_;refine If (fun gQ=>?_) fun gQ=>?_
  ·have gf:b≠0:=F1 (by omega);have KC:a % b<b:=qd _ (by omega);refine fJ ?_;refine aM ?_;refine ad.block ?_;refine rg ?_;refine aH ?_;refine cm (G:=GC e3 fm gf tZ t') (h:=?_);rintro v' m' bO hle ⟨a',rfl,bc,b6,rfl,bY,ap⟩;have dR:dx .u32 bO b6 (aj (a % b)):=ap;obtain⟨dM,eg,rfl⟩:=dR.form;refine aH ?_;refine bg ?_;refine aH ?_;refine bU ?_;have b2:J.le bO/\dE bO (.slice k2 (aj b).length xV) b/\dE bO (.slice dM (aj (a % b)).length eg) (a % b)/\(aj b).length<=100/\(aj (a % b)).length<=100/\Nat.gcd b (a % b)=Nat.gcd x y:=⟨fP.trans a',fm.mono a',ap,t',ej (q0 (xB KC)) t',by
    rw[<-ar,o4 a b,Ay b a,o4 (a % b) b]⟩
   refine hO ⟨b,a % b,k2,dM,xV,eg,bO⟩ ?_;exact b2
  ·have gf:b=0:=by
    rcases ke b with q|q
    ·exact q
    ·have:=pI (hR q);omega
   rw[gf,tf] at ar;refine aM ?_;refine ad.exit ?_;refine rg ?_;refine aH ?_;refine aJ ?_;refine ad.ret ?_;refine'⟨.inr rfl,rfl,_,[],.tmp rfl .nil,b1 _,⟨fP,rfl,by rw[<-ar];exact e3⟩⟩
theorem I2{v:Value}{x:Nat}(h:dE J v x)(aw:(aj x).length<=100):Fn (aS Q g0) 75 [v] [] J (fun u m' ai=>u=.int .i64 0/\m'=[]/\J=ai):=by
 have gS:dx .u32 J v (aj x):=h;obtain⟨bV,bE,rfl⟩:=gS.form;have iW:=gS.at;refine Fn.cH (cK Tryz.func75) rfl rfl fun H=>?_;refine rg ?_;refine I V.aI ?_;refine bg ?_;refine aH ?_;refine I V.bk ?_;refine aJ ?_;refine If (fun e1=>?_) fun e1=>?_
 ·exfalso;omega
 ·refine aM ?_;refine ad.skip ?_;refine rg ?_;refine I V.aI ?_;refine aJ ?_;refine ad.block ?_;refine' ad.eZ (l':=[(3,.int .i64 ((0):Int)),(0,_)]) ⟨?dX,rfl,trivial⟩ (cl _) ?_;case dX=>first|exact cu|exact ak some (ak (Value.int .u64) (by omega))|exact ak some (ak (Value.int .i64) (by omega))
  refine aM ?_;refine' ad.l2 (α:=(Nat)) (fun(i:Nat)=>[(3,.int .i64 (i:Int))]) (fun(i:Nat)=>i<=(aj x).length) (fun(i:Nat)=>(aj x).length -i) (0) ?ag ?b2;case ag=>exact fj _
  case b2=>
   rintro i hinv;try simp only at hinv
   have aq:=hinv;refine rg ?_;refine aH ?_;refine I V.bk ?_;refine aJ ?_;refine If (fun dP=>?_) fun dP=>?_
   ·obtain⟨a,o,vp,e,rfl,gT,aD⟩:=iW (by omega);obtain⟨p,ao,hf⟩:=aD i (by omega);have bC:=oK (i' x) ao;refine fJ ?_;refine aM ?_;refine ad.block ?_;refine rg ?_;refine aH ?_;refine I V.bw ?_;refine I V.ec ?_;refine I V.bk ?_;refine aJ ?_;refine If (fun qn=>?_) fun qn=>?_
    ·exfalso;omega
    ·refine aM ?_;refine ad.skip ?_;refine rg ?_;refine I V.aT ?_;refine I V.bX ?_;refine I V.aI ?_;refine bU ?_;refine'⟨(i+1),_,?hinv,?g5,rfl,⟨?mN,rfl,trivial⟩,cl _,rfl⟩;case mN=>first|exact cu|exact ak some (ak (Value.int .u64) (by omega))|exact ak some (ak (Value.int .i64) (by omega))
     case g5=>exact cQ
     case hinv=>exact(by omega)
   ·refine aM ?_;refine ad.exit ?_;refine rg ?_;refine aH ?_;refine I V.bk ?_;refine I V.aT ?_;refine gP 21 (fun SB=>?_) fun SB=>?_
    ·obtain⟨a,o,vp,e,rfl,gT,aD⟩:=iW (by omega);obtain⟨p,ao,hf⟩:=aD ((aj x).length -1) (by omega);have bC:p≠0:=zk x _ (by rw[As];exact ao);have hf:nth vp (o+(((aj x).length:Int) -1).toNat*1)=some (.int .u32 (p:Int)):=by
       rw[show(((aj x).length:Int) -1).toNat=(aj x).length -1 by omega];exact hf
     refine bF V.aT ?_;refine bF V.aT ?_;refine bF V.h2 ?_;refine bF V.bX ?_;refine bF V.bw ?_;refine bF V.ec ?_;refine bF V.bk ?_;refine I V.bx ?_;refine aJ ?_;refine If (fun PN=>?_) fun PN=>?_
     ·exfalso;omega
     ·refine aM ?_;refine ad.skip ?_;refine rg ?_;refine I V.aI ?_;refine aJ ?_;refine ad.ret ?_;refine'⟨.inr rfl,rfl,_,[],.tmp rfl .nil,b1 _,⟨rfl,rfl,rfl⟩⟩
    ·refine cz ?_;refine cz ?_;refine cz ?_;refine cz ?_;refine cz ?_;refine cz ?_;refine cz ?_;refine I V.bx ?_;refine aJ ?_;refine ad.rU rfl ?_;refine lf ?_;refine I V.aI ?_;refine aJ ?_;refine ad.ret ?_;refine'⟨.inr rfl,rfl,_,[],.tmp rfl .nil,b1 _,⟨rfl,rfl,rfl⟩⟩
end
end
end Go.Opn
