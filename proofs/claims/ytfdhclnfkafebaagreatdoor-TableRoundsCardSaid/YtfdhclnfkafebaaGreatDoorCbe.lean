/- A part of the proof of TableRounds. -/
import Derived.Test.YtfdhclnfkafebaaGreatDoorCbc
import Derived.Test.YtfdhclnfkafebaaGreatDoorCbd
import Derived.Test.YtfdhclnfkafebaaGreatDoorCar
set_option maxRecDepth 100000
set_option maxHeartbeats 8000000
set_option linter.unusedVariables false
set_option linter.unusedSimpArgs false
namespace Go.Opn
noncomputable section
open Go.Cre Go.RowKit Go.Proofs
theorem akD{u y k:Nat}(h:u<1000000000*y)(aB:(ai y).length<=k):(ai u).length<=k+1:=mG (iJ h (by
 rw[fC,dz];exact e0 _ (r0 (oi aB))))
theorem KT{x f k:Nat}(ab:(ai x).length<=k)(aM:f<1000000000):(ai (x*f)).length<=k+1:=by
 refine mG ?_;have ad:=oi ab;rw[fC];exact abJ ad I bC
theorem K2{J:an}:cM J (.slice none 0 0) 0:=by
 show cR .u32 J _ (ai 0);rw[l5];exact cR.nil
theorem adV{x y:Nat}(h:¬jq x y<0):y<=x:=by
 rcases iK x y with q|q
 ·exact absurd (r'.2 q) h
 ·exact q
theorem lD{x y:Nat}(h:y<=x):(ai y).length<=(ai x).length:=by
 rcases iK (ai x).length (ai y).length with q|q
 ·have:=vx q;omega
 ·exact q
abbrev abQ(J:an)(x y:Nat):Value->a8->an->Prop:=fun u m' ah=>J.le ah/\m'=[]/\∃bm bW,u=.tuple #[bm,bW]/\cM ah bm (x / y)/\cM ah bW (x % y)
section
variable {K:ef}{B:dy}{o:Oper}{n:Nat}{ds:eK}{l:List (Nat×Value)}{m m':a8}{J:an}
theorem R8{c:Call}{x y:Operand}{k:IntKind}{a b:Int}(aj:o.op=.call c)(aJ:c.callee=.builtin .min)(h4:c.args.toList=[x,y])(ab:bT l x=some (.int k a))(aB:bT l y=some (.int k b)):c5 K B o n ds l m J (.int k (min a b)):=by
 intro call aQ S H ax aH;rw[Aa aj aJ];have nw:c.args=#[x,y]:=by rw[<-SC];exact h4
 have:fk K.P S.T H o=some (.val (.int k (min a b)) H):=by
  refine pM ax ?_ ab aB rfl rfl ?_ rfl
  ·rw[aj]
   show(Call.operands c).toList=_;simp[Call.operands,aJ,nw]
  ·unfold execOp;simp only[aj]
   have av:fc K.P (resolve (pL S.T H) c o.type)=some {target:=.builtin .min c.argTypes o.type (c.args.map fun|.const _=>true|_=>false),args:=#[.int k a,.int k b]}:=by
        unfold resolve;simp only[aJ,nw];show some _=some _;simp[hS ax H ab,hS ax H aB];exact⟨by cases x<;>rfl,by cases y<;>rfl⟩
   rw[gB av];show fc K.P ((Builtin.min_ c.argTypes o.type #[.int k a,.int k b]) >>= fun v=>pure (Next.value v))=_;have:fc K.P (Builtin.min_ c.argTypes o.type #[.int k a,.int k b])=some (.int k (min a b)):=by
        show some (Value.int k (if b<a then b else a))=_;congr 2
        split<;>omega
   rw[gB this];rfl
 unfold qh;rw[oG ax H (vs:=[.int k a,.int k b]) (by rw[h4];simp only[ix,ab,aB])];exact this
theorem gy.rd{g0:Nat}{e:TypeId}{sz k:Nat}{v:Value}{cells:List Value}{bZ:a8}(h:gy e sz v k cells bZ)(hm:∀x∈bZ,x∈m):mA g0 B J m sz v k cells:=by
 rcases jj k with rfl|hk
 ·intro H aH
  rcases h with⟨h,_,aE⟩|⟨a,full,rest,rfl,_,_,ad,_⟩
  ·cases h with
   |nil=>exact⟨rfl,rfl⟩
   |js a=>exact⟨rfl,rfl⟩
   |opn ad af=>exact⟨rfl,by rw[j8] at ad;rw[kU ad];rfl⟩
   |cap=>exact absurd (.head _) (aE _ _ _)
  ·exact⟨rfl,by rw[j8] at ad;rw[<-ad];rfl⟩
 ·obtain⟨a,full,rest,rfl,rfl,ad,af⟩:=h.row hk
  intro H aH;refine⟨rfl,?_⟩;obtain⟨f,_,g,_⟩:=(aH.own _ _ (hm _ (.head _))).1;unfold jV;cases k with
  |zero=>
   simp only
   rw[j8] at ad;rw[<-ad];rfl
  |succ k=>
   simp only[g];rw[wy,hi,xS I,ad]
end
theorem gy.U0{e:TypeId}{sz k:Nat}{v:Value}{cells:List Value}{bZ:a8}(h:gy e sz v k cells bZ):∃b c,v=.slice b k c:=by
 rcases h.form with⟨b,aX,aU,_⟩|⟨a,full,rest,aX,_⟩
 ·exact⟨_,_,by rw[aU];exact aX⟩
 ·exact⟨_,_,aX⟩
theorem ZK{l:List Value}{i:Nat}{v:Value}(h:i<l.length):gw i l [v]=some (l.set i v):=by
 rw[HV _ _ _ (by rw[x9];omega),abv,bj h,nM];rfl
theorem gy.put{e:TypeId}{a k i x:Nat}{full:List Value}{rest:List Nat}{l:List Nat}(aM:full.take (k*1)=b7 .u32 l)(hk:k*1<=full.length)(aD:l.length=k)(ar:i<k):gy e 1 (.slice (some ⟨a,0,none⟩) k cQ) (l.set i x).length (b7 .u32 (l.set i x)) [(a,.opn (full.set i (.int .u32 (x:Int))) e rest 0)]:=by
 have h:=gy.of (e:=e) (sz:=1) (k:=k) (a:=a) (full:=full.set i (.int .u32 (x:Int))) (rest:=rest) (by rw[hr];exact hk);have af:(full.set i (.int .u32 (x:Int))).take (k*1)=b7 .u32 (l.set i x):=by
  rw[List.take_set,aM];unfold b7;rw[IJ]
 rw[af] at h;rw[hr,aD];exact h
section
variable {Q:dD Tryz.prog}{g0:Nat}{J:an}
theorem Lk{v w:Value}{x y:Nat}(ad:cM J v x)(af:cM J w y)(aB:y≠0)(mD:(ai x).length<=60000)(n6:(ai y).length<=60000):Fn (a1 Q g0) 91 [v,w] [] J (abQ J x y):=by
 have ku:=ad;have jW:=af;have ad:cR .u32 J v (ai x):=ad;have af:cR .u32 J w (ai y):=af;obtain⟨bQ,bH,rfl⟩:=ad.form;obtain⟨bL,bM,rfl⟩:=af.form;have eU:=tT aB;obtain⟨zT,wO⟩:∃zT,(ai y)[(ai y).length -1]?=some zT:=⟨_,eE I⟩;have ar9:zT≠0:=Dx y _ (by rw[qU];exact wO);have JR:=pJ (hB y) wO;obtain⟨f,aM⟩:∃f,f=1000000000 / (zT+1):=⟨_,rfl⟩;have pr:0<f:=by rw[aM];exact Mm I I
 have tH:f<1000000000:=by rw[aM];exact Nat.div_lt_self bC I
 have ahZ:(1000000000:Int).tdiv ((zT:Int)+1)=(f:Int):=by rw[aM];exact(B1 1000000000 (zT+1)).symm
 have arR:(ai f).length<=1:=mG (by rw[B'];exact tH);have agW:ai f=[f]:=sH I tH;obtain⟨X,fG⟩:∃X,X=x*f:=⟨_,rfl⟩;obtain⟨Y,kJ⟩:∃Y,Y=y*f:=⟨_,rfl⟩;have ase:(ai X).length<=60001:=by rw[fG];exact KT mD tH
 have An:(ai Y).length<=60001:=by rw[kJ];exact KT n6 tH
 have wR:0<Y:=by rw[kJ];exact iW I pr
 have Oz:=tT (jl wR);obtain⟨T,cB⟩:∃T,(ai Y)[(ai Y).length -1]?=some T:=⟨_,eE I⟩;have asa:T≠0:=Dx Y _ (by rw[qU];exact cB);have ahm:=pJ (hB Y) cB;obtain⟨a,o,pi,e,rfl,hy,az⟩:=af.et I;have asA:nth pi (o+(((ai y).length:Int) -1).toNat*1)=some (.int .u32 (zT:Int)):=by
  rw[show(((ai y).length:Int) -1).toNat=(ai y).length -1 by omega];exact az _ _ wO
 refine Fn.cr (cu Tryz.func91) rfl rfl fun H=>?_;refine rg ?_;refine al ?_;refine a2 ?_;refine al ?_;refine bN (G:=Lj ku jW I) (h:=?_);rintro v' m' ah hle ⟨rfl,rfl,rfl⟩;refine U V.bb ?_;refine aA ?_;refine If (fun kE=>?_) fun kE=>?_
 ·have cA:x<y:=r'.1 kE;refine rg ?_;refine al ?_;refine aA ?_;refine ae.ret ?_;refine'⟨.inr rfl,rfl,_,[],.tmp rfl (.tmp rfl .nil),br _,?_⟩;first
   |exact⟨an.le.refl _,rfl,_,_,rfl,by rw[rY cA];exact K2,by rw[nO cA];exact ku⟩
   |exact⟨aK.trans (bi.trans (cn.trans (c2.trans (qp.trans pv)))),rfl,_,_,rfl,eT.fU,e4.fU⟩
 ·have jZ:y<=x:=adV kE;have agZ:Y<=X:=by rw[fG,kJ];exact e0 _ jZ
  have n7:=lD agZ;refine fy ?_;refine al ?_;refine U V.aY ?_;refine U V.bh ?_;refine U V.cg ?_;refine U V.d' ?_;refine U V.aY ?_;refine U V.hn ?_;refine U V.d' ?_;rw[ahZ,show IntKind.u64.wrap (f:Int)=(f:Int) from wrap_u64 I I,show IntKind.u32.wrap (f:Int)=(f:Int) from wrap_u32 I I];refine bN (G:=RK (x:=f) tH) (h:=?_);rintro apq m' bK aK ⟨_,rfl,b4⟩;have FL:=b4.fU;refine U V.au ?_;refine a2 ?_;refine al ?_;refine bN (G:=uh (ku.mono aK) FL I I) (h:=?_);rintro v' m' dT bi ⟨_,rfl,FW⟩;rw[<-fG] at FW;refine al ?_;refine bN (G:=uh (jW.mono (aK.trans bi)) (FL.mono bi) I I) (h:=?_);rintro v' m' ga cn ⟨_,rfl,OA⟩;rw[<-kJ] at OA;have FW:=FW.mono cn;refine al ?_;refine a3 ?_;have FL:=(FL.mono bi).mono cn;have Vu:cR .u32 ga _ (ai X):=FW.fU;have Oz:cR .u32 ga _ (ai Y):=OA.fU;obtain⟨cZ,db,rfl⟩:=Vu.form;obtain⟨dE,dZ,rfl⟩:=Oz.form;have Vx:=OA.fU;obtain⟨Tz,Ra,adO,arK,rfl,ag2,ajq⟩:=Vu.et I;obtain⟨arj,alH,adP,arL,rfl,arY,ajr⟩:=Oz.et I;have asC:nth adP (alH+(((ai Y).length:Int) -1).toNat*1)=some (.int .u32 (T:Int)):=by
   rw[show(((ai Y).length:Int) -1).toNat=(ai Y).length -1 by omega];exact ajr _ _ cB
  have ahq:fP ga 72 1 (.slice (some ⟨Tz,Ra,none⟩) (ai X).length db) (ai X).length (b7 .u32 (ai X)):=FW;obtain⟨kk,oc⟩:∃w,Fj Tz Ra db 1 (((ai X).length:Int) -((ai Y).length:Int)+1) ((ai X).length:Int)=w:=⟨_,rfl⟩;have JQ:=aeb ahq (a:=((ai X).length:Int) -((ai Y).length:Int)+1) (b:=((ai X).length:Int)) I I I I;rw[oc] at JQ;obtain⟨N,gC⟩:∃N,N=(ai X).length -(ai Y).length+1:=⟨_,rfl⟩;have UD:(((ai X).length:Int) -((ai Y).length:Int)+1).toNat=N:=I
  have afb:(((ai X).length:Int) -(((ai X).length:Int) -((ai Y).length:Int)+1)).toNat=(ai Y).length -1:=I
  rw[UD,afb,gT,gT] at JQ;have afa:((b7 .u32 (ai X)).drop N).take ((ai Y).length -1)=b7 .u32 ((ai X).drop N):=by
   unfold b7;rw[<-S2,dd (by rw[g6,lQ];omega)]
  rw[afa] at JQ;have JI:((ai X).drop N).length=(ai Y).length -1:=by rw[lQ];omega
  have agS:(ai X).drop N=ai (aN ((ai X).drop N)):=pg (Up (z5 X));have u4:aN ((ai X).drop N)<Y:=ae5 (m:=(ai Y).length -1) (hB X) I I;refine rg ?_;refine al ?_;refine U V.aY ?_;refine U V.bh ?_;refine U V.cg ?_;refine U V.d' ?_;refine U V.au ?_;refine a2 ?_;refine al ?_;refine aA ?_;refine ae.draw rfl (by kernel_rfl) (a':=[.val 0,.val 1,.val 2,.val 3,.val 4,.ka 5,.val 6,.val 7,.val 8,.val 9,.val 10,.val 11,.val 12,.val 13,.b9 [4,3,2,1,0],.bR 14,.val 15,.b9 [4,3,2,1,0],.bR 16]) (by kernel_rfl) ?_;refine eg ?_;refine aT rfl V.aY ?_;refine aT rfl V.aY ?_;refine bp.makeSlice rfl rfl rfl rfl rfl rfl rfl (hb Q g0) ?aO ?ad ?af fun EL=>?_;case aO=>exact bz
  case ad=>exact bz
  case af=>exact bz
  refine eg ?_;refine aT rfl V.aY ?_;refine aT rfl V.aY ?_;refine' bp.val rfl rfl rfl rfl (apN rfl rfl (hb Q g0) ?az ?hk rfl rfl ?aO ?ad ?af ?hw) ?_;case az=>assumption
  case hk=>exact bz
  case aO=>exact bz
  case ad=>exact bz
  case af=>exact bz
  case hw=>assumption
  refine bp.b9 eH ?_;refine' bp.uR rfl rfl (qM rfl rfl rfl rfl rfl rfl (hb Q g0) (sZ Q g0) (fun i q=>by cases q) ?eW ?hm ?ab ?ei ?eh ?aD fun Sh X0 VB WU=>?_);case eW=>exact .nil
  case hm=>exact amT
  case ab=>exact JQ.rd
  case ei=>exact(by rw[oU,JI,gT])
  case eh=>exact xx _
  case aD=>exact(show 0+((ai Y).length -1)<=1000000 by omega)
  refine aT rfl V.au ?_;refine bp.b9 eH ?_;refine zD rfl V.au ?_;refine bp.nil ?_;rw[UD,zero_num];have ai7:N<=N/\ga.le ga/\(List.replicate N 0).length=N/\dS (List.replicate N 0)/\aN ((List.replicate N 0).drop N)=aN ((ai X).drop N) / Y/\gy 72 1 Sh (ai (aN ((ai X).drop N) % Y)).length (b7 .u32 (ai (aN ((ai X).drop N) % Y))) X0:=by
   refine⟨bX _,an.le.refl _,mT,DO,?_,?_⟩
   ·rw[tb (by rw[mT];exact bX _),rY u4];rfl
   ·rw[nO u4,<-agS,JI]
    rw[j7,kp] at VB;exact .inl ⟨VB,WU.1 BS,WU.2 Bb⟩
  refine rg ?_;refine al ?_;refine U V.aY ?_;refine U V.au ?_;refine aA ?_;refine ae.block ?_;refine' ae.dO (l':=[(9,.int .i64 (((N):Int) -1)),(5,(Sh)),(0,_),(1,_),(4,_),(6,_),(7,_)]) ⟨?Eb,?gm,rfl,rfl,rfl,rfl,rfl,trivial⟩ (bx _) ?_;case Eb=>first|exact bg|exact aa some (aa (Value.int .u64) I)|exact aa some (aa (Value.int .u32) I)|exact aa some (aa (Value.int .i64) I)
  case gm=>first|exact bg|exact aa some (aa (Value.int .u64) I)|exact aa some (aa (Value.int .u32) I)|exact aa some (aa (Value.int .i64) I)
  refine ao ?_;refine' ae.e2 (fun(a6:Nat×(List Nat)×Value×a8×an)=>match a6 with|(k,d,gm,bZ,dw)=>⟨[(9,.int .i64 ((k:Int) -1)),(5,gm)],bZ++[eO .u32 72 EL d],dw,k<=N/\ga.le dw/\d.length=N/\dS d/\aN (d.drop k)=aN ((ai X).drop k) / Y/\gy 72 1 gm (ai (aN ((ai X).drop k) % Y)).length (b7 .u32 (ai (aN ((ai X).drop k) % Y))) bZ,k⟩) ⟨N,List.replicate N 0,Sh,X0,ga⟩ ?ag ?bD
  case ag=>exact ai7
  case bD=>
   rintro⟨k,d,gm,bZ,dw⟩ hinv;try simp only at hinv
   obtain⟨hk,c2,pq,VL,OR,eW⟩:=hinv;refine rg ?_;refine U V.ay ?_;refine U V.bb ?_;refine aA ?_;refine If (fun ac4=>?_) fun ac4=>?_
   ·obtain⟨z,aL⟩:∃z,(ai X)[k -1]?=some z:=⟨_,eE I⟩;have asF:nth adO (Ra+((k:Int) -1).toNat*1)=some (.int .u32 (z:Int)):=by
     rw[show((k:Int) -1).toNat=k -1 by omega];exact ajq _ _ aL
    have arX:=c2 _ _ ag2;have vt:=pJ (hB X) aL;obtain⟨R,c0⟩:∃R,R=aN ((ai X).drop k) % Y:=⟨_,rfl⟩;rw[<-c0] at eW;have ahi:R<Y:=by rw[c0];exact fJ _ wR
    have ahk:(ai R).length<=60001:=cY (lD (r0 ahi)) An;obtain⟨c4,jX⟩:∃c4,c4=z+1000000000*R:=⟨_,rfl⟩;have JS:c4<1000000000*Y:=I
    have aho:aN (z::ai R)=c4:=by rw[jX];show z+1000000000*aN (ai R)=_;rw[e5]
    have asb:(ai c4).length<=60002:=akD JS An;have UG:k -1+1=k:=I
    have bS:=Y2 (d:=d) wR aL I (by rw[UG];exact c0) (by rw[UG];exact OR) jX;have aiD:dS (z::ai R):=fun u hu=>by
     rcases gb.1 hu with rfl|hu
     ·exact vt
     ·exact hB R u hu
    refine dW ?_;refine ao ?_;refine ae.block ?_;refine rg ?_;refine al ?_;refine U V.bh ?_;refine U V.cg ?_;refine ll (hb Q g0) fun ab0=>?_;refine U V.ay ?_;refine' W.step rfl (.of (qM rfl rfl rfl rfl rfl rfl (hb Q g0) (sZ Q g0) (fun i q=>by cases q) ?eW ?hm ?ab ?ei ?eh ?aD fun atT atl ahF asT=>?_));case eW=>exact Acc.cap (a:=ab0) (el:=72) (k:=1) (C:=1) (full:=[.int .u32 (z:Int)]) rfl rfl (bX _) Hy
    case hm=>exact .refl _
    case ab=>exact eW.rd (fun x ab=>.tail _ (nN _ ab))
    case ei=>exact(by rw[oU,gT])
    case eh=>exact xx _
    case aD=>exact(show 1+(ai R).length<=1000000 by omega)
    refine W.amU ahF rfl fun mQ eL wN=>?_;refine bN (G:=HZ (l:=z::ai R) (by rw[lP,Ta];exact wN) aiD (by rw[lP];omega)) (h:=?_);rintro v' m' ah hle ⟨rfl,rfl,CO⟩;rw[aho] at CO;have Vs:cR .u32 mQ v' (ai c4):=CO.fU;obtain⟨gz,e7,rfl⟩:=Vs.form;have CO:=CO.fU;have lv:aN ((ai c4).drop (ai c4).length)=0:=(by rw[SU];rfl);refine U V.au ?_;refine a2 ?_;refine U V.au ?_;refine a2 ?_;refine al ?_;refine U V.aY ?_;refine U V.au ?_;refine aA ?_;refine ae.block ?_;refine' ae.dO (l':=[(11,.int .i64 ((((ai c4).length):Int) -1)),(10,.int .u64 (aN ((ai c4).drop ((ai c4).length)):Int)),(0,_),(1,_),(4,_),(5,_),(6,_),(7,_),(9,_)]) ⟨?s3,?ur,rfl,rfl,rfl,rfl,rfl,rfl,rfl,trivial⟩ (bx _) ?_;case s3=>first|exact bg|exact aa some (aa (Value.int .u64) I)|exact aa some (aa (Value.int .u32) I)|exact aa some (aa (Value.int .i64) I)
    case ur=>first|exact bg|exact aa some (aa (Value.int .u64) I)|exact aa some (aa (Value.int .u32) I)|exact aa some (aa (Value.int .i64) I)
    refine ao ?_;refine' ae.lE (α:=(Nat)) (fun(j:Nat)=>[(11,.int .i64 ((j:Int) -1)),(10,.int .u64 (aN ((ai c4).drop j):Int))]) (fun(j:Nat)=>j<=(ai c4).length/\((ai Y).length -1<=j\/j=(ai c4).length)) (fun(j:Nat)=>j) ((ai c4).length) ?ag ?bD;case ag=>exact⟨bX _,.inr rfl⟩
    case bD=>
     rintro j hinv;try simp only at hinv
     obtain⟨bf,VZ⟩:=hinv;refine rg ?_;refine al ?_;refine U V.aY ?_;refine U V.bb ?_;refine aA ?_;refine If (fun ac7=>?_) fun ac7=>?_
     ·obtain⟨hq,Kv⟩:∃z,(ai c4)[j -1]?=some z:=⟨_,eE I⟩;obtain⟨ari,alG,adN,arJ,rfl,arW,ajp⟩:=Vs.et I;have asB:nth adN (alG+((j:Int) -1).toNat*1)=some (.int .u32 (hq:Int)):=by
       rw[show((j:Int) -1).toNat=j -1 by omega];exact ajp _ _ Kv
      have afe:=vP Kv;rw[show j -1+1=j by omega] at afe;have ql:=VW (n:=(ai Y).length -1) I JS (j -1) I;have aff:(aN ((ai c4).drop j):Int)*1000000000+(hq:Int)=(aN ((ai c4).drop (j -1)):Int):=I
      refine dW ?_;refine ao ?_;refine ae.block ?_;refine rg ?_;refine U V.ay ?_;refine U V.aY ?_;refine al ?_;refine U V.bh ?_;refine U V.cg ?_;refine U V.d' ?_;refine U V.aY ?_;refine U V.au ?_;refine a3 ?_;rw[aff];refine rg ?_;refine U V.ay ?_;refine U V.aY ?_;refine U V.au ?_;refine a3 ?_;refine'⟨(j -1),_,?hinv,?gi,rfl,⟨?G1,?tV,rfl,rfl,rfl,rfl,rfl,rfl,rfl,trivial⟩,bx _,rfl⟩;case G1=>first|exact bg|exact aa some (aa (Value.int .u64) I)|exact aa some (aa (Value.int .u32) I)|exact aa some (aa (Value.int .i64) I)
      case tV=>first|exact bg|exact aa some (aa (Value.int .u64) I)|exact aa some (aa (Value.int .u32) I)|exact aa some (aa (Value.int .i64) I)
      case gi=>exact bz
      case hinv=>exact⟨I,.inl I⟩
     ·have UF:(ai c4).drop j=(ai c4).drop ((ai Y).length -1):=by
       rcases VZ with q|q
       ·rw[show j=(ai Y).length -1 by omega]
       ·rw[tb I,tb I]
      have ls:=VW (n:=(ai Y).length -1) I JS _ (bX _);rw[<-UF] at ls;have jZ:=afk cB I JS;rw[<-UF] at jZ;obtain⟨hV,u5⟩:∃hV,hV=aN ((ai c4).drop j) / T:=⟨_,rfl⟩;have asm:hV<=aN ((ai c4).drop j):=by rw[u5];exact rZ _ _
      rw[<-u5] at jZ;obtain⟨E,fS⟩:∃E,E=Nat.min hV 999999999:=⟨_,rfl⟩;rw[<-fS] at jZ;have CK:E<=999999999:=by rw[fS];exact Nat.min_le_right _ _
      have agT:min (IntKind.u64.wrap ((aN ((ai c4).drop j):Int).tdiv (T:Int))) 999999999=(E:Int):=by
       rw[show(aN ((ai c4).drop j):Int).tdiv (T:Int)=(hV:Int) by rw[u5];exact(B1 _ _).symm];rw[wrap_u64 I I,fS];show min (hV:Int) 999999999=((min hV 999999999:Nat):Int);omega
      refine ao ?_;refine ae.exit ?_;refine eP [10,0,1,4,5,6,7,9] ?_;refine ao ?_;refine' ae.hf 1 [(12,.int .u64 (E:Int))] ?Nl ?Nw;case Nl=>
       refine ae.region ?_;refine al ?_;refine U V.hn ?_;refine' W.step rfl (Exec.val rfl rfl (R8 rfl rfl rfl rfl rfl) ?_);refine U V.au ?_;refine a3 ?_;refine'⟨⟨_,rfl,⟨?ml,rfl,rfl,rfl,rfl,rfl,rfl,rfl,trivial⟩⟩,bx _,rfl⟩;case ml=>exact aa some (aa (Value.int .u64) agT)
      case Nw=>
       refine ao ?_;refine ae.block ?_;refine' ae.dO (l':=[(12,.int .u64 ((E):Int)),(0,_),(1,_),(4,_),(5,_),(6,_),(7,_),(9,_)]) ⟨?qK,rfl,rfl,rfl,rfl,rfl,rfl,rfl,trivial⟩ (bx _) ?_;case qK=>first|exact bg|exact aa some (aa (Value.int .u64) I)|exact aa some (aa (Value.int .u32) I)|exact aa some (aa (Value.int .i64) I)
       refine ao ?_;refine' ae.e2 (fun(a6:Nat×an)=>match a6 with|(t,p4)=>⟨[(12,.int .u64 (t:Int))],bZ++[eO .u32 72 EL d],p4,c4 / Y<=t/\t<=999999999/\mQ.le p4,t⟩) ⟨E,mQ⟩ ?ag ?bD
       case ag=>exact⟨jZ,CK,an.le.refl _⟩
       case bD=>
        rintro⟨t,p4⟩ hinv;try simp only at hinv
        obtain⟨vm,Db,CL⟩:=hinv;have AO:t<1000000000:=I;refine rg ?_;refine al ?_;refine U V.d' ?_;refine bN (G:=RK (x:=t) AO) (h:=?_);rintro v' m' uC h5 ⟨_,rfl,Am⟩;have Am:=Am.fU;refine bN (G:=uh (Vx.mono (c2.trans (eL.trans (CL.trans h5)))) Am I (cY (mG (k:=1) (by rw[B'];exact AO)) bC)) (h:=?_);rintro v' m' zG kd ⟨_,rfl,cX⟩;refine U V.ay ?_;refine bN (G:=Lj cX.fU (CO.mono (CL.trans (h5.trans kd))) (cY (KT An AO) bC)) (h:=?_);rintro v' m' ah hle ⟨rfl,rfl,rfl⟩;refine U V.bb ?_;refine aA ?_;refine If (fun Jk=>?_) fun Jk=>?_
        ·have kv:c4<Y*t:=by
           rcases iK c4 (Y*t) with q|q
           ·exact q
           ·exfalso
            rcases Nat.eq_or_lt_of_le q with q|q
            ·rw[nW q] at Jk;omega
            ·rw[pf q] at Jk;omega
         have V9:c4 / Y<t:=Nat.div_lt_of_lt_mul kv;have asM:1<=t:=p7 (ep _) V9;have ai9:c4 / Y<=t -1/\t -1<=999999999/\mQ.le zG:=⟨Nat.le_sub_one_of_lt V9,I,CL.trans (h5.trans kd)⟩;refine dW ?_;refine ao ?_;refine ae.block ?_;refine rg ?_;refine U V.ay ?_;refine U V.aY ?_;refine U V.au ?_;refine a3 ?_;rw[show(t:Int) -1=((t -1:Nat):Int) by omega];refine fl ⟨t -1,zG⟩ ?_;exact ai9
        ·have jF:Y*t<=c4:=by
           rcases iK c4 (Y*t) with q|q
           ·rw[tn q] at Jk;omega
           ·exact q
         have PO:t=c4 / Y:=Tf ((IU wR).2 (by rw[dz];exact jF)) vm;have Ge:c4 -Y*t=c4 % Y:=by
           have:=yb c4 Y;rw[<-PO] at this;omega
         refine ao ?_;refine ae.exit ?_;refine rg ?_;refine al ?_;refine U V.d' ?_;refine bN (G:=RK (x:=t) AO) (h:=?_);rintro v' m' B2 iz ⟨_,rfl,Am⟩;have Am:=Am.fU;refine bN (G:=uh (Vx.mono (c2.trans (eL.trans (CL.trans (h5.trans (kd.trans iz)))))) Am I (cY (mG (k:=1) (by rw[B'];exact AO)) bC)) (h:=?_);rintro v' m' B3 mE ⟨_,rfl,cX⟩;refine bN (G:=XS (CO.mono (CL.trans (h5.trans (kd.trans (iz.trans mE))))) cX.fU jF I (cY (KT An AO) bC)) (h:=?_);rintro aaJ XY ah hle ⟨rfl,n2⟩;rw[Ge] at n2;refine U V.ay ?_;refine U V.d' ?_;refine U V.au ?_;refine U V.bh ?_;refine' W.step rfl (.of (ia rfl rfl rfl rfl (hh rfl) rfl rfl rfl ?ad ?ag ?ap ?_));case ap=>repeat first|exact .head _ _ _ _|apply dh.tail|apply dh.app
         case ag=>exact k8 (l:=d) (x:=t) (k -1) I I
         case ad=>first|rfl|assumption
         refine a3 ?_;rw[PO];have bD:k -1<=N/\ga.le B3/\(d.set (k -1) (c4 / Y)).length=N/\dS (d.set (k -1) (c4 / Y))/\aN ((d.set (k -1) (c4 / Y)).drop (k -1))=aN ((ai X).drop (k -1)) / Y/\gy 72 1 aaJ (ai (aN ((ai X).drop (k -1)) % Y)).length (b7 .u32 (ai (aN ((ai X).drop (k -1)) % Y))) XY:=⟨I,c2.trans (eL.trans (CL.trans (h5.trans (kd.trans (iz.trans mE))))),by rw[hr];exact pq,y6 VL (by rw[<-PO];exact AO),bS.1,by rw[<-bS.2];exact n2⟩;refine rg ?_;refine U V.ay ?_;refine U V.aY ?_;refine U V.au ?_;refine a3 ?_;refine fl ⟨k -1,d.set (k -1) (c4 / Y),aaJ,XY,B3⟩ ?_ (hm:=(bx _).append (Ew _ _));exact bD
   ·obtain rfl:k=0:=I
    rw[hi,hi,e5] at OR;rw[hi,e5] at eW;obtain⟨R,c0⟩:∃R,R=X % Y:=⟨_,rfl⟩;rw[<-c0] at eW;have ahk:(ai R).length<=60001:=cY (lD (r0 (by rw[c0];exact fJ _ wR))) An;obtain⟨fI,gV,rfl⟩:=eW.U0;have Oi:cR .u32 dw _ (ai f):=FL.mono c2;rw[agW] at Oi;have agX:∃b c,apq=.slice b 1 c:=Oi.form;obtain⟨aro,arv,rfl⟩:=agX;obtain⟨arh,alF,adM,arI,rfl,arV,ajo⟩:=Oi.et Nat.one_pos;have asz:nth adM (alF+(0:Int).toNat*1)=some (.int .u32 (f:Int)):=ajo 0 f rfl;refine ao ?_;refine ae.exit ?_;refine rg ?_;refine U V.au ?_;refine a2 ?_;refine al ?_;refine U V.aY ?_;refine U V.au ?_;refine aA ?_;refine ae.block ?_;refine' ae.dO (l':=[(14,.int .i64 ((((ai R).length):Int) -1)),(13,.int .u64 ((0):Int)),(4,_),(5,_),(6,_)]) ⟨?us,?BP,rfl,rfl,rfl,trivial⟩ (bx _) ?_;case us=>first|exact bg|exact aa some (aa (Value.int .u64) I)|exact aa some (aa (Value.int .u32) I)|exact aa some (aa (Value.int .i64) I)
    case BP=>first|exact bg|exact aa some (aa (Value.int .u64) I)|exact aa some (aa (Value.int .u32) I)|exact aa some (aa (Value.int .i64) I)
    refine ao ?_;refine' ae.e2 (fun(a6:Nat×Nat×(List Nat)×a8)=>match a6 with|(j,c,L,tW)=>⟨[(14,.int .i64 ((j:Int) -1)),(13,.int .u64 (c:Int))],tW++[eO .u32 72 EL d],dw,j<=(ai R).length/\L.length=(ai R).length/\dS L/\L.take j=(ai R).take j/\aN (L.drop j)=aN ((ai R).drop j) / f/\c=aN ((ai R).drop j) % f/\gy 72 1 (.slice fI (ai R).length gV) L.length (b7 .u32 L) tW,j⟩) ⟨(ai R).length,0,ai R,bZ⟩ ?ag ?bD
    case ag=>exact⟨bX _,rfl,hB R,rfl,by rw[SU];exact(Mw f).symm,by rw[SU];exact(Nat.zero_mod f).symm,eW⟩
    case bD=>
     rintro⟨j,c,L,tW⟩ hinv;try simp only at hinv
     obtain⟨bf,Oq,JJ,Vm,FR,aJ,Vz⟩:=hinv;refine rg ?_;refine U V.ay ?_;refine U V.bb ?_;refine aA ?_;refine If (fun acP=>?_) fun acP=>?_
     ·obtain⟨z,aL⟩:∃z,(ai R)[j -1]?=some z:=⟨_,eE I⟩;have ajB:L[j -1]?=some z:=by
       have aC:(L.take j)[j -1]?=L[j -1]?:=Ev I;have aW:((ai R).take j)[j -1]?=(ai R)[j -1]?:=Ev I;rw[<-aC,Vm,aW,aL]
      have vt:=pJ (hB R) aL;obtain⟨cK,full,rest,bm,rfl,kc,ah8⟩:=Vz.row I;injection bm with bm bW eu
      subst bm;subst eu;have asx:nth full (0+((j:Int) -1).toNat*1)=some (.int .u32 (z:Int)):=by
       rw[Q6 kc I];exact oV ajB I
      have ahP:c<f:=by rw[aJ];exact fJ _ pr
      obtain⟨s,ag⟩:∃s,s=z+1000000000*c:=⟨_,rfl⟩;have PG:(c:Int)*1000000000+(z:Int)=(s:Int):=I
      have px:s<1000000000000000000:=I
      have yK:s / f<1000000000:=by rw[ag];exact aez vt ahP
      have F2:(s:Int).tdiv (f:Int)=((s / f:Nat):Int):=(B1 s f).symm;have Gd:(s:Int).tmod (f:Int)=((s % f:Nat):Int):=(Iz s f).symm;have ajv:IntKind.u64.wrap ((s / f:Nat):Int)=((s / f:Nat):Int):=wrap_u64 (o6 _) I;have aC:j -1+1=j:=I
      have bS:=Y2 (d:=L) pr aL I (by rw[aC];exact aJ) (by rw[aC];exact FR) ag;have ai':j -1<=(ai R).length/\(L.set (j -1) (s / f)).length=(ai R).length/\dS (L.set (j -1) (s / f))/\(L.set (j -1) (s / f)).take (j -1)=(ai R).take (j -1)/\aN ((L.set (j -1) (s / f)).drop (j -1))=aN ((ai R).drop (j -1)) / f/\s % f=aN ((ai R).drop (j -1)) % f/\gy 72 1 (.slice (some ⟨cK,0,none⟩) (ai R).length cQ) (L.set (j -1) (s / f)).length (b7 .u32 (L.set (j -1) (s / f))) [(cK,.opn (full.set (j -1) (.int .u32 ((s / f:Nat):Int))) 72 [] 0)]:=⟨I,by rw[hr];exact Oq,y6 JJ yK,by
       rw[IP (bX _)];have aX:(L.take j).take (j -1)=L.take (j -1):=by rw[rX,gn I]
       have aU:((ai R).take j).take (j -1)=(ai R).take (j -1):=by rw[rX,gn I]
       rw[<-aX,<-aU,Vm],bS.1,bS.2,by
       rw[<-Oq];exact gy.put kc ah8 rfl I⟩
      refine dW ?_;refine ao ?_;refine ae.block ?_;refine rg ?_;refine U V.ay ?_;refine U V.aY ?_;refine al ?_;refine U V.bh ?_;refine U V.cg ?_;refine U V.d' ?_;refine U V.aY ?_;refine U V.au ?_;refine a3 ?_;rw[PG];refine rg ?_;refine al ?_;refine U V.bh ?_;refine U V.cg ?_;refine U V.d' ?_;refine U V.hn ?_;rw[F2,ajv];refine U V.d' ?_;rw[show IntKind.u32.wrap ((s / f:Nat):Int)=((s / f:Nat):Int) from wrap_u32 (o6 _) I];refine U V.bh ?_;refine' W.step rfl (.of (Ii rfl rfl rfl rfl (hh rfl) rfl rfl rfl ?ad ?ag ?aL ?ap ?_));case ap=>exact .refl _
      case ag=>exact ZK I
      case ad=>first|rfl|assumption
      case aL=>exact ep _
      refine a3 ?_;rw[show 0+((j:Int) -1).toNat*1=j -1 by omega];refine rg ?_;refine al ?_;refine U V.bh ?_;refine U V.cg ?_;refine U V.d' ?_;refine U V.hn ?_;refine U V.au ?_;refine a3 ?_;rw[Gd];refine rg ?_;refine U V.ay ?_;refine U V.aY ?_;refine U V.au ?_;refine a3 ?_;refine fl ⟨j -1,s % f,L.set (j -1) (s / f),[(cK,.opn (full.set (j -1) (.int .u32 ((s / f:Nat):Int))) 72 [] 0)]⟩ ?_;exact ai'
     ·obtain rfl:j=0:=I
      rw[hi,hi,e5] at FR;refine gy.pO Vz (.refl _) fun Ma qp ahl=>?_;refine ae.h9 rfl fun pv=>?_;have aiQ:aN d=x / y:=by rw[OR,fG,kJ,IX _ _ pr]
      have aiX:aN L=x % y:=by rw[FR,c0,fG,kJ,Ti,tc _ pr]
      have wN:fP (Ma.add EL (b7 .u32 d,72)) 72 1 (.slice (some ⟨EL,0,none⟩) N N) d.length (b7 .u32 d):=by
       rw[<-pq];exact .row (an.g7 _ _ _) (by rw[hi,gT];exact dd (by rw[oU];exact bX _)) (by rw[oU,gT]) (fun _=>⟨bX _,KN I⟩) (fun q=>absurd q (ED (KN I)))
      refine ao ?_;refine ae.exit ?_;refine rg ?_;refine U V.ay ?_;refine bN (G:=HZ (l:=d) wN VL I) (h:=?_);rintro v' m' ah hle ⟨rfl,rfl,eT⟩;rw[aiQ] at eT;refine U V.ay ?_;refine bN (G:=HZ (l:=L) (fP.mono pv ahl) JJ I) (h:=?_);rintro v' m' ah hle ⟨rfl,rfl,e4⟩;rw[aiX] at e4;refine al ?_;refine aA ?_;refine ae.ret ?_;refine'⟨.inr rfl,rfl,_,[],.tmp rfl (.tmp rfl .nil),br _,?_⟩;first
       |exact⟨an.le.refl _,rfl,_,_,rfl,by rw[rY cA];exact K2,by rw[nO cA];exact ku⟩
       |exact⟨aK.trans (bi.trans (cn.trans (c2.trans (qp.trans pv)))),rfl,_,_,rfl,eT.fU,e4.fU⟩
end
end
end Go.Opn
namespace Go.Opn
noncomputable section
def rG(l:List Int)(j:Nat):List Int:=(l.set (j+1) (l.getD j 0)).set j (l.getD (j+1) 0)
def kD(f:Int->Int->Int):Nat->List Int->List Int
 |0,l=>l
 |j+1,l=>if f (l.getD (j+1) 0) (l.getD j 0)<0 then kD f j (rG l j) else l
def mh(f:Int->Int->Int):Nat->List Int->List Int
 |0,l=>l
 |k+1,l=>kD f (k+1) (mh f k l)
def jI(n:Nat):List Int:=(List.range n).map fun(i:Nat)=>Int.ofNat i
theorem RV:∀{l:List Int} {j:Nat},j+1<l.length->(rG l j).Perm l
 |a::b::l,0,_=>.swap a b l
 |a::l,j+1,h=>.cons a (RV (l:=l) (j:=j) (by simp at h;omega))
theorem BC{l:List Int}{j:Nat}:(rG l j).length=l.length:=by unfold rG;rw[hr,hr]
theorem xR{l:List Int}{j i:Nat}(h:j+1<l.length):(rG l j).getD i 0=if i=j then l.getD (j+1) 0 else if i=j+1 then l.getD j 0 else l.getD i 0:=by
 unfold rG;rw[g5,mS,mS,hr];by_cases ad:i=j
 ·subst ad;rw[bj rfl,bj rfl,bj I];rfl
 ·rw[bd (fun q=>ad q.symm),bd ad];by_cases af:i=j+1
  ·subst af;rw[bj rfl,bj rfl,bj h];rfl
  ·rw[bd (fun q=>af q.symm),bd af,<-g5]
theorem acH{f:Int->Int->Int}:∀{j:Nat} {l:List Int},j<l.length->(kD f j l).Perm l:=by
 intro j;induction j with
 |zero=>intro l _;exact .refl _
 |succ j aZ=>
  intro l aD;unfold kD;split
  ·exact(aZ (by rw[BC];omega)).trans (RV aD)
  ·exact .refl _
theorem Dn{f:Int->Int->Int}:∀{k:Nat} {l:List Int},k<l.length->(mh f k l).Perm l:=by
 intro k;induction k with
 |zero=>intro l _;exact .refl _
 |succ k aZ=>
  intro l aD;have ad:=aZ (l:=l) I;exact(acH (by rw[ad.length_eq];omega)).trans ad
def abV(r:Int->Nat)(l:List Int)(k j:Nat):Prop:=(∀a b,a<b->b<=k->a≠j->b≠j->r (l.getD b 0)<=r (l.getD a 0))/\∀b,j<b->b<=k->r (l.getD b 0)<=r (l.getD j 0)
def I1(r:Int->Nat)(l:List Int)(k:Nat):Prop:=∀a b,a<b->b<=k->r (l.getD b 0)<=r (l.getD a 0)
theorem acI{r:Int->Nat}{f:Int->Int->Int}(aM:∀a b,f a b<0↔r b<r a){k:Nat}:∀{j:Nat} {l:List Int},j<=k->k<l.length->abV r l k j->I1 r (kD f j l) k:=by
 intro j;induction j with
 |zero=>
  intro l _ _ h a b i' ak;by_cases aO:a=0
  ·subst aO;exact h.2 b i' ak
  ·exact h.1 a b i' ak aO I
 |succ j aZ=>
  intro l bf hk h;unfold kD;split
  ·rename_i cA;have cA:=(aM _ _).1 cA;have J5:j+1<l.length:=I;refine aZ I (by rw[BC];exact hk) ⟨fun a b i' ak aI JX=>?_,fun b ak ahI=>?_⟩
   ·rw[xR J5,xR J5,bd aI,bd JX];by_cases ad:a=j+1
    ·rw[bj ad,bd (show ¬b=j+1 by omega)];exact h.1 j b I ak I I
    ·rw[bd ad];by_cases af:b=j+1
     ·rw[bj af];exact h.1 a j I I I I
     ·rw[bd af];exact h.1 a b i' ak ad af
   ·rw[xR J5,xR J5,bd (show ¬b=j by omega),bj rfl];by_cases af:b=j+1
    ·rw[bj af];omega
    ·rw[bd af];exact h.2 b I ahI
  ·rename_i cA;have cA:¬r (l.getD j 0)<r (l.getD (j+1) 0):=fun q=>cA ((aM _ _).2 q);intro a b i' ak;by_cases ad:a=j+1
   ·subst ad;exact h.2 b i' ak
   ·by_cases af:b=j+1
    ·subst af;by_cases aV:a=j
     ·subst aV;omega
     ·have:=h.1 a j I I ad I;omega
    ·exact h.1 a b i' ak ad af
theorem WY{r:Int->Nat}{f:Int->Int->Int}(aM:∀a b,f a b<0↔r b<r a):∀{k:Nat} {l:List Int},k<l.length->I1 r (mh f k l) k:=by
 intro k;induction k with
 |zero=>intro l _ a b ad af;omega
 |succ k aZ=>
  intro l aD;have ad:=aZ (l:=l) I;have dL:=(Dn (f:=f) (k:=k) (l:=l) I).length_eq;refine acI aM (bX _) I ⟨fun a b i' ak aI JX=>ad a b i' I,fun b af aV=>by omega⟩
theorem pD{n:Nat}:(jI n).length=n:=by unfold jI;rw[g6,List.length_range]
theorem KA{n i:Nat}(h:i<n):(jI n)[i]?=some (i:Int):=by unfold jI;rw[ko,SZ h];rfl
theorem W0{n:Nat}:∀x∈jI n,0<=x/\x<n:=fun x ab=>by
 obtain⟨i,ar,rfl⟩:=rW.1 ab;have:=S5.1 ar;show 0<=(i:Int)/\(i:Int)<n;omega
theorem ajU{n:Nat}:(jI n).Nodup:=by
 unfold jI;refine List.Pairwise.map _ (fun a b h q=>h (by injection q)) List.nodup_range
def b1(M s p:Nat):Nat:=p*M % s
def fX(ps:List Nat)(s M:Nat):List Nat:=ps.map fun p=>p*M / s
def yr(ps:List Nat)(s M:Nat)(a b:Int):Int:=jq (b1 M s (ps.getD b.toNat 0)) (b1 M s (ps.getD a.toNat 0))
def fW(ps:List Nat)(s M:Nat):List Int:=mh (yr ps s M) (ps.length -1) (jI ps.length)
def kf(o:List Nat)(i:Int):List Nat:=o.set i.toNat (o.getD i.toNat 0+1)
def lF(ps:List Nat)(s M:Nat):Nat:=M -(fX ps s M).sum
def By(ps:List Nat)(s M:Nat):List Nat:=((fW ps s M).take (lF ps s M)).foldl kf (fX ps s M)
theorem Jq{x y:Nat}:jq x y<0↔x<y:=by unfold jq;split<;>(try split)<;>omega
theorem YC{s M:Nat}:∀ps:List Nat,(fX ps s M).sum*s+(ps.map (b1 M s)).sum=ps.sum*M
 |[]=>by simp[fX]
 |p::ps=>by
  have aZ:=YC (s:=s) (M:=M) ps;show(p*M / s+(fX ps s M).sum)*s+(b1 M s p+(ps.map (b1 M s)).sum)=(p::ps).sum*M;rw[p6,c3,c3,<-aZ];have:p*M / s*s+b1 M s p=p*M:=by rw[dz];exact lR _ _
  omega
theorem akV{α:Type}{r:Nat->α}(ps:List Nat):(jI ps.length).map (fun i=>r (ps.getD i.toNat 0))=ps.map r:=by
 refine IG fun i=>?_;by_cases h:i<ps.length
 ·rw[ko,KA h,ko,eE h];show some (r (ps.getD ((i:Int)).toNat 0))=_;rw[jy,g5,eE h];rfl
 ·rw[qT (by rw[g6,pD];omega),qT (by rw[g6];omega)]
theorem RT{s:Nat}:∀{l:List Nat},(∀x∈l,x<s)->l≠[]->l.sum<l.length*s
 |[],_,h=>absurd rfl h
 |[a],h,_=>by have:=h a (.head _);simp;exact this
 |a::b::l,h,_=>by
  have ad:=h a (.head _);have af:=RT (s:=s) (l:=b::l) (fun x q=>h x (.tail _ q)) (by simp);rw[p6,lP,c3];omega
theorem ZX:∀{l:List Nat},(∀x∈l,x=0)->l.sum=0
 |[],_=>rfl
 |a::l,h=>by rw[p6,h a (.head _),ZX (fun x q=>h x (.tail _ q))]
structure abR (ps:List Nat) (s M:Nat):Prop where
 out:(fX ps s M).sum<=M
 KQ:lF ps s M<=ps.length
 Hw:(fW ps s M).length=ps.length
 xB:∀x∈fW ps s M,0<=x/\x<ps.length
 DR:(fW ps s M).Nodup
 pos:∀x∈(fW ps s M).take (lF ps s M),0<b1 M s (ps.getD x.toNat 0)
theorem Ly{ps:List Nat}{s M:Nat}(aE:1<=ps.length)(ag:0<s)(ap:ps.sum=s):abR ps s M:=by
 have ajb:=YC (s:=s) (M:=M) ps;rw[ap] at ajb;have Kk:∀p,b1 M s p<s:=fun p=>fJ _ ag;have aiG:(fX ps s M).sum<=M:=by
  refine Nat.le_of_mul_le_mul_right (c:=s) ?_ ag;rw[dz M s];omega
 have AE:lF ps s M*s=(ps.map (b1 M s)).sum:=by
  unfold lF;rw[Tk,dz M s];omega
 have Gs:(ps.map (b1 M s)).sum<ps.length*s:=by
  have:=RT (s:=s) (l:=ps.map (b1 M s)) (fun x ab=>by obtain⟨p,_,rfl⟩:=rW.1 ab;exact Kk p) (by intro q;rw[List.map_eq_nil_iff] at q;rw[q] at aE;simp at aE);rwa [g6] at this
 have Pk:lF ps s M<ps.length:=EC (a:=s) I;have C9:(fW ps s M).Perm (jI ps.length):=Dn (by rw[pD];omega);have iP:(fW ps s M).length=ps.length:=C9.length_eq.trans pD;have aiE:∀x∈fW ps s M,0<=x/\x<ps.length:=fun x ab=>W0 x (C9.mem_iff.1 ab);have Kh:(fW ps s M).Nodup:=C9.nodup_iff.2 ajU;have Gu:I1 (fun i=>b1 M s (ps.getD i.toNat 0)) (fW ps s M) (ps.length -1):=WY (f:=yr ps s M) (r:=fun i=>b1 M s (ps.getD i.toNat 0)) (fun a b=>Jq) (k:=ps.length -1) (by rw[pD];omega);refine⟨aiG,I,iP,aiE,Kh,fun x ab=>r2 fun aO=>?_⟩;obtain⟨k,hk⟩:=Mc ab;have aik:k<lF ps s M:=by
  have:=(gS.1 hk).1;rw[dY] at this;omega
 rw[Ev aik] at hk;have aij:(fW ps s M).getD k 0=x:=by rw[g5,hk];rfl
 --all atJ from place k on TR 0
 have iA:((fW ps s M).map fun i=>b1 M s (ps.getD i.toNat 0)).sum=(ps.map (b1 M s)).sum:=by
  rw[<-akV (r:=b1 M s) ps];exact(C9.map _).sum_nat
 have l3:(((fW ps s M).take k).map fun i=>b1 M s (ps.getD i.toNat 0)).sum+(((fW ps s M).drop k).map fun i=>b1 M s (ps.getD i.toNat 0)).sum=(ps.map (b1 M s)).sum:=by
  rw[<-iA,<-List.sum_append_nat,<-Mg,Ex]
 have aL:(((fW ps s M).drop k).map fun i=>b1 M s (ps.getD i.toNat 0)).sum=0:=by
  refine ZX fun v az=>?_;obtain⟨i,ar,rfl⟩:=rW.1 az;obtain⟨d,aq⟩:=Mc ar;rw[p5] at aq;have pq:=(gS.1 aq).1;have ve:(fW ps s M).getD (k+d) 0=i:=by rw[g5,aq];rfl
  by_cases lv:d=0
  ·subst lv;rw[iI] at aq ve;rw[aq] at hk;injection hk with hk;subst hk;exact aO
  ·have:=Gu k (k+d) I I;simp only at this;rw[aij,ve,aO] at this;omega
 rw[aL,iI] at l3;by_cases wX:k=0
 ·subst wX;rw[fh] at l3;have l3:0=(ps.map (b1 M s)).sum:=l3;rw[<-l3] at AE;rcases Nat.mul_eq_zero.1 AE with h|h<;>omega
 ·have:=RT (s:=s) (l:=((fW ps s M).take k).map fun i=>b1 M s (ps.getD i.toNat 0)) (fun x ab=>by obtain⟨p,_,rfl⟩:=rW.1 ab;exact Kk _) (by
   intro q;have:=aa List.length q;rw[g6,dY,gn I,B7] at this;exact wX this)
  rw[g6,dY,gn I,l3,<-AE] at this;have:=EC this;omega
theorem Qb{o:List Nat}{i:Int}:(kf o i).length=o.length:=hr
theorem aoM{l:List Nat}{i x y:Nat}(h:l[i]?=some x):(l.set i y).sum+x=l.sum+y:=by
 induction l generalizing i with
 |nil=>cases h
 |cons a l aZ=>
  cases i with
  |zero=>injection h with h;subst h;rw[Mh,p6,p6];omega
  |succ i=>have:=aZ (i:=i) h;rw[List.set_cons_succ,p6,p6];omega
theorem Dm:∀(is:List Int) (o:List Nat),(∀x∈is,0<=x/\x<o.length)->is.Nodup->(is.foldl kf o).length=o.length/\(is.foldl kf o).sum=o.sum+is.length/\∀i:Nat,i<o.length->(is.foldl kf o).getD i 0=if(i:Int)∈is then o.getD i 0+1 else o.getD i 0
 |[],o,_,_=>⟨rfl,rfl,fun i _=>by rw[bd (by intro q;cases q)];rfl⟩
 |k::is,o,hm,aE=>by
  have hk:=hm k (.head _);have ab:=eE (l:=o) (i:=k.toNat) I;obtain⟨ad,af,aV⟩:=Dm is (kf o k) (fun x q=>by rw[Qb];exact hm x (.tail _ q)) aE.of_cons;have aiw:k∉is:=(uG.1 aE).1;have ag:=aoM (y:=o.getD k.toNat 0+1) ab;have aF:o.getD k.toNat 0=o[k.toNat]:=by rw[g5,ab];rfl
  refine⟨ad.trans Qb,?_,fun i ar=>?_⟩
  ·rw[IH,af,lP];show(o.set k.toNat (o.getD k.toNat 0+1)).sum+is.length=_;omega
  ·rw[IH,aV i (by rw[Qb];exact ar)];have aid:(kf o k).getD i 0=if(i:Int)=k then o.getD i 0+1 else o.getD i 0:=by
    unfold kf;rw[g5,mS];by_cases sr:(i:Int)=k
    ·rw[bj (show k.toNat=i by omega),bj sr,bj I,show k.toNat=i by omega];rfl
    ·rw[bd (show ¬k.toNat=i by omega),bd sr,g5]
   rw[aid];by_cases sr:(i:Int)=k
   ·rw[bj sr,bd (by rw[sr];exact aiw),bj (by rw[sr];exact .head _)]
   ·rw[bd sr];by_cases rh:(i:Int)∈is
    ·rw[bj rh,bj (.tail _ rh)]
    ·rw[bd rh,bd (by intro q;rcases gb.1 q with q|q;exact sr q;exact rh q)]
theorem amr{ps:List Nat}{s M i:Nat}(ar:i<ps.length):(fX ps s M).getD i 0=ps.getD i 0*M / s:=by
 unfold fX;rw[g5,ko,g5,eE ar];rfl
structure abS (ps:List Nat) (s M:Nat) (vs:List Nat):Prop where
 len:vs.length=ps.length
 sum:vs.sum=M
 at_:∀i,i<ps.length->vs.getD i 0=ps.getD i 0*M / s\/(vs.getD i 0=ps.getD i 0*M / s+1/\0<b1 M s (ps.getD i 0))
theorem Zc{ps:List Nat}{s M:Nat}(aE:1<=ps.length)(ag:0<s)(ap:ps.sum=s):abS ps s M (By ps s M):=by
 have F:=Ly (M:=M) aE ag ap;have iP:(fX ps s M).length=ps.length:=g6 _;obtain⟨ad,af,aV⟩:=Dm ((fW ps s M).take (lF ps s M)) (fX ps s M) (fun x ab=>by rw[iP];exact F.xB x (x' ab)) (F.DR.sublist (IQ _ _));refine⟨ad.trans iP,?_,fun i ar=>?_⟩
 ·show(((fW ps s M).take (lF ps s M)).foldl kf (fX ps s M)).sum=M;have:=F.out;have:=F.KQ;rw[af,dY,F.Hw,gn F.KQ];unfold lF;omega
 ·have bq:=aV i I;show(((fW ps s M).take (lF ps s M)).foldl kf (fX ps s M)).getD i 0=_\/_;rw[amr ar] at bq;by_cases hm:(i:Int)∈(fW ps s M).take (lF ps s M)
  ·rw[bj hm] at bq;exact .inr ⟨bq,by have:=F.pos _ hm;rwa [jy] at this⟩
  ·rw[bd hm] at bq;exact .inl bq
end
end Go.Opn
