/- A part of the proof of TableLosses. -/
import Derived.Test.YtjbbbehaciogcaaGreatDoorCbb
import Derived.Test.YtjbbbehaciogcaaGreatDoorCba
set_option maxRecDepth 100000
set_option maxHeartbeats 8000000
set_option linter.unusedVariables false
set_option linter.unusedSimpArgs false
namespace Go.Opn
noncomputable section
open Go.Cre Go.RowKit Go.Proofs
theorem aqv{u y k:Nat}(h:u<1000000000*y)(ap:(ag y).length<=k):(ag u).length<=k+1:=kJ (iM h (by
 rw[fP,dP];exact fq _ (vq (oN ap))))
theorem M9{x f k:Nat}(aa:(ag x).length<=k)(aA:f<1000000000):(ag (x*f)).length<=k+1:=by
 refine kJ ?_;have ad:=oN aa;rw[fP];exact af5 ad I bI
theorem abY{J:aj}:cS J (.slice none 0 0) 0:=by
 show c9 .u32 J _ (ag 0);rw[lR];exact c9.nil
theorem ais{x y:Nat}(h:¬l4 x y<0):y<=x:=by
 rcases hH x y with q|q
 ·exact absurd (sI.2 q) h
 ·exact q
theorem nD{x y:Nat}(h:y<=x):(ag y).length<=(ag x).length:=by
 rcases hH (ag x).length (ag y).length with q|q
 ·have:=Fo q;omega
 ·exact q
abbrev aga(J:aj)(x y:Nat):Value->aN->aj->Prop:=fun u m' af=>J.le af/\m'=[]/\∃bl b7,u=.tuple #[bl,b7]/\cS af bl (x / y)/\cS af b7 (x % y)
section
variable {K:dR}{B:dv}{o:Oper}{n:Nat}{ds:ee}{l:List (Nat×Value)}{m m':aN}{J:aj}
theorem F3{c:Call}{x y:Operand}{k:IntKind}{a b:Int}(ah:o.op=.call c)(aC:c.callee=.builtin .min)(g3:c.args.toList=[x,y])(aa:bJ l x=some (.int k a))(ap:bJ l y=some (.int k b)):cY K B o n ds l m J (.int k (min a b)):=by
 intro call aJ S H al aB;rw[Bu ah aC];have n1:c.args=#[x,y]:=by rw[<-VI];exact g3
 have:fl K.P S.T H o=some (.val (.int k (min a b)) H):=by
  refine pt al ?_ aa ap rfl rfl ?_ rfl
  ·rw[ah]
   show(Call.operands c).toList=_;simp[Call.operands,aC,n1]
  ·unfold execOp;simp only[ah]
   have ao:eR K.P (resolve (qs S.T H) c o.type)=some {target:=.builtin .min c.argTypes o.type (c.args.map fun|.const _=>true|_=>false),args:=#[.int k a,.int k b]}:=by
        unfold resolve;simp only[aC,n1];show some _=some _;simp[hK al H aa,hK al H ap];exact⟨by cases x<;>rfl,by cases y<;>rfl⟩
   rw[eL ao];show eR K.P ((Builtin.min_ c.argTypes o.type #[.int k a,.int k b]) >>= fun v=>pure (Next.value v))=_;have:eR K.P (Builtin.min_ c.argTypes o.type #[.int k a,.int k b])=some (.int k (min a b)):=by
        show some (Value.int k (if b<a then b else a))=_;congr 2
        split<;>omega
   rw[eL this];rfl
 unfold qS;rw[oB al H (vs:=[.int k a,.int k b]) (by rw[g3];simp only[h4,aa,ap])];exact this
theorem gX.rd{g0:Nat}{e:TypeId}{sz k:Nat}{v:Value}{cells:List Value}{bc:aN}(h:gX e sz v k cells bc)(hm:∀x∈bc,x∈m):mW g0 B J m sz v k cells:=by
 rcases jq k with rfl|hk
 ·intro H aB
  rcases h with⟨h,_,aE⟩|⟨a,full,rest,rfl,_,_,ad,_⟩
  ·cases h with
   |nil=>exact⟨rfl,rfl⟩
   |jH a=>exact⟨rfl,rfl⟩
   |opn ad ae=>exact⟨rfl,by rw[jE] at ad;rw[oj ad];rfl⟩
   |cap=>exact absurd (.head _) (aE _ _ _)
  ·exact⟨rfl,by rw[jE] at ad;rw[<-ad];rfl⟩
 ·obtain⟨a,full,rest,rfl,rfl,ad,ae⟩:=h.row hk
  intro H aB;refine⟨rfl,?_⟩;obtain⟨f,_,g,_⟩:=(aB.own _ _ (hm _ (.head _))).1;unfold j4;cases k with
  |zero=>
   simp only
   rw[jE] at ad;rw[<-ad];rfl
  |succ k=>
   simp only[g];rw[xO,gO,y5 I,ad]
end
theorem gX.HC{e:TypeId}{sz k:Nat}{v:Value}{cells:List Value}{bc:aN}(h:gX e sz v k cells bc):∃b c,v=.slice b k c:=by
 rcases h.form with⟨b,aL,aG,_⟩|⟨a,full,rest,aL,_⟩
 ·exact⟨_,_,by rw[aG];exact aL⟩
 ·exact⟨_,_,aL⟩
theorem auN{l:List Value}{i:Nat}{v:Value}(h:i<l.length):gS i l [v]=some (l.set i v):=by
 rw[y3 _ _ _ (by rw[zl];omega),OS,aV h,lB];rfl
theorem gX.put{e:TypeId}{a k i x:Nat}{full:List Value}{rest:List Nat}{l:List Nat}(aA:full.take (k*1)=cj .u32 l)(hk:k*1<=full.length)(aq:l.length=k)(ak:i<k):gX e 1 (.slice (some ⟨a,0,none⟩) k cO) (l.set i x).length (cj .u32 (l.set i x)) [(a,.opn (full.set i (.int .u32 (x:Int))) e rest 0)]:=by
 have h:=gX.of (e:=e) (sz:=1) (k:=k) (a:=a) (full:=full.set i (.int .u32 (x:Int))) (rest:=rest) (by rw[im];exact hk);have ae:(full.set i (.int .u32 (x:Int))).take (k*1)=cj .u32 (l.set i x):=by
  rw[List.take_set,aA];unfold cj;rw[List.map_set]
 rw[ae] at h;rw[im,aq];exact h
section
variable {Q:c7 Tryz.prog}{g0:Nat}{J:aj}
theorem Uj{v w:Value}{x y:Nat}(ad:cS J v x)(ae:cS J w y)(ap:y≠0)(wc:(ag x).length<=60000)(qa:(ag y).length<=60000):Fn (aU Q g0) 95 [v,w] [] J (aga J x y):=by
 have k0:=ad;have kq:=ae;have ad:c9 .u32 J v (ag x):=ad;have ae:c9 .u32 J w (ag y):=ae;obtain⟨a',bb,rfl⟩:=ad.form;obtain⟨bf,br,rfl⟩:=ae.form;have e8:=wC ap;obtain⟨A9,BU⟩:∃A9,(ag y)[(ag y).length -1]?=some A9:=⟨_,ey I⟩;have ay6:A9≠0:=Fl y _ (by rw[rC];exact BU);have L8:=qp (hR y) BU;obtain⟨f,aA⟩:∃f,f=1000000000 / (A9+1):=⟨_,rfl⟩;have p9:0<f:=by rw[aA];exact OV I I
 have us:f<1000000000:=by rw[aA];exact Nat.div_lt_self bI I
 have anp:(1000000000:Int).tdiv ((A9:Int)+1)=(f:Int):=by rw[aA];exact(DC 1000000000 (A9+1)).symm
 have ayL:(ag f).length<=1:=kJ (by rw[DP];exact us);have amq:ag f=[f]:=Fm I us;obtain⟨X,ft⟩:∃X,X=x*f:=⟨_,rfl⟩;obtain⟨Y,jj⟩:∃Y,Y=y*f:=⟨_,rfl⟩;have azb:(ag X).length<=60001:=by rw[ft];exact M9 wc us
 have BV:(ag Y).length<=60001:=by rw[jj];exact M9 qa us
 have x4:0<Y:=by rw[jj];exact jr I p9
 have RC:=wC (j1 x4);obtain⟨T,cB⟩:∃T,(ag Y)[(ag Y).length -1]?=some T:=⟨_,ey I⟩;have ay8:T≠0:=Fl Y _ (by rw[rC];exact cB);have amM:=qp (hR Y) cB;obtain⟨a,o,xI,e,rfl,fY,av⟩:=ae.ei I;have azD:nth xI (o+(((ag y).length:Int) -1).toNat*1)=some (.int .u32 (A9:Int)):=by
  rw[show(((ag y).length:Int) -1).toNat=(ag y).length -1 by omega];exact av _ _ BU
 refine Fn.b5 (b2 Tryz.func95) rfl rfl fun H=>?_;refine U 0x439c0859 ?_;refine bC (G:=Uh k0 kq I) (h:=?_);rintro v' m' af hle ⟨rfl,rfl,rfl⟩;refine U 0x5f04 ?_;refine If (fun iO=>?_) fun iO=>?_
 ·have cD:x<y:=sI.1 iO;refine U 0x6af810839 ?_;refine bp ?_
  exact⟨aj.le.refl _,rfl,_,_,rfl,by rw[A6 cD];exact abY,by rw[sw cD];exact k0⟩
 ·have jl:y<=x:=ais iO;have amt:Y<=X:=by rw[ft,jj];exact fq _ jl
  have rY:=nD amt;refine U 0xe78dc930ca10e757 ?_;rw[anp,show IntKind.u64.wrap (f:Int)=(f:Int) from wrap_u64 I I,show IntKind.u32.wrap (f:Int)=(f:Int) from wrap_u32 I I];refine bC (G:=UT (x:=f) us) (h:=?_);rintro av' m' bu aY ⟨_,rfl,bM⟩;have HO:=bM.gM;refine U 0x10e702 ?_;refine bC (G:=u3 (k0.mono aY) HO I I) (h:=?_);rintro v' m' cZ bG ⟨_,rfl,HZ⟩;rw[<-ft] at HZ;refine U 0x21 ?_;refine bC (G:=u3 (kq.mono (aY.trans bG)) (HO.mono bG) I I) (h:=?_);rintro v' m' gi cR ⟨_,rfl,RD⟩;rw[<-jj] at RD;have HZ:=HZ.mono cR;refine U 0x6042 ?_;have HO:=(HO.mono bG).mono cR;have YW:c9 .u32 gi _ (ag X):=HZ.gM;have RC:c9 .u32 gi _ (ag Y):=RD.gM;obtain⟨bV,cc,rfl⟩:=YW.form;obtain⟨dx,ej,rfl⟩:=RC.form;have YZ:=RD.gM;obtain⟨WC,T8,ail,ajX,rfl,amv,aoZ⟩:=YW.ei I;obtain⟨ax0,arO,aim,ayx,rfl,ayR,ao0⟩:=RC.ei I;have azF:nth aim (arO+(((ag Y).length:Int) -1).toNat*1)=some (.int .u32 (T:Int)):=by
   rw[show(((ag Y).length:Int) -1).toNat=(ag Y).length -1 by omega];exact ao0 _ _ cB
  have amP:fR gi 78 1 (.slice (some ⟨WC,T8,none⟩) (ag X).length cc) (ag X).length (cj .u32 (ag X)):=HZ;obtain⟨ae3,qj⟩:∃w,Hb WC T8 cc 1 (((ag X).length:Int) -((ag Y).length:Int)+1) ((ag X).length:Int)=w:=⟨_,rfl⟩;have L7:=aiP amP (a:=((ag X).length:Int) -((ag Y).length:Int)+1) (b:=((ag X).length:Int)) I I I I;rw[qj] at L7;obtain⟨N,jy⟩:∃N,N=(ag X).length -(ag Y).length+1:=⟨_,rfl⟩;have XP:(((ag X).length:Int) -((ag Y).length:Int)+1).toNat=N:=I
  have LC:(((ag X).length:Int) -(((ag X).length:Int) -((ag Y).length:Int)+1)).toNat=(ag Y).length -1:=I
  rw[XP,LC,ha,ha] at L7;have ajU:((cj .u32 (ag X)).drop N).take ((ag Y).length -1)=cj .u32 ((ag X).drop N):=by
   unfold cj;rw[<-V',cU (by rw[j0,jZ];omega)]
  rw[ajU] at L7;have LY:((ag X).drop N).length=(ag Y).length -1:=by rw[jZ];omega
  have amn:(ag X).drop N=ag (aK ((ag X).drop N)):=qQ (Xu (Bk X));have v3:aK ((ag X).drop N)<Y:=ajO (m:=(ag Y).length -1) (hR X) I I;refine U 0xbe0450e702724c328439 ?_;refine az.draw rfl (by kernel_rfl) (a1:=[.val 0,.val 1,.val 2,.val 3,.val 4,.kG 5,.val 6,.val 7,.val 8,.val 9,.val 10,.val 11,.val 12,.val 13,.b9 [4,3,2,1,0],.bE 14,.val 15,.b9 [4,3,2,1,0],.bE 16]) (by kernel_rfl) ?_;refine U 0x3184a1 ?_;refine ct.makeSlice rfl rfl rfl rfl rfl rfl rfl (eW rfl) ?aR ?ad ?ae fun GB=>?_;case aR=>exact ck
  case ad=>exact ck
  case ae=>exact ck
  refine U 0xc6128421 ?_;refine' ct.val rfl rfl rfl rfl (awB rfl rfl (eW rfl) ?av ?hk rfl rfl ?aR ?ad ?ae ?hw) ?_;case av=>assumption
  case hk=>exact ck
  case aR=>exact ck
  case ad=>exact ck
  case ae=>exact ck
  case hw=>assumption
  refine ct.b9 fD ?_;refine' ct.vL rfl rfl (tt rfl rfl rfl rfl rfl rfl (eW rfl) (wX Q g0) (fun i q=>by cases q) ?eT ?hm ?aa ?dT ?dX ?aq fun Vm abE Y4 aan=>?_);case eT=>exact .nil
  case hm=>exact asV
  case aa=>exact L7.rd
  case dT=>exact(by rw[r8,LY,ha])
  case dX=>exact CO _
  case aq=>exact(show 0+((ag Y).length -1)<=1000000 by omega)
  refine U 0xc0ba2 ?_;rw[XP,zero_num];have aoG:N<=N/\gi.le gi/\(List.replicate N 0).length=N/\dU (List.replicate N 0)/\aK ((List.replicate N 0).drop N)=aK ((ag X).drop N) / Y/\gX 78 1 Vm (ag (aK ((ag X).drop N) % Y)).length (cj .u32 (ag (aK ((ag X).drop N) % Y))) abE:=by
   refine⟨bU _,aj.le.refl _,kE,FG,?_,?_⟩
   ·rw[rB (by rw[kE];exact bU _),A6 v3];rfl
   ·rw[sw v3,<-amn,LY]
    rw[j2,kj] at Y4;exact .inl ⟨Y4,aan.1 Dq,aan.2 CI⟩
  refine U 0x1abe04309439 ?_;refine c3 [(9,.int .i64 (((N):Int) -1)),(5,(Vm)),(0,_),(1,_),(4,_),(6,_),(7,_)] ?_;refine a2 ?_;refine' az.bH (fun(bK:Nat×(List Nat)×Value×aN×aj)=>match bK with|(k,d,oe,bc,cq)=>⟨[(9,.int .i64 ((k:Int) -1)),(5,oe)],bc++[eO .u32 78 GB d],cq,k<=N/\gi.le cq/\d.length=N/\dU d/\aK (d.drop k)=aK ((ag X).drop k) / Y/\gX 78 1 oe (ag (aK ((ag X).drop k) % Y)).length (cj .u32 (ag (aK ((ag X).drop k) % Y))) bc,k⟩) ⟨N,List.replicate N 0,Vm,abE,gi⟩ ?hs ?a7
  case hs=>exact aoG
  case a7=>
   rintro⟨k,d,oe,bc,cq⟩ hinv;try simp only at hinv
   obtain⟨hk,cA,pe,Zd,RS,eT⟩:=hinv;refine U 0x17c1039 ?_;refine If (fun Bg=>?_) fun Bg=>?_
   ·obtain⟨z,aM⟩:∃z,(ag X)[k -1]?=some z:=⟨_,ey I⟩;have azJ:nth ail (T8+((k:Int) -1).toNat*1)=some (.int .u32 (z:Int)):=by
     rw[show((k:Int) -1).toNat=k -1 by omega];exact aoZ _ _ aM
    have ayQ:=cA _ _ amv;have wx:=qp (hR X) aM;obtain⟨R,c1⟩:∃R,R=aK ((ag X).drop k) % Y:=⟨_,rfl⟩;rw[<-c1] at eT;have amH:R<Y:=by rw[c1];exact gA _ x4
    have amJ:(ag R).length<=60001:=cX (nD (vq amH)) BV;obtain⟨da,iR⟩:∃da,da=z+1000000000*R:=⟨_,rfl⟩;have L9:da<1000000000*Y:=I
    have amO:aK (z::ag R)=da:=by rw[iR];show z+1000000000*aK (ag R)=_;rw[g']
    have ay9:(ag da).length<=60002:=aqv L9 BV;have XU:k -1+1=k:=I
    have bQ:=acX (d:=d) x4 aM I (by rw[XU];exact c1) (by rw[XU];exact RS) iR;have aoa:dU (z::ag R):=fun u hu=>by
     rcases gj.1 hu with rfl|hu
     ·exact wx
     ·exact hR R u hu
    refine U 0x930439d5f57 ?_;refine mr fun ago=>?_;refine eZ V.kK ?_;refine' W.step rfl (.of (tt rfl rfl rfl rfl rfl rfl (eW rfl) (wX Q g0) (fun i q=>by cases q) ?eT ?hm ?aa ?dT ?dX ?aq fun aBf aAs am1 az0=>?_));case eT=>exact Acc.cap (a:=ago) (el:=78) (k:=1) (C:=1) (full:=[.int .u32 (z:Int)]) rfl rfl (bU _) Jz
    case hm=>exact .refl _
    case aa=>exact eT.rd (fun x aa=>.tail _ (om _ aa))
    case dT=>exact(by rw[r8,ha])
    case dX=>exact CO _
    case aq=>exact(show 1+(ag R).length<=1000000 by omega)
    refine W.asX am1 rfl fun qI gE x1=>?_;refine bC (G:=J5 (l:=z::ag R) (by rw[kR,Gq];exact x1) aoa (by rw[kR];omega)) (h:=?_);rintro v' m' af hle ⟨rfl,rfl,EE⟩;rw[amO] at EE;have YU:c9 .u32 qI v' (ag da):=EE.gM;obtain⟨fb,eo,rfl⟩:=YU.form;have EE:=EE.gM;have l8:aK ((ag da).drop (ag da).length)=0:=(by rw[V1];rfl);refine U 0x1abe0432873816702 ?_;refine c3 [(11,.int .i64 ((((ag da).length):Int) -1)),(10,.int .u64 (aK ((ag da).drop ((ag da).length)):Int)),(0,_),(1,_),(4,_),(5,_),(6,_),(7,_),(9,_)] ?_;refine a2 ?_;refine' az.kv (fun(j:Nat)=>⟨[(11,.int .i64 ((j:Int) -1)),(10,.int .u64 (aK ((ag da).drop j):Int))],j<=(ag da).length/\((ag Y).length -1<=j\/j=(ag da).length),j⟩) ((ag da).length) ?hs ?a7;case hs=>exact⟨bU _,.inr rfl⟩
    case a7=>
     rintro j hinv;try simp only at hinv
     obtain⟨aX,Zo⟩:=hinv;refine U 0xbe08328439 ?_;refine If (fun ahy=>?_) fun ahy=>?_
     ·obtain⟨hF,MM⟩:∃z,(ag da)[j -1]?=some z:=⟨_,ey I⟩;obtain⟨axZ,arN,aik,ayw,rfl,ayP,aoY⟩:=YU.ei I;have azE:nth aik (arN+((j:Int) -1).toNat*1)=some (.int .u32 (hF:Int)):=by
       rw[show((j:Int) -1).toNat=j -1 by omega];exact aoY _ _ MM
      have XR:=y' MM;rw[show j -1+1=j by omega] at XR;have pc:=Zm (n:=(ag Y).length -1) I L9 (j -1) I;have ajZ:(aK ((ag da).drop j):Int)*1000000000+(hF:Int)=(aK ((ag da).drop (j -1)):Int):=I
      refine U 0x6043724c108c39d5f57 ?_;rw[ajZ];refine U 0x1810c39 ?_;refine kx (j -1) ?_;exact⟨I,.inl I⟩
     ·have XT:(ag da).drop j=(ag da).drop ((ag Y).length -1):=by
       rcases Zo with q|q
       ·rw[show j=(ag Y).length -1 by omega]
       ·rw[rB I,rB I]
      have j5:=Zm (n:=(ag Y).length -1) I L9 _ (bU _);rw[<-XT] at j5;have jl:=aj8 cB I L9;rw[<-XT] at jl;obtain⟨eJ,HM⟩:∃eJ,eJ=aK ((ag da).drop j) / T:=⟨_,rfl⟩;have azl:eJ<=aK ((ag da).drop j):=by rw[HM];exact tC _ _
      rw[<-HM] at jl;obtain⟨E,gJ⟩:∃E,E=Nat.min eJ 999999999:=⟨_,rfl⟩;rw[<-gJ] at jl;have BK:E<=999999999:=by rw[gJ];exact Nat.min_le_right _ _
      have amo:min (IntKind.u64.wrap ((aK ((ag da).drop j):Int).tdiv (T:Int))) 999999999=(E:Int):=by
       rw[show(aK ((ag da).drop j):Int).tdiv (T:Int)=(eJ:Int) by rw[HM];exact(DC _ _).symm];rw[wrap_u64 I I,gJ];show min (eJ:Int) 999999999=((min eJ 999999999:Nat):Int);omega
      refine U 0x357 ?_;refine c4 [10,0,1,4,5,6,7,9] ?_;refine a2 ?_;refine' az.en 1 [(12,.int .u64 (E:Int))] ?xG ?xM;case xG=>
       refine U 0x7843a ?_;refine' W.step rfl (Exec.val rfl rfl (F3 rfl rfl rfl rfl rfl) ?_);refine U 0x302 ?_;refine di ?_;exact cC some (cC (Value.int .u64) amo)
      case xM=>
       refine U 0x357 ?_;refine c3 [(12,.int .u64 ((E):Int)),(0,_),(1,_),(4,_),(5,_),(6,_),(7,_),(9,_)] ?_;refine a2 ?_;refine' az.bH (fun(bK:Nat×aj)=>match bK with|(t,pK)=>⟨[(12,.int .u64 (t:Int))],bc++[eO .u32 78 GB d],pK,da / Y<=t/\t<=999999999/\qI.le pK,t⟩) ⟨E,qI⟩ ?hs ?a7
       case hs=>exact⟨jl,BK,aj.le.refl _⟩
       case a7=>
        rintro⟨t,pK⟩ hinv;try simp only at hinv
        obtain⟨r4,EZ,EC⟩:=hinv;have Cl:t<1000000000:=I;refine U 0x70439 ?_;refine bC (G:=UT (x:=t) Cl) (h:=?_);rintro v' m' zj iw ⟨_,rfl,BT⟩;have BT:=BT.gM;refine bC (G:=u3 (YZ.mono (cA.trans (gE.trans (EC.trans iw)))) BT I (cX (kJ (k:=1) (by rw[DP];exact Cl)) bI)) (h:=?_);rintro v' m' vk ll ⟨_,rfl,cI⟩;refine eZ V.kK ?_;refine bC (G:=Uh cI.gM (EE.mono (EC.trans (iw.trans ll))) (cX (M9 BV Cl) bI)) (h:=?_);rintro v' m' af hle ⟨rfl,rfl,rfl⟩;refine U 0x5f04 ?_;refine If (fun Lf=>?_) fun Lf=>?_
        ·have hD:da<Y*t:=by
           rcases hH da (Y*t) with q|q
           ·exact q
           ·exfalso
            rcases OX q with q|q
            ·rw[G0 q] at Lf;omega
            ·rw[zF q] at Lf;omega
         have ZB:da / Y<t:=Nat.div_lt_of_lt_mul hD;have azQ:1<=t:=mU (c5 _) ZB;have aoI:da / Y<=t -1/\t -1<=999999999/\qI.le vk:=⟨Nat.le_sub_one_of_lt ZB,I,EC.trans (iw.trans ll)⟩;refine U 0x1810c39d5f57 ?_;rw[show(t:Int) -1=((t -1:Nat):Int) by omega];refine dN ⟨t -1,vk⟩ ?_;exact aoI
        ·have iT:Y*t<=da:=by
           rcases hH da (Y*t) with q|q
           ·rw[zG q] at Lf;omega
           ·exact q
         have SU:t=da / Y:=Wm ((KS x4).2 (by rw[dP];exact iT)) r4;have Im:da -Y*t=da % Y:=by
           have:=zn da Y;rw[<-SU] at this;omega
         refine U 0xe084210e757 ?_;refine bC (G:=UT (x:=t) Cl) (h:=?_);rintro v' m' KG iS ⟨_,rfl,BT⟩;have BT:=BT.gM;refine bC (G:=u3 (YZ.mono (cA.trans (gE.trans (EC.trans (iw.trans (ll.trans iS)))))) BT I (cX (kJ (k:=1) (by rw[DP];exact Cl)) bI)) (h:=?_);rintro v' m' tB oH ⟨_,rfl,cI⟩;refine bC (G:=abu (EE.mono (EC.trans (iw.trans (ll.trans (iS.trans oH))))) cI.gM iT I (cX (M9 BV Cl) bI)) (h:=?_);rintro ae1 abC af hle ⟨rfl,nq⟩;rw[Im] at nq;refine U 0x309c1 ?_;refine' iN ?hs ?_;case hs=>exact mf (l:=d) (x:=t) (k -1) I I
         refine nS ?_;rw[SU];have a7:k -1<=N/\gi.le tB/\(d.set (k -1) (da / Y)).length=N/\dU (d.set (k -1) (da / Y))/\aK ((d.set (k -1) (da / Y)).drop (k -1))=aK ((ag X).drop (k -1)) / Y/\gX 78 1 ae1 (ag (aK ((ag X).drop (k -1)) % Y)).length (cj .u32 (ag (aK ((ag X).drop (k -1)) % Y))) abC:=⟨I,cA.trans (gE.trans (EC.trans (iw.trans (ll.trans (iS.trans oH))))),by rw[im];exact pe,Ap Zd (by rw[<-SU];exact Cl),bQ.1,by rw[<-bQ.2];exact nq⟩;refine U 0x1810c39 ?_;refine dN ⟨k -1,d.set (k -1) (da / Y),ae1,abC,tB⟩ ?_ (hm:=(iZ _).append (DJ _ _));exact a7
   ·obtain rfl:k=0:=I
    rw[gO,gO,g'] at RS;rw[gO,g'] at eT;obtain⟨R,c1⟩:∃R,R=X % Y:=⟨_,rfl⟩;rw[<-c1] at eT;have amJ:(ag R).length<=60001:=cX (nD (vq (by rw[c1];exact gA _ x4))) BV;obtain⟨fs,gl,rfl⟩:=eT.HC;have Rq:c9 .u32 cq _ (ag f):=HO.mono cA;rw[amq] at Rq;have amr:∃b c,av'=.slice b 1 c:=Rq.form;obtain⟨ax6,ax',rfl⟩:=amr;obtain⟨axW,arM,aij,ayt,rfl,ayO,aoW⟩:=Rq.ei Nat.one_pos;have azC:nth aij (arM+(0:Int).toNat*1)=some (.int .u32 (f:Int)):=aoW 0 f rfl;refine U 0x1abe0432873816757 ?_;refine c3 [(14,.int .i64 ((((ag R).length):Int) -1)),(13,.int .u64 ((0):Int)),(4,_),(5,_),(6,_)] ?_;refine a2 ?_;refine' az.bH (fun(bK:Nat×Nat×(List Nat)×aN)=>match bK with|(j,c,L,Aj)=>⟨[(14,.int .i64 ((j:Int) -1)),(13,.int .u64 (c:Int))],Aj++[eO .u32 78 GB d],cq,j<=(ag R).length/\L.length=(ag R).length/\dU L/\L.take j=(ag R).take j/\aK (L.drop j)=aK ((ag R).drop j) / f/\c=aK ((ag R).drop j) % f/\gX 78 1 (.slice fs (ag R).length gl) L.length (cj .u32 L) Aj,j⟩) ⟨(ag R).length,0,ag R,bc⟩ ?hs ?a7
    case hs=>exact⟨bU _,rfl,hR R,rfl,by rw[V1];exact(Pa f).symm,by rw[V1];exact(Nat.zero_mod f).symm,eT⟩
    case a7=>
     rintro⟨j,c,L,Aj⟩ hinv;try simp only at hinv
     obtain⟨aX,Rv,YO,YP,HW,aC,Y2⟩:=hinv;refine U 0x17c1039 ?_;refine If (fun ahf=>?_) fun ahf=>?_
     ·obtain⟨z,aM⟩:∃z,(ag R)[j -1]?=some z:=⟨_,ey I⟩;have api:L[j -1]?=some z:=by
       have ax:(L.take j)[j -1]?=L[j -1]?:=V5 I;have aS:((ag R).take j)[j -1]?=(ag R)[j -1]?:=V5 I;rw[<-ax,YP,aS,aM]
      have wx:=qp (hR R) aM;obtain⟨dw,full,rest,bl,rfl,jz,RY⟩:=Y2.row I;injection bl with bl b7 gq
      subst bl;subst gq;have azz:nth full (0+((j:Int) -1).toNat*1)=some (.int .u32 (z:Int)):=by
       rw[ab9 jz I];exact r9 api I
      have ana:c<f:=by rw[aC];exact gA _ p9
      obtain⟨s,hs⟩:∃s,s=z+1000000000*c:=⟨_,rfl⟩;have MC:(c:Int)*1000000000+(z:Int)=(s:Int):=I
      have qf:s<1000000000000000000:=I
      have zZ:s / f<1000000000:=by rw[hs];exact aje wx ana
      have H7:(s:Int).tdiv (f:Int)=((s / f:Nat):Int):=(DC s f).symm;have Il:(s:Int).tmod (f:Int)=((s % f:Nat):Int):=(KE s f).symm;have ao6:IntKind.u64.wrap ((s / f:Nat):Int)=((s / f:Nat):Int):=wrap_u64 (pI _) I;have ax:j -1+1=j:=I
      have bQ:=acX (d:=L) p9 aM I (by rw[ax];exact aC) (by rw[ax];exact HW) hs;have aoJ:j -1<=(ag R).length/\(L.set (j -1) (s / f)).length=(ag R).length/\dU (L.set (j -1) (s / f))/\(L.set (j -1) (s / f)).take (j -1)=(ag R).take (j -1)/\aK ((L.set (j -1) (s / f)).drop (j -1))=aK ((ag R).drop (j -1)) / f/\s % f=aK ((ag R).drop (j -1)) % f/\gX 78 1 (.slice (some ⟨dw,0,none⟩) (ag R).length cO) (L.set (j -1) (s / f)).length (cj .u32 (L.set (j -1) (s / f))) [(dw,.opn (full.set (j -1) (.int .u32 ((s / f:Nat):Int))) 78 [] 0)]:=⟨I,by rw[im];exact Rv,Ap YO zZ,by
       rw[KO (bU _)];have aL:(L.take j).take (j -1)=L.take (j -1):=by rw[su,g6 I]
       have aG:((ag R).take j).take (j -1)=(ag R).take (j -1):=by rw[su,g6 I]
       rw[<-aL,<-aG,YP],bQ.1,bQ.2,by
       rw[<-Rv];exact gX.put jz RY rfl I⟩
      refine U 0x6043724c108c39d5f57 ?_;rw[MC];refine U 0xf724c108439 ?_;rw[H7,ao6];refine eZ V.lH ?_;rw[show IntKind.u32.wrap ((s / f:Nat):Int)=((s / f:Nat):Int) from wrap_u32 (pI _) I];refine eZ V.dz ?_;refine' W.step rfl (.of (Vs rfl rfl rfl rfl (u2 rfl) rfl rfl rfl ?ad ?hs ?aM ?aw ?_));case aw=>exact .refl _
      case hs=>exact auN I
      case ad=>rfl
      case aM=>exact c5 _
      refine nS ?_;rw[show 0+((j:Int) -1).toNat*1=j -1 by omega];refine U 0x1813dc930439 ?_;rw[Il];refine U 0x1810c39 ?_;refine dN ⟨j -1,s % f,L.set (j -1) (s / f),[(dw,.opn (full.set (j -1) (.int .u32 ((s / f:Nat):Int))) 78 [] 0)]⟩ ?_;exact aoJ
     ·obtain rfl:j=0:=I
      rw[gO,gO,g'] at HW;refine gX.qv Y2 (.refl _) fun OI uw amL=>?_;refine az.ie rfl fun hP=>?_;have aoj:aK d=x / y:=by rw[RS,ft,jj,KU _ _ p9]
      have aos:aK L=x % y:=by rw[HW,c1,ft,jj,Wo,tD _ p9]
      have x1:fR (OI.add GB (cj .u32 d,78)) 78 1 (.slice (some ⟨GB,0,none⟩) N N) d.length (cj .u32 d):=by
       rw[<-pe];exact .row (aj.iE _ _ _) (by rw[gO,ha];exact cU (by rw[r8];exact bU _)) (by rw[r8,ha]) (fun _=>⟨bU _,M4 I⟩) (fun q=>absurd q (Gt (M4 I)))
      refine U 0xe757 ?_;refine bC (G:=J5 (l:=d) x1 Zd I) (h:=?_);rintro v' m' af hle ⟨rfl,rfl,eS⟩;rw[aoj] at eS;refine eZ V.kK ?_;refine bC (G:=J5 (l:=L) (fR.mono hP amL) YO I) (h:=?_);rintro v' m' af hle ⟨rfl,rfl,ea⟩;rw[aos] at ea;refine U 0x1abe042 ?_;refine bp ?_
      exact⟨aY.trans (bG.trans (cR.trans (cA.trans (uw.trans hP)))),rfl,_,_,rfl,eS.gM,ea.gM⟩
end
section
variable {Q:c7 Tryz.prog}{g0:Nat}{J:aj}
theorem Qj{v w:Value}{x y:Nat}(ad:cS J v x)(ae:cS J w y)(wc:(ag x).length<=60000)(qa:(ag y).length<=60000):Fn (aU Q g0) 94 [v,w] [] J (fun u m' af=>J.le af/\m'=[]/\cS af u (Nat.gcd x y)):=by
 have k0:c9 .u32 J v (ag x):=ad;have kq:c9 .u32 J w (ag y):=ae;obtain⟨a',bb,rfl⟩:=k0.form;obtain⟨bf,br,rfl⟩:=kq.form;refine Fn.b5 (b2 Tryz.func94) rfl rfl fun H=>?_;refine U 0x1abe059 ?_;refine c3 [(0,.slice (a') (ag (x)).length (bb)),(1,.slice (bf) (ag (y)).length (br))] ?_;refine a2 ?_;refine' az.bH (fun(bK:Nat×Nat×(Option Addr)×(Option Addr)×Nat×Nat×aj)=>match bK with|(a,b,PI,mZ,Lp,GX,cq)=>⟨[(0,.slice PI (ag a).length Lp),(1,.slice mZ (ag b).length GX)],[],cq,J.le cq/\cS cq (.slice PI (ag a).length Lp) a/\cS cq (.slice mZ (ag b).length GX) b/\(ag a).length<=60000/\(ag b).length<=60000/\Nat.gcd a b=Nat.gcd x y,b⟩) ⟨x,y,a',bf,bb,br,J⟩ ?hs ?a7
 case hs=>exact⟨aj.le.refl _,ad,ae,wc,qa,rfl⟩
 case a7=>
  rintro⟨a,b,PI,mZ,Lp,GX,cq⟩ hinv;try simp only at hinv
  obtain⟨cA,eS,ea,rX,we,ay⟩:=hinv;refine U 0x2f821439 ?_;refine If (fun ep=>?_) fun ep=>?_
  ·have gL:b≠0:=rc I;have x':a % b<b:=gA _ I;refine U 0x439d5f57 ?_;refine bC (G:=Uj eS ea gL rX we) (h:=?_);rintro v' m' bu hle ⟨aY,rfl,bl,b7,rfl,bQ,ao⟩;have cT:c9 .u32 bu b7 (ag (a % b)):=ao;obtain⟨dx,ej,rfl⟩:=cT.form;refine U 0xc08410e70211ce1 ?_;have a7:J.le bu/\cS bu (.slice mZ (ag b).length GX) b/\cS bu (.slice dx (ag (a % b)).length ej) (a % b)/\(ag b).length<=60000/\(ag (a % b)).length<=60000/\Nat.gcd b (a % b)=Nat.gcd x y:=⟨cA.trans aY,ea.mono aY,ao,we,cX (nD (vq x')) we,by
    rw[<-ay,pO a b,DM b a,pO (a % b) b]⟩
   refine dN ⟨b,a % b,mZ,dx,GX,ej,bu⟩ ?_;exact a7
  ·have gL:b=0:=by
    rcases jq b with q|q
    ·exact q
    ·have:=wC (j1 q);omega
   rw[gL,Gs] at ay;refine U 0xd5f020e757 ?_;refine bp ?_;exact⟨cA,rfl,by rw[<-ay];exact eS⟩
end
theorem pn{x y j k:Nat}(aa:(ag x).length<=j)(ap:(ag y).length<=k):(ag (x*y)).length<=j+k:=by
 refine kJ ?_;rw[o1];exact af5 (oN aa) (vq (oN ap)) (vr bI)
theorem MZ{x y k:Nat}(aa:(ag x).length<=k)(ap:(ag y).length<=k):(ag (x+y)).length<=k+1:=by
 refine kJ ?_;have ad:=oN aa;have ae:=oN ap;rw[fP];omega
theorem cS.y9{J af:aj}{v:Value}{x y:Nat}(h:cS J v x)(hd:cS af v y)(hle:J.le af):x=y:=by
 have e:ag x=ag y:=c9.y9 h hd hle;rw[<-g' x,<-g' y,e]
theorem cS.u5{J af:aj}{v w:Value}{x y:Nat}(h:cS J v x)(hd:cS af w y)(hle:J.le af)(e:v=w):x=y:=by subst e;exact h.y9 hd hle
theorem pT.hs{J mn:aj}{x h8:Nat}(hle:mn.le J)(eN:h8=x){bm:aN}(hm:bm=[]):bm=[]/\mn.le J/\∀v m' bu cZ,pT mn h8 v m' bu->bu.le cZ->J.le cZ->pT J x v m' cZ:=
 ⟨hm,hle,fun v m' bu cZ ⟨_,ae,aD⟩ a6 eM=>⟨eM,ae,eN▸aD.mono a6⟩⟩
abbrev tG(J:aj)(r:bx):Value->aN->aj->Prop:=fun u m' af=>J.le af/\m'=[]/\∃v1 v2,u=dm r v1 v2/\f' af r v1 v2
theorem arA{z:Int}{d:Nat}(au:0<d):(bk z d).z.natAbs=z.natAbs / Nat.gcd z.natAbs d/\(bk z d).d=d / Nat.gcd z.natAbs d:=by
 obtain⟨g,e,q,ay,he,aM,ang,_,aE,anH⟩:=Jp (z:=z) au;rw[aE,<-anH];refine⟨?_,?_⟩
 ·rw[aM,mR,iC,xc _ ay]
 ·rw[ang,xc _ ay]
theorem aa1{J:aj}{a:Nat}{e:TypeId}(h:J a=some ([.int .u32 1],e)):cS J (.slice (some ⟨a,0,none⟩) 1 1) 1:=by
 show c9 .u32 J _ (ag 1);rw[Fm (x:=1) bI bI];exact⟨e,.row h rfl rfl (fun _=>⟨bU _,Jz⟩) (fun q=>absurd q (Gt Jz))⟩
theorem asP{a b:Int}{d e x y:Nat}{z:Int}(au:0<d)(he:0<e)(aa:x=a.natAbs*e)(ap:y=b.natAbs*d)(aM:z=a*e+b*d):
 ((a<0↔b<0)->z.natAbs=x+y/\(z≠0->(a<0↔z<0)))/\(¬(a<0↔b<0)->(y<=x->z.natAbs=x -y/\(z≠0->(a<0↔z<0)))/\(x<y->z.natAbs=y -x/\(z≠0->(b<0↔z<0)))):=by
 have ad:(a*(e:Int)).natAbs=x:=by rw[mR,iC,aa]
 have ae:(b*(d:Int)).natAbs=y:=by rw[mR,iC,ap]
 have s1:a<0↔a*(e:Int)<0:=⟨fun h=>Dx h I,fun h=>by
  rcases vh a 0 with q|q
  ·exact q
  ·have:=k9 q (show(0:Int)<=(e:Int) by omega);omega⟩
 have s2:b<0↔b*(d:Int)<0:=⟨fun h=>Dx h I,fun h=>by
  rcases vh b 0 with q|q
  ·exact q
  ·have:=k9 q (show(0:Int)<=(d:Int) by omega);omega⟩
 rw[s1,s2];generalize a*(e:Int)=X at*;generalize b*(d:Int)=Y at*;refine⟨fun h=>⟨I,fun aE=>by omega⟩,fun h=>⟨fun k=>⟨I,fun aE=>by omega⟩,fun k=>⟨I,fun aE=>by omega⟩⟩⟩
section
variable {Q:c7 Tryz.prog}{g0:Nat}{J:aj}
theorem CA{neg:Bool}{v w:Value}{z:Int}{n d:Nat}(au:0<d)(aM:z.natAbs=n)(z9:z≠0->neg=decide (z<0))(ad:cS J v n)(ae:cS J w d)(wc:(ag n).length<=60000)(qa:(ag d).length<=60000):Fn (aU Q g0) 61 [.bool neg,v,w] [] J (tG J (bk z d)):=by
 subst aM;have k0:c9 .u32 J v (ag z.natAbs):=ad;have kq:c9 .u32 J w (ag d):=ae;obtain⟨a',bb,rfl⟩:=k0.form;obtain⟨bf,br,rfl⟩:=kq.form;obtain⟨anZ,anT⟩:=arA (z:=z) au;refine Fn.b5 (b2 Tryz.func61) rfl rfl fun H=>?_;refine rg ?_;refine fa fun e0=>?_;refine U 0x5f0428738 ?_;refine If (fun dp=>?_) fun dp=>?_
 ·have ht:z=0:=by
   rcases jq z.natAbs with q|q
   ·omega
   ·have:=wC (j1 q);omega
  refine rg ?_;refine mr fun pW=>?_;refine W.ei rfl fun aY HT=>?_;refine U 0x1abe390 ?_;refine bp ?_
  exact⟨aY,rfl,.slice none 0 0,_,by rw[ht,yJ au];rfl,by rw[ht,yJ au];exact abY,by rw[ht,yJ au];exact aa1 HT⟩
 ·have ht:z≠0:=fun q=>by
   rw[q] at dp;rw[show(0:Int).natAbs=0 from rfl,lR] at dp;exact dp rfl
  have j7:0<z.natAbs:=I
  refine U 0x10e757 ?_;refine bC (G:=Qj ad ae wc qa) (h:=?_);rintro v' m' bu hle ⟨aY,rfl,ay⟩;have wa:(ag (Nat.gcd z.natAbs d)).length<=60000:=cX (nD (Nat.gcd_le_left d j7)) wc;have EN:Nat.gcd z.natAbs d≠0:=j1 (xb _ au);refine U 0x10e702 ?_;refine bC (G:=Uj (ad.mono aY) ay EN wc wa) (h:=?_);rintro v' m' cZ hle ⟨bG,rfl,bl,b7,rfl,n4,ks⟩;rw[<-anZ] at n4;obtain⟨fs,gl,rfl,fU⟩:=n4.bA;refine U 0x873811ce1 ?_;refine bC (G:=Uj ((ae.mono aY).mono bG) (ay.mono bG) EN qa wa) (h:=?_);rintro v' m' gi hle ⟨cR,rfl,gq,u9,rfl,n5,jA⟩;rw[<-anT] at n5;obtain⟨fb,eo,rfl,ih⟩:=n5.bA;refine U 0x357c72010873811ce1 ?_;refine bp ?_
  exact⟨aY.trans (bG.trans cR),rfl,.slice fs _ gl,.slice fb _ eo,by rw[z9 ht,<-pX.2 (Nq (z:=z) au).2.1];rfl,n4.mono cR,n5⟩
end
theorem gX.wR{g0:Nat}{B:dv}{J:aj}{H:ar}{e:TypeId}{sz k:Nat}{v:Value}{cells:List Value}{bc:aN}(h:gX e sz v k cells bc)(aB:Inv g0 B J bc H):∃af,J.le af/\Inv g0 B af [] H/\fR af e sz v k cells:=by
 rcases jq k with rfl|hk
 ·rcases h with⟨h,aM,aE⟩|⟨a,full,rest,rfl,rfl,aD,a6,eM⟩
  ·cases h with
   |nil=>exact⟨J,aj.le.refl _,aB,.nil⟩
   |jH a=>exact⟨J,aj.le.refl _,aB,.jH _ _ _ bI⟩
   |opn ad ae=>
    obtain⟨aW,aT⟩:=aB.ie (x:=(_,e)) rfl;exact⟨_,aT,aW,.row (aj.iE _ _ _) (by rw[jE] at ad ⊢;rw[oj ad];rfl) ad (fun q=>absurd rfl q) (fun _=>rfl)⟩
   |cap=>exact absurd (.head _) (aE _ _ _)
  ·obtain⟨aW,aT⟩:=aB.ie (x:=(full,e)) rfl
   exact⟨_,aT,aW,.row (aj.iE _ _ _) (by rw[gO];exact a6) (by rw[<-a6,eA];omega) (fun q=>absurd rfl q) (fun _=>rfl)⟩
 ·obtain⟨a,full,rest,rfl,rfl,a6,aD⟩:=h.row hk
  obtain⟨aW,aT⟩:=aB.ie (x:=(full,e)) rfl;exact⟨_,aT,aW,.row (aj.iE _ _ _) (by rw[gO];exact a6) (by rw[<-a6,eA];omega) (fun q=>absurd rfl q) (fun _=>rfl)⟩
def y0(z:Int):Int:=if z=0 then 0 else if z<0 then -1 else 1
section
variable {Q:c7 Tryz.prog}{g0:Nat}{J:aj}
theorem abw{v w:Value}{x y:Nat}(ad:cS J v x)(ae:cS J w y)(eN:y<=x)(aq:(ag x).length<=200000)(qa:(ag y).length<=200000):Fn (aU Q g0) 66 [v,w] [] J (pT J (x -y)):=fun H aB=>by
 obtain⟨u,H',af,m',aW,aT,rfl,nq⟩:=abu ad ae eN aq qa H aB;obtain⟨cZ,aL,aG,bt⟩:=nq.wR aT;exact⟨u,H',cZ,[],aW,aG,aL,rfl,bt⟩
theorem JN{r s:bx}{x y:Bool}{v1 v2 bl b7:Value}(am7:x=decide (r.z<0))(h9:y=decide (s.z<0))(ao:f' J r v1 v2)(hs:f' J s bl b7)(rd:0<r.d)(h0:0<s.d)(ec:(ag r.z.natAbs).length<=20000)(dA:(ag r.d).length<=20000)(ib:(ag s.z.natAbs).length<=20000)(j8:(ag s.d).length<=20000):Fn (aU Q g0) 30 [.agg #[.bool x,v1,v2],.agg #[.bool y,bl,b7]] [] J (tG J (bk (r.z*s.d+s.z*r.d) (r.d*s.d))):=by
 subst am7;subst h9
 have cT:=ao;have eB:=hs;obtain⟨a',bb,rfl,aL⟩:=ao.n.bA;obtain⟨bf,br,rfl,aG⟩:=ao.d.bA;obtain⟨bV,cc,rfl,bt⟩:=hs.n.bA;obtain⟨dx,ej,rfl,du⟩:=hs.d.bA;obtain⟨X,ft⟩:∃X,X=r.z.natAbs*s.d:=⟨_,rfl⟩;obtain⟨Y,jj⟩:∃Y,Y=s.z.natAbs*r.d:=⟨_,rfl⟩;obtain⟨D,cp⟩:∃D,D=r.d*s.d:=⟨_,rfl⟩;obtain⟨Z,p3⟩:∃Z,Z=r.z*s.d+s.z*r.d:=⟨_,rfl⟩;have MY:(ag X).length<=40000:=by rw[ft];exact pn ec j8
 have aaE:(ag Y).length<=40000:=by rw[jj];exact pn ib dA
 have aaD:(ag D).length<=40000:=by rw[cp];exact pn dA j8
 have Tq:(ag (X+Y)).length<=40001:=MZ MY aaE;have aAf:(ag (X -Y)).length<=40000:=cX (nD (Nat.sub_le _ _)) MY;have aAg:(ag (Y -X)).length<=40000:=cX (nD (Nat.sub_le _ _)) aaE;have uf:0<D:=by rw[cp];exact jr rd h0
 obtain⟨dg,gp⟩:=asP rd h0 ft jj p3;rw[<-p3,<-cp];refine Fn.b5 (b2 Tryz.func30) rfl rfl fun H=>?_;refine rg ?_;refine eQ fun bd=>?_;refine eQ fun cm=>?_;refine fa fun cQ=>?_;refine ns ?_;refine az.draw rfl (by kernel_rfl) (a1:=[.val 0,.val 1,.val 2,.val 3,.val 5,.val 6,.val 7,.val 8,.val 10,.val 11,.val 12,.val 13,.bE 4,.b9 [13,12,11,10,8,7,6,5],.bE 9,.b9 [13,12,11,10],.bE 14,.val 15,.val 16,.val 17]) (by kernel_rfl) ?_;refine U 0x1e5354d5354d5354d ?_;refine' bz.dE rfl rfl rfl rfl rfl rfl rfl rfl rfl dF (u3 cT.n eB.d I I) ?_;rintro v' m' bu aY ⟨_,rfl,eS⟩;have hU:=eS.gM;obtain⟨fs,gl,rfl,fU⟩:=hU.bA;refine bz.b9 fD ?_;refine' bz.dE rfl rfl rfl rfl rfl rfl rfl rfl rfl (dj (fun _ aF=>pT.hs aY (by rw[cT.n.u5 (eB.n.mono aY) aY (lY aF).1,eB.d.u5 (cT.d.mono aY) aY (lY aF).2]) rfl) dF) (u3 (eB.n.mono aY) (cT.d.mono aY) I I) ?_;rintro v' m' cZ bG ⟨_,rfl,ea⟩;have h5:=ea.gM;obtain⟨fb,eo,rfl,ih⟩:=h5.bA;refine bz.b9 fD ?_;refine' bz.dE rfl rfl rfl rfl rfl rfl rfl rfl rfl (dj (fun _ aF=>pT.hs bG (by rw[(eB.n.mono aY).u5 ((cT.d.mono aY).mono bG) bG (lY aF).1,(cT.d.mono aY).u5 ((eB.d.mono aY).mono bG) bG (lY aF).2]) rfl) (dj (fun _ aF=>pT.hs (aY.trans bG) (by rw[cT.n.u5 ((cT.d.mono aY).mono bG) (aY.trans bG) (lY aF).1]) rfl) dF)) (u3 ((cT.d.mono aY).mono bG) ((eB.d.mono aY).mono bG) I I) ?_;rintro v' m' gi cR ⟨_,rfl,hM⟩;have sQ:=hM.gM;obtain⟨iq,fC,rfl,mK⟩:=sQ.bA;rw[<-ft] at hU;rw[<-jj] at h5;rw[<-cp] at sQ;have hU:=(hU.mono bG).mono cR;have h5:=h5.mono cR;rw[<-ft,<-jj,<-cp];refine U 0x181085e ?_;refine c4 [2,3,4,5,6,7] ?_
 refine a2 ?_;refine' az.en 0 [(27,.bool (decide (((r.z<0)↔(s.z<0)))))] ?nj ?nl;case nj=>
  refine U 0xa6a9ba ?_;refine' W.step rfl (Exec.val rfl rfl (u6 rfl rfl rfl (.inl ⟨rfl,rfl⟩) (by kernel_rfl)) ?_);refine nS ?_;refine di (dk ?_);((by_cases a:r.z<0<;>by_cases b:s.z<0<;>simp[a,b]))
 case nl=>
  refine a2 ?_;refine If (fun jv=>?_) fun jv=>?_
  ·have p:=dg jv;refine a2 ?_;refine az.draw rfl (by kernel_rfl) (a1:=[.val 0,.val 1,.val 2,.val 3,.val 5,.bE 4,.b9 [5,1,0],.bE 6,.bE 7]) (by kernel_rfl) ?_;refine U 0x3c10854d ?_;refine' bz.dE rfl rfl rfl rfl rfl rfl rfl rfl rfl dF (asO hU h5 I I) ?_;rintro v' m' qI gE ⟨_,rfl,al⟩;have sU:=al.gM;obtain⟨km,hq,rfl,oS⟩:=sU.bA;refine bz.b9 fD ?_;refine' bz.dE rfl rfl rfl rfl rfl rfl rfl rfl rfl (dj (eC rfl) dF) (CA (z:=Z) uf p.1 (fun h=>pX.2 (p.2 h)) sU (sQ.mono gE) I I) ?_;rintro v' m' pK gg ⟨_,rfl,dW,fi,rfl,bM⟩;have ch:=bM;obtain⟨ir,ep,rfl,oT⟩:=bM.n.bA;obtain⟨kT,dp,rfl,oa⟩:=bM.d.bA;refine U 0x1abe39e ?_;refine bp ?_;exact⟨aY.trans (bG.trans (cR.trans (gE.trans gg))),rfl,_,_,rfl,ch⟩
  ·have acE:=gp jv;refine U 0x10e757 ?_;refine bC (G:=Uh hU h5 I) (h:=?_);rintro v' m' af hle ⟨rfl,rfl,rfl⟩;refine U 0x5f04 ?_;refine If (fun rJ=>?_) fun rJ=>?_
   ·have jl:Y<=X:=by
      rcases hH X Y with q|q
      ·rw[zF q] at rJ;omega
      ·exact q
    have p:=acE.1 jl;refine a2 ?_;refine az.draw rfl (by kernel_rfl) (a1:=[.val 0,.val 1,.val 2,.val 3,.val 5,.bE 4,.b9 [5,1,0],.bE 6,.bE 7]) (by kernel_rfl) ?_;refine U 0x3c10854d ?_;refine' bz.dE rfl rfl rfl rfl rfl rfl rfl rfl rfl dF (abw hU h5 jl I I) ?_;rintro v' m' qI gE ⟨_,rfl,al⟩;have sU:=al.gM;obtain⟨km,hq,rfl,oS⟩:=sU.bA;refine bz.b9 fD ?_;refine' bz.dE rfl rfl rfl rfl rfl rfl rfl rfl rfl (dj (eC rfl) dF) (CA (z:=Z) uf p.1 (fun h=>pX.2 (p.2 h)) sU (sQ.mono gE) I I) ?_;rintro v' m' pK gg ⟨_,rfl,dW,fi,rfl,bM⟩;have ch:=bM;obtain⟨ir,ep,rfl,oT⟩:=bM.n.bA;obtain⟨kT,dp,rfl,oa⟩:=bM.d.bA;refine U 0x1abe39e ?_;refine bp ?_;exact⟨aY.trans (bG.trans (cR.trans (gE.trans gg))),rfl,_,_,rfl,ch⟩
   ·have cD:X<Y:=by
      rcases hH X Y with q|q
      ·exact q
      ·exfalso
       rcases OX q with q|q
       ·rw[G0 q.symm] at rJ;omega
       ·rw[zG q] at rJ;omega
    have p:=acE.2 cD;refine U 0x5f57 ?_;refine az.draw rfl (by kernel_rfl) (a1:=[.val 0,.val 1,.val 2,.val 3,.val 5,.bE 4,.b9 [5,1,0],.bE 6,.bE 7]) (by kernel_rfl) ?_;refine U 0x3c10854d ?_;refine' bz.dE rfl rfl rfl rfl rfl rfl rfl rfl rfl dF (abw h5 hU (vq cD) I I) ?_;rintro v' m' qI gE ⟨_,rfl,al⟩;have sU:=al.gM;obtain⟨km,hq,rfl,oS⟩:=sU.bA;refine bz.b9 fD ?_;refine' bz.dE rfl rfl rfl rfl rfl rfl rfl rfl rfl (dj (eC rfl) dF) (CA (z:=Z) uf p.1 (fun h=>pX.2 (p.2 h)) sU (sQ.mono gE) I I) ?_;rintro v' m' pK gg ⟨_,rfl,dW,fi,rfl,bM⟩;have ch:=bM;obtain⟨ir,ep,rfl,oT⟩:=bM.n.bA;obtain⟨kT,dp,rfl,oa⟩:=bM.d.bA;refine U 0x1abe39e ?_;refine bp ?_;exact⟨aY.trans (bG.trans (cR.trans (gE.trans gg))),rfl,_,_,rfl,ch⟩
theorem abv{r:bx}{v1 v2:Value}(ao:f' J r v1 v2):Fn (aU Q g0) 68 [dm r v1 v2] [] J (fun u m' af=>u=dm ⟨-r.z,r.d⟩ v1 v2/\m'=[]/\J=af):=by
 obtain⟨a',bb,rfl,aL⟩:=ao.n.bA;obtain⟨bf,br,rfl,aG⟩:=ao.d.bA;refine Fn.b5 (b2 Tryz.func68) rfl rfl fun H=>?_;refine rg ?_;refine eQ fun ba=>?_;refine fa fun bd=>?_;refine U 0x3153738 ?_;refine c0 6 (fun g2=>?_) fun g2=>?_
 ·refine U 0x357c7179c71a82154d ?_;refine bp ?_
  exact⟨cC (fun b=>Value.agg #[.bool b,.slice a' _ bb,.slice bf _ br]) (show decide (0<((ag r.z.natAbs).length:Int))=decide (-r.z<0) from pX.2 ⟨fun h=>by have:=rc (x:=r.z.natAbs) I;omega,fun h=>by have:=wC (x:=r.z.natAbs) I;omega⟩),rfl,rfl⟩
 ·refine U 0x357c7179c71a8def7b ?_;refine bp ?_
  exact⟨cC (fun b=>Value.agg #[.bool b,.slice a' _ bb,.slice bf _ br]) (show false=decide (-r.z<0) from(fW I).symm),rfl,rfl⟩
theorem acr{r s:bx}{v1 v2 bl b7:Value}(ao:f' J r v1 v2)(hs:f' J s bl b7)(rd:0<r.d)(h0:0<s.d)(ec:(ag r.z.natAbs).length<=20000)(dA:(ag r.d).length<=20000)(ib:(ag s.z.natAbs).length<=20000)(j8:(ag s.d).length<=20000):Fn (aU Q g0) 32 [dm r v1 v2,dm s bl b7] [] J (fun u m' af=>J.le af/\m'=[]/\u=.int .i64 (y0 (r.z*s.d -s.z*r.d))):=by
 have cT:=ao;have eB:=hs;obtain⟨a',bb,rfl,aL⟩:=ao.n.bA;obtain⟨bf,br,rfl,aG⟩:=ao.d.bA;obtain⟨bV,cc,rfl,bt⟩:=hs.n.bA;obtain⟨dx,ej,rfl,du⟩:=hs.d.bA;have uf:0<r.d*s.d:=jr rd h0;have Mv:f' J (⟨-s.z,s.d⟩:bx) (.slice bV (ag s.z.natAbs).length cc) (.slice dx (ag s.d).length ej):=⟨by show cS J _ (-s.z).natAbs;rw[AX];exact eB.n,eB.d⟩;have aqz:(ag (-s.z).natAbs).length<=20000:=by rw[AX];exact ib
 obtain⟨Z,p3⟩:∃Z,Z=r.z*s.d+-s.z*r.d:=⟨_,rfl⟩;have amR:r.z*s.d -s.z*r.d=Z:=by rw[p3,oY,KF]
 rw[amR];have jI:=Nq (z:=Z) uf;refine Fn.b5 (b2 Tryz.func32) rfl rfl fun H=>?_;refine rg ?_;refine eQ fun bd=>?_;refine eQ fun cm=>?_;refine U 0x5f02 ?_;refine az.draw rfl (by kernel_rfl) (a1:=[.kG 4,.val 0,.val 1,.bE 2,.b9 [0],.bE 3,.bE 5]) (by kernel_rfl) ?_;refine ct.alloc rfl rfl rfl rfl rfl (ad6 rfl) rfl rfl rfl fun dw=>?_;refine U 0x796b ?_;refine' bz.dE rfl rfl rfl rfl rfl rfl rfl rfl rfl dF (abv eB) ?_;rintro v' m' af hle ⟨rfl,rfl,rfl⟩;refine bz.b9 fD ?_;refine' bz.dE rfl rfl rfl rfl rfl rfl rfl rfl rfl (dj (eC rfl) dF) (JN (s:=⟨-s.z,s.d⟩) rfl rfl cT Mv rd h0 ec dA aqz j8) ?_;rintro v' m' bu aY ⟨_,rfl,dW,fi,rfl,bM⟩;rw[show r.z*((⟨-s.z,s.d⟩:bx).d:Int)+(⟨-s.z,s.d⟩:bx).z*r.d=Z from p3.symm,show r.d*(⟨-s.z,s.d⟩:bx).d=r.d*s.d from rfl] at bM ⊢;have ch:=bM;obtain⟨ir,ep,rfl,oT⟩:=bM.n.bA;obtain⟨kT,dp,rfl,oa⟩:=bM.d.bA;refine U 0x17c08855373abe39e ?_;refine If (fun dp=>?_) fun dp=>?_
 ·have aM:(bk Z (r.d*s.d)).z=0:=by
   rcases jq (bk Z (r.d*s.d)).z.natAbs with q|q
   ·omega
   ·have:=wC (j1 q);omega
  refine U 0x1abe059 ?_;refine bp ?_
  exact⟨aY,rfl,by rw[jI.2.2.1 aM];rfl⟩
 ·have aM:(bk Z (r.d*s.d)).z≠0:=fun q=>by
   rw[q] at dp;rw[show(0:Int).natAbs=0 from rfl,lR] at dp;exact dp rfl
  refine U 0x2f8129b9 ?_;refine If (fun fV=>?_) fun fV=>?_
  ·refine U 0x1abe059 ?_;refine bp ?_
   have c:=fV
   exact⟨aY,rfl,by
    have ad:=mt jI.2.2.2 aM;have ae:=jI.2.1.1 c;unfold y0;rw[aQ ad,aV ae];rfl⟩
  ·refine U 0x6af816757 ?_;refine bp ?_
   have c:=fV
   exact⟨aY,rfl,by
    have ad:=mt jI.2.2.2 aM;have ae:=mt jI.2.1.2 c;unfold y0;rw[aQ ad,aQ ae];rfl⟩
end
end
end Go.Opn
namespace Go.Opn
noncomputable section
structure cf where
 neg:Bool
 num:List Nat
 den:List Nat
open Classical in
def mH (l:List Nat):Int:=if kg l then 0 else 3
open Classical in
def mJ (n d:List Nat):Int:=if kg n/\kg d then(if d=[] then 6 else 0) else 3
open Classical in
def nH (x:cf):Int:=if mJ x.num x.den=0 then(if(x.num=[]/\x.neg=true)\/Nat.gcd (aK x.num) (aK x.den)≠1 then 3 else 0) else mJ x.num x.den
open Classical in
def lJ (x:cf):Int:=if nH x=0 then(if x.neg=true then 2 else 0) else nH x
theorem FA{l:List Nat}(h:kg l):mH l=0:=aV h
theorem CJ{l:List Nat}(h:¬kg l):mH l=3:=aQ h
theorem Nc{l:List Nat}(h:mH l=0):kg l:=by
 apply jD
 intro q;rw[CJ q] at h;cases h
theorem Xv{l:List Nat}{i x:Nat}(aa:l[i]?=some x)(h:1000000000<=x):¬kg l:=fun q=>by
 have:=q.1 x (et aa)
 omega
theorem Xw{l:List Nat}{x:Nat}(aq:l.length≠0)(aa:l[l.length -1]?=some x)(h:x=0):¬kg l:=fun q=>q.2 x (by rw[rC];exact aa) h
theorem Lx{l:List Nat}(h:∀z∈l.take l.length,z<1000000000)(aq:l.length≠0->∃x,l[l.length -1]?=some x/\x≠0):kg l:=by
 rw[pM] at h
 refine⟨h,fun x aa=>?_⟩
 rw[rC] at aa
 by_cases q:l.length=0
 ·rw[oj q] at aa;cases aa
 ·obtain⟨y,ad,ae⟩:=aq q
  rw[ad] at aa;injection aa with aa;rw[<-aa];exact ae
theorem J2{α:Type}{P:α->Prop}{l:List α}{i:Nat}{x:α}(h:∀z∈l.take i,P z)(aa:l[i]?=some x)(aw:P x):∀z∈l.take (i+1),P z:=fun z aM=>by
 rw[lD,aa] at aM
 rcases nh.1 aM with q|q
 ·exact h z q
 ·rw[A2.1 q];exact aw
theorem acK{n d:List Nat}(h:mH n≠0):mJ n d=mH n:=by
 have ad:¬kg n:=fun q=>h (FA q)
 rw[CJ ad];exact aQ fun q=>ad q.1
theorem acJ{n d:List Nat}(h:mH d≠0):mJ n d=mH d:=by
 have ad:¬kg d:=fun q=>h (FA q)
 rw[CJ ad];exact aQ fun q=>ad q.2
theorem acI{n d:List Nat}(ad:mH n=0)(ae:mH d=0)(h:d.length=0):mJ n d=6:=by
 unfold mJ;rw[aV ⟨Nc ad,Nc ae⟩,aV (oj h)]
theorem acL{n d:List Nat}(ad:mH n=0)(ae:mH d=0)(h:d.length≠0):mJ n d=0:=by
 unfold mJ;rw[aV ⟨Nc ad,Nc ae⟩,aQ fun q=>h (by rw[q];rfl)]
theorem Un{n d:List Nat}(h:mJ n d=0):kg n/\kg d/\aK d≠0:=by
 unfold mJ at h
 split at h
 ·next ad=>
  split at h
  ·cases h
  ·next ae=>exact⟨ad.1,ad.2,fun q=>ae (Vg ad.2 q)⟩
 ·cases h
theorem Ux{x:cf}(h:mJ x.num x.den≠0):nH x=mJ x.num x.den:=aQ h
theorem C5{x:cf}(h:mJ x.num x.den=0)(ae:(x.num=[]/\x.neg=true)\/Nat.gcd (aK x.num) (aK x.den)≠1):nH x=3:=by unfold nH;rw[aV h,aV ae]
theorem NR{x:cf}(h:mJ x.num x.den=0)(ae:¬((x.num=[]/\x.neg=true)\/Nat.gcd (aK x.num) (aK x.den)≠1)):nH x=0:=by unfold nH;rw[aV h,aQ ae]
theorem atq{x:cf}(h:nH x=0):kg x.num/\kg x.den/\aK x.den≠0/\Nat.gcd (aK x.num) (aK x.den)=1:=by
 by_cases q:mJ x.num x.den=0
 ·obtain⟨ad,ae,aD⟩:=Un q
  refine⟨ad,ae,aD,jD fun e=>?_⟩
  rw[C5 q (.inr e)] at h;cases h
 ·rw[Ux q] at h;exact absurd h q
theorem QC{x:cf}(h:nH x≠0):lJ x=nH x:=aQ h
theorem QB{x:cf}(h:nH x=0)(aE:x.neg=true):lJ x=2:=by unfold lJ;rw[aV h,aV aE]
theorem XV{x:cf}(h:nH x=0)(aE:x.neg=false):lJ x=0:=by unfold lJ;rw[aV h,aQ (by rw[aE];exact Bool.false_ne_true)]
def cf.rt(x:cf):bx:=⟨(aK x.num:Int),aK x.den⟩
theorem sL{x:cf}(h:lJ x=0):x.neg=false/\x.num=ag (aK x.num)/\x.den=ag (aK x.den)/\x.rt.hG:=by
 by_cases q:nH x=0
 ·obtain⟨ad,ae,aD,a6⟩:=atq q
  refine⟨?_,qQ ad,qQ ae,tE aD,a6⟩
  cases aE:x.neg with
  |false=>rfl
  |true=>rw[QB q aE] at h;cases h
 ·rw[QC q] at h;exact absurd h q
end
end Go.Opn
