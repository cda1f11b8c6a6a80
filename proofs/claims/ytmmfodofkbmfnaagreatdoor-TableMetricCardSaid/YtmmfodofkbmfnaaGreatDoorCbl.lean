/- A part of the proof of TableMetric. -/
import Derived.Test.YtmmfodofkbmfnaaGreatDoorCbk
import Derived.Test.YtmmfodofkbmfnaaGreatDoorCbb
import Derived.Test.YtmmfodofkbmfnaaGreatDoorCbg
set_option maxRecDepth 100000
set_option maxHeartbeats 8000000
set_option linter.unusedVariables false
set_option linter.unusedSimpArgs false
namespace Go.Opn
noncomputable section
open Go.Cre Go.RowKit Go.Proofs
theorem rA.XC{J:an}{b:Option Addr}{n c:Nat}{l:List Int}(h:rA J (.slice b n c) l)(ao:0<l.length):∃a off cells e,b=some ⟨a,off,none⟩/\J a=some (cells,e)/\∀i:Nat,i<l.length->∃x,l[i]?=some x/\nth cells (off+i*1)=some (.int .i64 x):=by
 obtain⟨e,h⟩:=h;obtain⟨b',bo,U,_,_,aV⟩:=ew.inv h;injection U with br gq hW
 subst br;obtain⟨a,off,cells,e,a8,a5,bI⟩:=aV ao;refine⟨a,off,cells,e,a8,a5,fun i aq=>⟨l[i],fx aq,?_⟩⟩;rw[iE,bI i (by omega),mg,fx aq];rfl
theorem eK.XG{k:IntKind}{e:TypeId}{a n i x:Nat}{full:List Value}{rest:List Nat}{l:List Nat}(ay:full.take (n*1)=cj k l)(hk:n*1<=full.length)(aw:l.length=n):eK e 1 (.slice (some ⟨a,0,none⟩) n cf) n (cj k (l.set i x)) [(a,.opn (full.set i (.int k (x:Int))) e rest 0)]:=by
 have h:=eK.of (e:=e) (sz:=1) (k:=n) (a:=a) (full:=full.set i (.int k (x:Int))) (rest:=rest) (by rw[rB];exact hk);have ab:(full.set i (.int k (x:Int))).take (n*1)=cj k (l.set i x):=by
  rw[List.take_set,ay];unfold cj;rw[HW]
 rw[ab] at h;exact h
abbrev n7(mj:Nat)(hr:Option Addr)(kl:Nat)(l:List Int)(a:Nat):Nat×db:=(mj,.row [.slice hr l.length kl,.int .i64 (a:Int)] 25)
theorem No{ps:List Nat}{B:Nat}(h:∀p∈ps,p<=B):ps.sum<=B*ps.length:=by
 induction ps with
 |nil=>exact c9 _
 |cons a ps aN=>
  rw[ta,kY,Nat.mul_succ];have:=aN fun p ao=>h p (.tail _ ao);have:=h a (.head _);omega
theorem Y2(ps:List Nat)(x:Nat):(ps++[x]).sum=ps.sum+x:=by rw[List.sum_append];simp
section
variable {Q:eF Tryz.prog}{g0:Nat}{J:an}
theorem Wk{mj:Nat}{hr:Option Addr}{kl:Nat}{l:List Int}{a:Nat}{n:Int}(aw:rA J (.slice hr l.length kl) l)(mF:l.length<=9223372036854775807)(aK:a<=l.length)(aE:1<=n)(hm:n<=4611686018427387904):
 Fn (aS Q g0) 15 [.pointer (some ⟨mj,0,none⟩),.int .i64 n] [n7 mj hr kl l a] J (fun u m' ai=>J=ai/\∃(x:Int) (bA:Nat),u=.int .i64 x/\0<=x/\x<n/\bA<=l.length/\m'=[n7 mj hr kl l bA]):=by
 have XW:addrEq hr hr=true:=by obtain⟨e,h⟩:=aw;exact h.addr
 have Fl:=aw.XC;refine Fn.cH (cK Tryz.func15) rfl rfl fun H=>?_;refine rg ?_;refine I V.aI ?_;refine bU ?_;refine ma [0,1] ?_;refine aM ?_;refine' ad.nd 0 [(18,.bool (decide ((l.length<=a\/n<1))))] ?ts ?tw;case ts=>
  refine ad.Q' [] rfl (by kernel_rfl) (a6:=[.val 0,.val 1,.val 2,.val 3,.val 4,.val 5,.val 6,.val 7,.val 8,.val 9,.val 10,.val 11,.val 12,.val 13]) (by kernel_rfl) ?_;refine mh rfl V.aT ?_;refine mh rfl V.zv ?_;refine mh rfl V.cN ?_;refine mh rfl V.cP ?_;refine mh rfl V.aT ?_;refine mh rfl V.zv ?_;refine mh rfl V.cN ?_;refine mh rfl V.cP ?_;refine mh rfl V.h2 ?_;refine mh rfl V.bk ?_;refine mh rfl V.aT ?_;refine O5 15 (fun Sr=>?_) fun Sr=>?_
  ·refine Ij rfl ?_;refine Ij rfl ?_;refine mh rfl V.bx ?_;refine fe.nil ?_;exact ce
  ·refine Ii rfl V.aT ?_;refine Ii rfl V.bk ?_;refine mh rfl V.bx ?_;refine fe.nil ?_;exact ce
 case tw=>
  refine aM ?_;refine If (fun jh=>?_) fun jh=>?_
  ·refine rg ?_;refine I V.aI ?_;refine aJ ?_;refine ad.ret ?_;refine'⟨.inr rfl,rfl,_,_,.tmp rfl .nil,cl _,?_⟩;first
    |(have c:=e7
      exact⟨rfl,x % n,a+1,rfl,e7,lU,by omega,rfl⟩)
    |exact⟨rfl,0,a,rfl,Int.le_refl _,by omega,aK,rfl⟩
  ·obtain⟨c7,ol,Qk,el,rfl,abz,TQ⟩:=Fl (by omega);obtain⟨x,j,ib⟩:=TQ a (by omega);have ib:nth Qk (ol+((a:Int)).toNat*1)=some (.int .i64 x):=ib;have e7:=Int.emod_nonneg x (show n≠0 by omega);have lU:=Int.emod_lt_of_pos x (show 0<n by omega);refine lf ?_;refine aH ?_;refine I V.cP ?_;refine I V.bX ?_;refine aH ?_;refine fM ?_;refine aJ ?_;refine ad.draw rfl (by kernel_rfl) (a6:=[.val 0,.val 1,.val 2,.val 3,.val 4,.val 5,.val 6,.val 7,.val 8,.val 9,.val 10,.val 11,.bZ 12,.val 13]) (by kernel_rfl) ?_;refine fX ?_;refine bd rfl V.cP ?_;refine fX ?_;refine bd rfl V.cP ?_;refine bd rfl V.bX ?_;rw[show((a:Int)+1 -1)=(a:Int) by omega];refine bd rfl V.bw ?_;refine bd rfl V.cP ?_;refine bd rfl V.aT ?_;refine dl rfl (G:=LX (by omega) hm) (h:=?_);rintro v m' ai hle ⟨rfl,rfl,rfl⟩;refine bd rfl V.aI ?_;refine bR.nil ?_;refine aM ?_;refine ad.ret ?_;refine'⟨.inr rfl,rfl,_,_,.tmp rfl .nil,cl _,?_⟩;first
    |(have c:=e7
      exact⟨rfl,x % n,a+1,rfl,e7,lU,by omega,rfl⟩)
    |exact⟨rfl,0,a,rfl,Int.le_refl _,by omega,aK,rfl⟩
theorem WE{ps:List Nat}{d:Nat}{b:Option Addr}{c:Nat}(h:dx .i64 J (.slice b ps.length c) ps)(h':0<d)(ax:d<=1000)(ao:∀p∈ps,p<=1000)(aw:ps.length<=1000):
 Fn (aS Q g0) 16 [.int .i64 (d:Int),.slice b ps.length c] [] J (fun u m' ai=>J.le ai/\m'=[]/\∃b' bo,u=.slice b' ps.length bo/\eO ai 32 3 (gn ai) (.slice b' ps.length bo) (ps.map fun p:Nat=>a9 (p:Int) d)):=by
 have iW:=h.at;refine Fn.cH (cK Tryz.func16) rfl rfl fun H=>?_;refine rg ?_;refine I V.aI ?_;refine bg ?_;refine I V.aI ?_;refine bg ?_;refine I V.aI ?_;refine aJ ?_;refine ad.block ?_;refine' ad.eZ (l':=[(6,.int .i64 ((0):Int)),(5,(.slice none 0 0)),(0,_),(1,_)]) ⟨?lx,?fu,rfl,rfl,trivial⟩ (cl _) ?_;case lx=>first|exact cu|exact ak some (ak (Value.int .u64) (by omega))|exact ak some (ak (Value.int .i64) (by omega))
 case fu=>first|exact cu|exact ak some (ak (Value.int .u64) (by omega))|exact ak some (ak (Value.int .i64) (by omega))
 refine aM ?_;refine' ad.hN (fun(cT:Nat×(List Value)×Value×aU×an)=>match cT with|(i,cs,fu,bq,fT)=>⟨[(6,.int .i64 (i:Int)),(5,fu)],bq,fT,i<=ps.length/\J.le fT/\o0 3 (fun _=>gn fT) cs ((ps.map fun p:Nat=>a9 (p:Int) d).take i)/\Acc 32 3 fu i cs bq,ps.length -i⟩) ⟨0,[],.slice none 0 0,[],J⟩ ?ag ?b2
 case ag=>exact⟨fj _,an.le.refl _,⟨rfl,fun i x h=>(by cases h)⟩,.nil⟩
 case b2=>
  rintro⟨i,cs,fu,bq,fT⟩ hinv;try simp only at hinv
  obtain⟨aq,fP,j7,ez⟩:=hinv;refine rg ?_;refine aH ?_;refine I V.bk ?_;refine aJ ?_;refine If (fun dP=>?_) fun dP=>?_
  ·obtain⟨a,off,cells,bl,rfl,kL,kN⟩:=iW (by omega);obtain⟨p,qM,hf⟩:=kN i (by omega);have hf:nth cells (off+((i:Int)).toNat*1)=some (.int .i64 (p:Int)):=hf;have kL:=fP _ _ kL;have ue:=ao p (nZ qM);refine fJ ?_;refine aM ?_;refine ad.block ?_;refine rg ?_;refine aH ?_;refine I V.bw ?_;refine I V.ec ?_;refine I V.aT ?_;refine cm (G:=X2 (n:=p) (d:=d) (by omega) (by omega) h') (h:=?_);rintro v' m' bO hle ⟨a',rfl,fa,fh,rfl,cg⟩;have da:=cg;obtain⟨gp,e1,rfl,iO⟩:=cg.n.dJ;obtain⟨kG,hJ,rfl,nJ⟩:=cg.d.dJ;obtain⟨ed,KF⟩:∃n,n=(aj (a9 (p:Int) d).z.natAbs).length:=⟨_,rfl⟩;obtain⟨nF,T2⟩:∃n,n=(aj (a9 (p:Int) d).d).length:=⟨_,rfl⟩;rw[<-KF,<-T2] at da ⊢;refine jA (GR Q g0) fun Dk=>?_;refine' W.step rfl (.of (rr rfl rfl rfl rfl rfl rfl (GR Q g0) (Zr Q g0) (fun i q=>by cases q) ?ez ?hm ?j ?dQ ?dV ?aw fun N' LV Tg ab'=>?_));case ez=>exact ez
   case hm=>exact(Aw _ bq).symm
   case j=>exact wW
   case dQ=>first|rfl|(simp;done)|(simp;omega)
   case dV=>first|rfl|exact zf _
   case aw=>exact(show i+1<=1000000 by omega)
   refine I V.aI ?_;refine bU ?_;have b2:i+1<=ps.length/\J.le bO/\o0 3 (fun _=>gn bO) (cs++r2 (a9 (p:Int) d) (.slice gp ed e1) (.slice kG nF hJ)) ((ps.map fun p:Nat=>a9 (p:Int) d).take (i+1))/\Acc 32 3 N' (i+1) (cs++r2 (a9 (p:Int) d) (.slice gp ed e1) (.slice kG nF hJ)) LV:=⟨by omega,fP.trans a',by
        rw[xA,mg,qM];exact(j7.mono fun _ _ _ q=>q.mono a').app ⟨_,_,rfl,da⟩ rfl,Tg⟩
   refine rg ?_;refine I V.aT ?_;refine I V.bX ?_;refine I V.aI ?_;refine bU ?_;refine hO ⟨i+1,cs++r2 (a9 (p:Int) d) (.slice gp ed e1) (.slice kG nF hJ),N',LV,bO⟩ ?_ (hm:=vd _ _);exact b2
  ·obtain rfl:i=ps.length:=by omega
   refine Acc.pU ez (.of_eq (kW bq).symm) fun eL bW al=>?_;rw[show(ps.map fun p:Nat=>a9 (p:Int) d).take ps.length=ps.map fun p:Nat=>a9 (p:Int) d from jY (by rw[jw];exact c9 _)] at j7;obtain⟨lH,jB,rfl,_⟩:=al.inv;refine aM ?_;refine ad.exit ?_;refine rg ?_;refine aH ?_;refine aJ ?_;refine ad.ret ?_;refine'⟨.inr rfl,rfl,_,[],.tmp rfl .nil,b1 _,?_⟩;refine⟨fP.trans bW,rfl,lH,jB,rfl,cs,?_,fun aa x j=>(j7.2 aa x j).mono bW⟩;rw[jw];exact al
theorem WG{ps:List Nat}{d n:Nat}{b:Option Addr}{c:Nat}(aE:ps.length=n)(h:dx .i64 J (.slice b n c) ps)(h':0<d)(ax:d<=1000)(ao:∀p∈ps,p<=1000)(aw:ps.length<=1000):
 Fn (aS Q g0) 16 [.int .i64 (d:Int),.slice b n c] [] J (fun u m' ai=>J.le ai/\m'=[]/\∃b' bo,u=.slice b' n bo/\eO ai 32 3 (gn ai) (.slice b' n bo) (ps.map fun p:Nat=>a9 (p:Int) d)):=by
 subst aE;exact WE h h' ax ao aw
theorem GM{mj:Nat}{hr:Option Addr}{kl:Nat}{l:List Int}{a n:Nat}(aw:rA J (.slice hr l.length kl) l)(mF:l.length<=9223372036854775807)(aK:a<=l.length)(aE:1<=n)(hm:n<=10):
 Fn (aS Q g0) 5 [.pointer (some ⟨mj,0,none⟩),.int .i64 (n:Int)] [n7 mj hr kl l a] J (fun u m' ai=>J.le ai/\∃(bA:Nat) (ps:List Nat) (b':Option Addr) (bo:Nat),bA<=l.length/\m'=[n7 mj hr kl l bA]/\ps.length=n/\0<ps.sum/\ps.sum<=110/\u=.slice b' n bo/\eO ai 32 3 (gn ai) (.slice b' n bo) (ps.map fun p:Nat=>a9 (p:Int) ps.sum)):=by
 refine Fn.cH (cK Tryz.func5) rfl rfl fun H=>?_;refine rg ?_;refine I V.aI ?_;refine bg ?_;refine I V.aI ?_;refine bg ?_;refine I V.aI ?_;refine bg ?_;refine I V.aI ?_;refine aJ ?_;refine ad.block ?_;refine' ad.eZ (l':=[(7,.int .i64 ((0):Int)),(6,.int .i64 (([]).sum:Int)),(5,(.slice none 0 0)),(0,_),(1,_)]) ⟨?l9,?lx,?fu,rfl,rfl,trivial⟩ (cl _) ?_;case l9=>first|exact cu|exact ak some (ak (Value.int .u64) (by omega))|exact ak some (ak (Value.int .i64) (by omega))
 case lx=>first|exact cu|exact ak some (ak (Value.int .u64) (by omega))|exact ak some (ak (Value.int .i64) (by omega))
 case fu=>first|exact cu|exact ak some (ak (Value.int .u64) (by omega))|exact ak some (ak (Value.int .i64) (by omega))
 refine aM ?_;refine' ad.hN (fun(cT:Nat×(List Nat)×Value×aU×Nat)=>match cT with|(i,ps,fu,bq,tj)=>⟨[(7,.int .i64 (i:Int)),(6,.int .i64 (ps.sum:Int)),(5,fu)],bq++[n7 mj hr kl l tj],J,i<=n/\ps.length=i/\(∀p∈ps,p<=11)/\tj<=l.length/\eK 3 1 fu i (cj .i64 ps) bq,n -i⟩) ⟨0,[],.slice none 0 0,[],a⟩ ?ag ?b2
 case ag=>exact⟨fj _,rfl,fun p ao=>(by cases ao),aK,.inl ⟨.nil,CY,Cc⟩⟩
 case b2=>
  rintro⟨i,ps,fu,bq,tj⟩ hinv;try simp only at hinv
  obtain⟨aq,dO,ue,Kb,ez⟩:=hinv;refine rg ?_;refine aH ?_;refine I V.bk ?_;refine aJ ?_;refine If (fun dP=>?_) fun dP=>?_
  ·refine aM ?_;refine ad.skip ?_;refine aM ?_;refine ad.block ?_;refine rg ?_;refine aH ?_;refine' W.step rfl (Exec.call rfl rfl rfl rfl rfl rfl rfl (ck:=[n7 mj hr kl l tj]) (e8:=bq) HY trivial (Wk (n:=12) aw mF Kb (by decide) (by decide)) ?_);rintro v' m' ai hle ⟨rfl,Oe,jy,rfl,e7,lU,Td,rfl⟩;obtain⟨x,rfl⟩:∃x:Nat,Oe=(x:Int):=⟨Oe.toNat,by omega⟩;refine jA (M4 Q g0) fun aaM=>?_;refine' W.step rfl (.of (Og rfl rfl rfl rfl rfl rfl (M4 Q g0) (Zq Q g0) (fun i q=>by cases q) ?ez ?hm ?j ?dQ ?dV ?aX ?aw fun acZ acw EK=>?_));case ez=>exact ez
   case hm=>exact HY (l₁:=[_,_])
   case j=>exact wW
   case dQ=>first|rfl|(simp;done)|(simp;omega)
   case dV=>first|rfl|exact zf _
   case aX=>exact Nat.one_pos
   case aw=>exact(show i+1<=1000000 by omega)
   obtain⟨cO,full,rest,rfl,rfl,gU,Bt⟩:=EK.row (Nat.succ_pos i);have Tm:cj .i64 ps++[.int .i64 (x:Int)]=cj .i64 (ps++[x]):=(zC (b:=[x])).symm;rw[Tm] at gU EK;have FB:=No ue;have KE:nth full (0+((i:Int)).toNat*1)=some (.int .i64 (x:Int)):=by
    rw[Gn (i:=0+((i:Int)).toNat*1) gU (by omega)];exact ux (i:=i) (by rw[OL (by omega),dO,AE];rfl) (by omega)
   refine I V.aI ?_;refine bg ?_;refine aH ?_;refine I V.bw ?_;refine I V.cP ?_;refine I V.bX ?_;refine I V.aI ?_;refine bU ?_;rw[show(ps.sum:Int)+(x:Int)=((ps++[x]).sum:Int) by rw[Y2];omega];have b2:i+1<=n/\(ps++[x]).length=i+1/\(∀p∈ps++[x],p<=11)/\jy<=l.length/\eK 3 1 (.slice (some ⟨cO,0,none⟩) (i+1) cf) (i+1) (cj .i64 (ps++[x])) [(cO,.opn full 3 rest 0)]:=⟨by omega,by rw[hP,dO];rfl,fun p ao=>by
        rcases m3.1 ao with q|q
        ·exact ue p q
        ·rw[Au.1 q];omega,Td,EK⟩
   refine rg ?_;refine I V.aT ?_;refine I V.bX ?_;refine I V.aI ?_;refine bU ?_;refine hO ⟨i+1,ps++[x],.slice (some ⟨cO,0,none⟩) (i+1) cf,[(cO,.opn full 3 rest 0)],jy⟩ ?_ (hm:=.cons_cons _ (.cons _ (.refl _)));exact b2
  ·obtain rfl:i=n:=by omega
   have FB:=No ue;obtain⟨cO,full,rest,rfl,rfl,gU,Bt⟩:=ez.row aE;refine aM ?_;refine ad.exit ?_;refine rg ?_;refine I V.aT ?_;refine I V.bk ?_;refine bU ?_;refine ma [6,25,5] ?_;refine aM ?_;refine' ad.I7 (α:=(List Nat)×(List Value)×(List Nat)) 2 (fun(cT:(List Nat)×(List Value)×(List Nat))=>match cT with|(bb,vG,uL)=>[(6,.int .i64 (bb.sum:Int))]) (fun(cT:(List Nat)×(List Value)×(List Nat))=>match cT with|(bb,vG,uL)=>(cO,.opn vG 3 uL 0)::[n7 mj hr kl l tj]) (fun(cT:(List Nat)×(List Value)×(List Nat))=>match cT with|(bb,vG,uL)=>J) (fun(cT:(List Nat)×(List Value)×(List Nat))=>match cT with|(bb,vG,uL)=>bb.length=i/\0<bb.sum/\bb.sum<=110/\(∀p∈bb,p<=1000)/\eK 3 1 (.slice (some ⟨cO,0,none⟩) i cf) i (cj .i64 bb) [(cO,.opn vG 3 uL 0)]) ?DN ?DU
   case DN=>
    refine If (fun qq=>?_) fun qq=>?_
    ·have a2:ps.sum=0:=by omega
     have aA:(ps.set 0 1).sum=1:=by
        cases ps with
        |nil=>rw[<-dO] at aE;cases aE
        |cons z fc=>
         rw[ta] at a2;show(1::fc).sum=1;rw[ta];omega
     have wi:(ps.set 0 1).length=i/\0<(ps.set 0 1).sum/\(ps.set 0 1).sum<=110/\(∀p∈ps.set 0 1,p<=1000)/\eK 3 1 (.slice (some ⟨cO,0,none⟩) i cf) i (cj .i64 (ps.set 0 1)) [(cO,.opn (full.set 0 (.int .i64 1)) 3 [] 0)]:=by
        refine⟨by rw[rB];exact dO,by omega,by omega,fun p ao=>?_,eK.XG gU Bt dO⟩;have:=wI ao;omega
     refine rg ?_;refine I V.aT ?_;refine I V.bw ?_;refine' W.step rfl (.of (Hm rfl rfl rfl rfl (lq rfl) rfl rfl rfl ?U ?ag ?a0 ?ao ?_));case ao=>exact .refl _
     case ag=>exact Nh (by omega)
     case U=>first|rfl|assumption
     case a0=>exact fj _
     refine I V.aI ?_;refine bU ?_;refine'⟨⟨ps.set 0 1,full.set 0 (.int .i64 1),[]⟩,_,?hinv,rfl,⟨?sy,rfl,trivial⟩,BZ,rfl⟩;case sy=>first|exact cu|exact ak some (ak (Value.int .u64) (by omega))|exact ak some (ak (Value.int .i64) (by omega))
     case hinv=>
      first
          |exact⟨dO,by omega,by omega,fun p ao=>by have:=ue p ao;omega,ez⟩
          |exact wi
    ·refine aM ?_;refine ad.skip ?_;refine'⟨⟨ps,full,rest⟩,_,?hinv,rfl,⟨?sy,rfl,trivial⟩,BZ,rfl⟩;case sy=>first|exact cu|exact ak some (ak (Value.int .u64) (by omega))|exact ak some (ak (Value.int .i64) (by omega))
     case hinv=>
      first
          |exact⟨dO,by omega,by omega,fun p ao=>by have:=ue p ao;omega,ez⟩
          |exact wi
   case DU=>
    rintro⟨bb,vG,uL⟩ hinv;try simp only at hinv
    obtain⟨KU,KR,wb,KS,Ud⟩:=hinv;refine eK.pU (dK:=[n7 mj hr kl l tj]) Ud (.refl _) fun hG dc al=>?_;have Uc:dx .i64 hG (.slice (some ⟨cO,0,none⟩) i cf) bb:=al.num;refine rg ?_;refine aH ?_;refine cm (G:=WG KU Uc KR (by omega) KS (by omega)) (h:=?_);rintro v' m' kc hle ⟨dz,rfl,lH,jB,rfl,jl⟩;refine I V.aI ?_;refine aJ ?_;refine ad.ret ?_;refine'⟨.inr rfl,rfl,_,_,.tmp rfl .nil,cl _,⟨dc.trans dz,tj,bb,lH,jB,Kb,rfl,KU,KR,wb,rfl,jl⟩⟩
end
section
variable {K:di}{B:c6}{ops:List Oper}{a6:List g9}{F:List oW}{E:bK}{m m':aU}{J:an}{o:Oper}{bt:bK->aU->an->Prop}
variable {n:Nat}{ds:dL}{l:List (Nat×Value)}{d i:Nat}
theorem bh.nO{v:Value}{tH:Nat}(aq:nth ops i=some o)(ar:jF ops o=some (tH,true))(af:look l tH=some (.bool true))(ax:o.dst=some d)(aE:Nat.blt d n=true)(aD:ch K B o n ds l m J v)(h:bh K B ops a6 F ⟨n,ds,(d,v)::l⟩ m J bt):bh K B ops (.val i::a6) F ⟨n,ds,l⟩ m J bt:=by
 intro T S H cw al au;obtain⟨aY,s1,s2⟩:=al.put (dst:=some d) aE v;obtain⟨bx,dG,aB,H',cy,m',ai,U,ab,aV,br⟩:=h T aY H cw s2 au;refine⟨bx,dG,aB,H',cy,m',ai,fun fq q=>?_,ab,aV,br⟩;show iv ops i (kA K.P _ _ ops S H (dt K.P _ _ ops a6))=_;unfold iv;rw[aq];show kA K.P _ _ ops S H (dt K.P _ _ ops a6) o=_;unfold kA;rw[vI ar (al.get tH _ af)];show xd S H o.dst (dt K.P _ _ ops a6) (cc K.P _ _ S H o)=_;rw[aD _ _ S H al au,ax];show(bif Nat.beq H.av H.av then l7 (dt K.P _ _ ops a6) H (S.put (some d) v) else none)=_;rw[ga,bH,s1];exact U fq q
theorem bh.rS{c:Call}{x:Operand}{f:FuncId}{first cap:Array Value}{tH:Nat}{args aH:List Value}{er:Value->aU->an->Prop}
 (aq:nth ops i=some o)(ar:jF ops o=some (tH,true))(af:look l tH=some (.bool true))(ae:o.op=.call c)(ax:o.dst=some d)(aE:Nat.blt d n=true)(aF:c.callee=.value x)(j:bB l x=some (.func (.func f) first cap))(aK:hz l c.args.toList=some args)(has:(first.toList++args)++cap.toList=aH)
 (ag:∀x∈F,s3 J f aH er x)(cg:Fn K f aH [] J er)(h:∀v m' ai,J.le ai->er v m' ai->bh K B ops a6 (⟨f,aH,[],J,er,false⟩::F) ⟨n,ds,(d,v)::l⟩ (m'++m) ai bt):bh K B ops (.bZ i::a6) F ⟨n,ds,l⟩ m J bt:=by
 intro T S H cw al au;have ao:([]++m).Perm m:=.refl _;have jl:=au.enter (ck:=[]) ao trivial;obtain⟨v,H',ai,m',a8,a5,bI,pG⟩:∃v H' ai m',iA K.Q f aH H (.returned v) H'/\Inv K.g0 (iZ [] H J) ai m' H'/\er v m' ai/\∀r,T f aH H=some r->r=(Ending.returned v,H'):=by
  cases tM:T f aH H with
  |none=>
   obtain⟨v,H',ai,m',a8,a5,bI⟩:=cg H jl;exact⟨v,H',ai,m',a8,a5,bI,fun r q=>by cases q⟩
  |some r=>
   obtain⟨x,j,⟨aA,aW,S0,v,H',bO,m',k3,a8,a5,bI⟩,j9⟩:=cw _ _ _ _ tM;obtain⟨aQ,aP,bC⟩:=ag x j aA aW;rw[aQ] at a5;obtain⟨FV,FW⟩:=jl.Lj aP a5;exact⟨v,H',_,m',a8,FV,bC v m' bO _ bI FW an.join_le,fun cA q=>by injection q with q;rw[<-q];exact k3⟩
 have ib:H.av<=H'.av:=a5.av;obtain⟨cL,gy⟩:=au.leave ao a5;obtain⟨aY,s1,s2⟩:=al.put (dst:=some d) aE v
 classical
 obtain⟨bx,dG,aB,o1,cy,q2,p9,U,ab,aV,br⟩:=h v m' ai gy bI (fun cd tl H1=>if cd=f/\tl=aH/\H1=H then some (.returned v,H') else T cd tl H1) aY H' (fun cd tl H1 r q=>by
  split at q
  ·rename_i e;obtain⟨rfl,rfl,rfl⟩:=e;injection q with q
   exact⟨_,.head _,⟨rfl,rfl,jl,v,H',ai,m',q.symm,a8,a5,bI⟩,fun e=>by cases e⟩
  ·obtain⟨x,j,cA,qK⟩:=cw _ _ _ _ q;exact⟨x,.tail _ j,cA,fun e=>jZ (qK e) ib⟩) s2 cL
 refine⟨fun cd bJ H1=>if cd=f/\bJ=aH/\H1=H then some (.returned v,H') else bx cd bJ H1,fun cd bJ H1 r cA aQ aP=>?_,aB,o1,cy,q2,p9,fun fq q=>?_,ab,aV,br⟩
 ·dsimp only at aP
  split at aP
  ·rename_i e;obtain⟨rfl,rfl,rfl⟩:=e;injection aP with aP
   rw[pG r aQ,aP]
  ·rename_i e;exact dG cd bJ H1 r cA (by rw[a1 e];exact aQ) aP
 ·have gG:fq f aH H=some (.returned v,H'):=q f aH H _ (by simp only[and_self,bs]);have yZ:∀cd bJ H1 r,bx cd bJ H1=some r->fq cd bJ H1=some r:=fun cd bJ H1 r ap=>by
   by_cases e:cd=f/\bJ=aH/\H1=H
   ·have:=dG cd bJ H1 (.returned v,H') r (by rw[bs e]) ap;rw[this,e.1,e.2.1,e.2.2];exact gG
   ·exact q cd bJ H1 r (by dsimp only;rw[a1 e];exact ap)
  show iv ops i (fun o=>j1 (dt K.P _ _ ops a6) (one K.P _ _ ops S H o))=_;unfold iv;rw[aq];show j1 (dt K.P _ _ ops a6) (one K.P _ _ ops S H o)=_;unfold one;rw[vI ar (al.get tH _ af)];show j1 (dt K.P _ _ ops a6) (mR S H o.dst (cc K.P _ _ S H o))=_;have he:cc K.P (hs K.Q fq) (gl K.Q hB fq).az S H o=some (.val v H'):=by
   unfold cc eh;simp only[ae];show js K.P _ c=_;unfold js;rw[aF];show ms K.P _ _ S.T H c=_;unfold ms;rw[mq al H aK];simp only[aF];rw[cX al H j];simp only
   show(match ji K.P H (.func f) (first.toList++args) cap.toList with|some (f,aH)=>ng (hs K.Q _ f aH H)|none=>none)=_
   unfold ji;simp only
   rw[has,AT a8 gG];rfl
  rw[he,ax];show j1 (dt K.P _ _ ops a6) (mV H' (S.put (some d) v))=_;rw[s1];exact U fq yZ
end
theorem wG{x:Nat}(h:x<1000000000):(aj x).length<=1:=nB (by rw[Dd];exact h)
theorem Mb{z w:Int}{d e:Nat}(ax:0<d)(he:0<e):(a9 z d).z*(a9 w e).d<=(a9 w e).z*(a9 z d).d↔z*e<=w*d:=by
 obtain⟨g,ht,q,ar,_,rfl,rfl,_,aE,_⟩:=uw (z:=z) ax;obtain⟨h,bl,r,cF,_,rfl,rfl,_,hm,_⟩:=uw (z:=w) he;rw[aE,hm];show q*bl<=r*ht↔_;have aA:(g:Int)*q*((h*bl:Nat):Int)=((g*h:Nat):Int)*(q*bl):=by
  rw[gw,gw];ac_rfl
 have aW:(h:Int)*r*((g*ht:Nat):Int)=((g*h:Nat):Int)*(r*ht):=by
  rw[gw,gw];ac_rfl
 rw[aA,aW];have ao:(0:Int)<((g*h:Nat):Int):=by
  have:=gm ar cF;omega
 exact⟨fun k=>Int.mul_le_mul_of_nonneg_left k (Ao ao),fun k=>Int.le_of_mul_le_mul_left k ao⟩
theorem VT{ps bb:List Nat}{s u:Nat}(ag:0<s)(hu:0<u)(ao:ps.sum=s)(bY:bb.sum=u):oT ((a9 (c8 s u ps bb:Int) (s*u*2)).z*((1:Nat):Int) -((1:Nat):Int)*(a9 (c8 s u ps bb:Int) (s*u*2)).d)<=0:=by
 have eb:0<s*u*2:=gm (gm ag hu) (by decide);have U:a9 ((1:Nat):Int) 1=(⟨((1:Nat):Int),1⟩:cv):=Ck (r:=⟨((1:Nat):Int),1⟩) ⟨by decide,by decide⟩;have ab:=(Mb (z:=(c8 s u ps bb:Int)) (w:=((1:Nat):Int)) eb Nat.one_pos).2 (by
  have:=z5 (sa:=s) (bQ:=u) (ps:=ps) (bb:=bb);rw[ao,bY,lD u s] at this;omega)
 rw[U] at ab;have ab:(a9 (c8 s u ps bb:Int) (s*u*2)).z*((1:Nat):Int)<=((1:Nat):Int)*(a9 (c8 s u ps bb:Int) (s*u*2)).d:=ab;rw[M9];omega
theorem VU{ps bb rs:List Nat}{s u v:Nat}(ag:0<s)(hu:0<u)(aD:0<v)(U:ps.length=bb.length)(ab:bb.length=rs.length){a b c P:cv}(aK:a=a9 (c8 s u ps bb:Int) (s*u*2))(af:b=a9 (c8 u v bb rs:Int) (u*v*2))(aF:c=a9 (c8 s v ps rs:Int) (s*v*2))(dN:P=a9 (a.z*b.d+b.z*a.d) (a.d*b.d)):oT (c.z*P.d -P.z*c.d)<=0:=by
 have JX:0<s*u*2:=gm (gm ag hu) (by decide);have ym:0<u*v*2:=gm (gm hu aD) (by decide);have SQ:0<s*v*2:=gm (gm ag aD) (by decide);have aG:=N4 (sa:=s) (bQ:=u) (sc:=v) U ab;have yv:P=a9 ((c8 s u ps bb:Int)*((u*v*2:Nat):Int)+(c8 u v bb rs:Int)*((s*u*2:Nat):Int)) (s*u*2*(u*v*2)):=by
  rw[dN,aK,af];exact Gl JX ym
 generalize c8 s u ps bb=A at*;generalize c8 u v bb rs=B at*;generalize c8 s v ps rs=C at*;have hk:=(Mb (z:=(C:Int)) (w:=(A:Int)*((u*v*2:Nat):Int)+(B:Int)*((s*u*2:Nat):Int)) SQ (gm JX ym)).2 (by
  have aA:(C:Int)*((s*u*2*(u*v*2):Nat):Int)=((C*u*(4*s*u*v):Nat):Int):=by
   rw[<-gw];congr 1;rw[show s*u*2*(u*v*2)=u*(4*s*u*v) by
    rw[show(4:Nat)=2*2 from rfl];ac_rfl,<-rG]
  have aW:((A:Int)*((u*v*2:Nat):Int)+(B:Int)*((s*u*2:Nat):Int))*((s*v*2:Nat):Int)=(((A*v+B*s)*(4*s*u*v):Nat):Int):=by
   rw[<-gw,<-gw,<-Ap,<-gw];congr 1;rw[hH,hH];congr 1
   ·rw[show(4:Nat)=2*2 from rfl];ac_rfl
   ·rw[show(4:Nat)=2*2 from rfl];ac_rfl
  rw[aA,aW];exact Int.ofNat_le.2 (kf _ aG))
 rw[<-aF,<-yv] at hk;rw[M9];omega
theorem VV{ps bb:List Nat}{s u:Nat}(ag:0<s)(hu:0<u)(aw:ps.length=bb.length):(a9 (c8 s u ps bb:Int) (s*u*2)).z=0↔(ps.map fun p:Nat=>a9 (p:Int) s)=bb.map fun p:Nat=>a9 (p:Int) u:=by
 have eb:0<s*u*2:=gm (gm ag hu) (by decide);rw[(zB eb).2.2];have a2:((c8 s u ps bb:Nat):Int)=0↔c8 s u ps bb=0:=by omega
 rw[a2,N5 aw];constructor
 ·intro h;refine List.ext_getElem (by rw[jw,jw,aw]) fun i i1 i2=>?_;rw[jw] at i1 i2;rw[List.getElem_map,List.getElem_map,zA ag hu];have:=h i _ _ (fx i1) (fx i2);rw[<-gw,<-gw,this]
 ·intro h i p q ao bY;have e:(ps.map fun p:Nat=>a9 (p:Int) s)[i]?=(bb.map fun p:Nat=>a9 (p:Int) u)[i]?:=by rw[h]
  rw[mg,mg,ao,bY] at e;injection e with e
  have:=(zA ag hu).1 e;rw[<-gw,<-gw] at this;omega
theorem VS{ps bb:List Nat}{s u:Nat}:a9 (c8 s u ps bb:Int) (s*u*2)=a9 (c8 u s bb ps:Int) (u*s*2):=by rw[N2,lD s u]
structure td (A:cv):Prop where
 d0:0<A.d
 Wp:¬A.z<0
 iG:A.fi
 eJ:(aj A.z.natAbs).length<=1
 ei:(aj A.d).length<=1
theorem Ga(ps bb:List Nat){A:cv}(ag:0<ps.sum)(lT:ps.sum<=110)(hu:0<bb.sum)(nx:bb.sum<=110)(e3:A=a9 (c8 ps.sum bb.sum ps bb:Int) (ps.sum*bb.sum*2)):td A:=by
 have eb:0<ps.sum*bb.sum*2:=gm (gm ag hu) (by decide);have Bh:ps.sum*bb.sum<=12100:=ej (rH lT nx) (by decide);have aD:=z5 (sa:=ps.sum) (bQ:=bb.sum) (ps:=ps) (bb:=bb);rw[lD bb.sum ps.sum] at aD;obtain⟨fa,fh⟩:=oH (X:=(c8 ps.sum bb.sum ps bb:Int)) (B:=60000) eb (by omega) (by omega);have aF:=jN (z:=(c8 ps.sum bb.sum ps bb:Int)) eb;rw[<-e3] at fa fh aF;exact⟨aF.1,by rw[e3];exact pM eb,aF,wG (by omega),wG (by omega)⟩
theorem VI{A C D:cv}(j3:td A)(nj:td C)(vB:td D):∀r∈[A,C,D],r.fi/\(aj r.z.natAbs).length<=100/\(aj r.d).length<=100:=fun r ap=>by
 have h:∀{A:cv},td A->A.fi/\(aj A.z.natAbs).length<=100/\(aj A.d).length<=100:=fun f=>⟨f.iG,ej f.eJ (by decide),ej f.ei (by decide)⟩;rcases fy.1 ap with rfl|ap
 ·exact h j3
 rcases fy.1 ap with rfl|ap
 ·exact h nj
 ·rw[Au.1 ap];exact h vB
theorem Yh{ps:List Nat}(ag:0<ps.sum)(lT:ps.sum<=110):∀r∈ps.map fun p:Nat=>a9 (p:Int) ps.sum,(aj r.z.natAbs).length<=100/\(aj r.d).length<=100:=fun r ap=>by
 obtain⟨p,ao,rfl⟩:=s'.1 ap;have U:=wI ao;obtain⟨fa,fh⟩:=oH (X:=(p:Int)) (B:=110) ag (by omega) lT;exact⟨ej (wG (by omega)) (by decide),ej (wG (by omega)) (by decide)⟩
theorem Xx{A C P:cv}(j3:td A)(nj:td C)(dN:P=a9 (A.z*C.d+C.z*A.d) (A.d*C.d)):0<P.d/\(aj P.z.natAbs).length<=10/\(aj P.d).length<=10:=by
 have eb:=gm j3.d0 nj.d0;have U:=Gm (z:=A.z*C.d+C.z*A.d) eb;rw[<-dN] at U;have ab:(A.z*(C.d:Int)+C.z*(A.d:Int)).natAbs<=A.z.natAbs*C.d+C.z.natAbs*A.d:=by
  have:=HJ (A.z*(C.d:Int)) (C.z*(A.d:Int));rwa [iC,iC,iD,iD] at this
 refine⟨by rw[dN];exact(jN eb).1,?_,?_⟩
 ·exact ej (q0 (ej U.1 ab)) (ej (Ly (wF j3.eJ nj.ei) (wF nj.eJ j3.ei)) (by decide))
 ·exact ej (q0 U.2) (ej (wF j3.ei nj.ei) (by decide))
theorem ho.sX{J ai:an}{r s:cv}{v1 v2 bc b6:Value}(h:ho J r v1 v2)(fO:ho ai s bc b6)(hle:J.le ai)(e:dF r v1 v2=dF s bc b6):r=s:=by
 injection e with e
 have e:[Value.bool (decide (r.z<0)),v1,v2]=[.bool (decide (s.z<0)),bc,b6]:=ak Array.toList e;injection e with h7 e
 injection e with aA e
 injection e with aW e
 injection h7 with h7
 have a8:=h.n.uU fO.n hle aA;have a5:=h.d.uU fO.d hle aW;have bI:=mo.1 h7;exact cv.D9 (by omega) a5
end
end Go.Opn
