/- A part of the proof of TableClose. -/
import Derived.Test.YtpahonhejmlnpaaGreatDoorCbp
import Derived.Test.YtpahonhejmlnpaaGreatDoorCaq
import Derived.Test.YtpahonhejmlnpaaGreatDoorProg
import Derived.KernelRfl
import Derived.Test.YtpahonhejmlnpaaGreatDoorCax
import Derived.Test.YtpahonhejmlnpaaGreatDoorCay
import Derived.Conc.Holds
import Derived.SevenTiedAt
import Derived.Test.YtpahonhejmlnpaaGreatDoorCards
import Derived.Test.YtpahonhejmlnpaaGreatDoorTie
import Derived.WalkKit
import Derived.ProofKit
import Derived.OpenShut
import Derived.Deep.DeepHandedRow
import Derived.Lib.LaidTab
import Derived.LaidHandle
import Derived.LaidMore
import Derived.Stop.LaidErr
import Derived.Carry
set_option linter.unusedVariables false
namespace Go.Opn
noncomputable section
open Go.Cre Go.RowKit Go.Proofs
theorem kD{x:Nat}(h:x<1000000000):(ap x).length<=1:=l9 (by rw[Fw];exact h)
theorem aaO{z w:Int}{d e:Nat}(au:0<d)(he:0<e):(aV z d).z*(aV w e).d<=(aV w e).z*(aV z d).d↔z*e<=w*d:=by
 obtain⟨g,ih,q,aq,_,rfl,rfl,_,aw,_⟩:=rT (z:=z) au;obtain⟨h,bk,r,cS,_,rfl,rfl,_,hm,_⟩:=rT (z:=w) he;rw[aw,hm];show q*bk<=r*ih↔_;have aC:(g:Int)*q*((h*bk:Nat):Int)=((g*h:Nat):Int)*(q*bk):=by
  rw[gZ,gZ];ac_rfl
 have aZ:(h:Int)*r*((g*ih:Nat):Int)=((g*h:Nat):Int)*(r*ih):=by
  rw[gZ,gZ];ac_rfl
 rw[aC,aZ];have ao:(0:Int)<((g*h:Nat):Int):=by
  have:=hV aq cS;omega
 exact⟨fun k=>Int.mul_le_mul_of_nonneg_left k (Ce ao),fun k=>Int.le_of_mul_le_mul_left k ao⟩
theorem QW{z:Int}:rZ z<0↔z<0:=by unfold rZ;split<;>(try split)<;>omega
theorem aa5{X s x:Nat}(af:0<s):aV ((aV (X:Int) s).z*((1:Nat):Int)+(-(x:Int))*((aV (X:Int) s).d:Int)) ((aV (X:Int) s).d*1)=aV ((X:Int) -((x*s:Nat):Int)) s:=by
 have aa:aV (-(x:Int)) 1=(⟨-(x:Int),1⟩:cH):=Bp (r:=⟨-(x:Int),1⟩) ⟨Nat.one_pos,Lg _⟩;have ab:=I7 (X:=(X:Int)) (Y:=-(x:Int)) af Nat.one_pos;rw[aa] at ab;have ab:aV ((aV (X:Int) s).z*((1:Nat):Int)+(-(x:Int))*((aV (X:Int) s).d:Int)) ((aV (X:Int) s).d*1)=aV ((X:Int)*((1:Nat):Int)+-(x:Int)*(s:Int)) (s*1):=ab;rw[ab,iZ];congr 1
 rw[gZ,za];omega
theorem aa6{W:Int}{s:Nat}(af:0<s)(h:W.natAbs<s):rZ (((aV W s).z.natAbs:Int)*((1:Nat):Int) -(1:Int)*((aV W s).d:Int))<0:=by
 rw[QW];have aa:=aj Int.natAbs (qo (z:=W) af);rw[jo,jo,g8,g8] at aa;have au:=(h8 (z:=W) af).1;have ab:(aV W s).z.natAbs<(aV W s).d:=by
  refine Ll (a:=s) ?_;rw[aa,j4 (aV W s).d s];exact Lp h au
 omega
theorem UK{X s:Nat}(af:0<s)(h:(aV (X:Int) s).d=1):s ∣ X:=by
 have aa:=qo (z:=(X:Int)) af;rw[h] at aa;have aa:(aV (X:Int) s).z*(s:Int)=(X:Int)*1:=aa;rw[Fb] at aa;exact Sn.1 ⟨(aV (X:Int) s).z,by rw[lv];exact aa.symm⟩
theorem aa7{X s x:Nat}(af:0<s)(h:X=x*s):(aV ((X:Int) -((x*s:Nat):Int)) s).z=0:=(Bq af).2.2.2 (by rw[h];omega)
theorem RR{s M:Nat}:∀{ps vs:List Nat},ps.length=vs.length->(∀(i p v:Nat),ps[i]?=some p->vs[i]?=some v->((p:Int)*M -(v:Int)*s).natAbs<s)->eR s M ps vs+ps.length<=ps.length*s
 |[],[],_,_=>by simp[eR]
 |[],_::_,h,_=>by cases h
 |_::_,[],h,_=>by cases h
 |p::ps,v::vs,h,ah=>by
  have aa:=ah 0 p v rfl rfl;have aP:=RR (s:=s) (M:=M) (ps:=ps) (vs:=vs) (by simpa using h) (fun i gg v' a9 a4=>ah (i+1) gg v' a9 a4);show((p:Int)*M -(v:Int)*s).natAbs+eR s M ps vs+(ps.length+1)<=(ps.length+1)*s;rw[iC,w8];omega
theorem Uk{ps vs:List Nat}{s M n:Nat}(af:0<s)(iG:0<M)(aw:ps.length=n)(fR:1<=n)(hlen:ps.length=vs.length)(ah:∀(i p v:Nat),ps[i]?=some p->vs[i]?=some v->((p:Int)*M -(v:Int)*s).natAbs<s):
 rZ ((aV (eR s M ps vs:Int) (s*M*2)).z*((aV (n:Int) M).d:Int) -(aV (n:Int) M).z*((aV (eR s M ps vs:Int) (s*M*2)).d:Int))<0:=by
 rw[QW];have er:0<s*M*2:=hV (hV af iG) (by decide);have ay:=RR hlen ah;rw[aw] at ay;have hk:¬(n:Int)*((s*M*2:Nat):Int)<=(eR s M ps vs:Int)*(M:Int):=fun q=>by
  have q:n*(s*M*2)<=eR s M ps vs*M:=by
   rw[<-gZ,<-gZ] at q;exact Int.ofNat_le.1 q
  have aa:eR s M ps vs*M<n*s*M:=Lp (by omega) iG;have ab:n*(s*M*2)=n*s*M*2:=by rw[nU,nU,nU]
  omega
 have:=mt (aaO (z:=(n:Int)) (w:=(eR s M ps vs:Int)) iG er).1 hk;omega
theorem Ml{ps vs:List Nat}{s M:Nat}(af:0<s)(h:FA ps s M vs){i p v:Nat}(aa:ps[i]?=some p)(ab:vs[i]?=some v):(((p*M:Nat):Int) -((v*s:Nat):Int)).natAbs<s:=by
 obtain⟨a9,a4,_,_⟩:=QC af h aa ab;omega
end
end Go.Opn
set_option maxRecDepth 100000
set_option maxHeartbeats 8000000
set_option linter.unusedSimpArgs false
namespace Go.Opn
noncomputable section
open Go.Cre Go.RowKit Go.Proofs
abbrev SW(v:Value)(J:an):Value->aU->an->Prop:=fun w m' ae=>w=v/\m'=[]/\ae=J
theorem IB{a b:Int}(h:[Value.int .i64 a]=[.int .i64 b]):a=b:=by
 injection h with h;injection h
theorem iD.abs{J:an}{r:cH}{v1 v2:Value}(h:iD J r v1 v2):iD J ⟨(r.z.natAbs:Int),r.d⟩ v1 v2:=⟨by show dW J v1 ((r.z.natAbs:Int)).natAbs;rw[g8];exact h.n,h.d⟩
section
variable {Q:ek Tryz.prog}{g0:Nat}{J:an}
theorem To{ps cI:List Nat}{s u n:Nat}{b b':Option Addr}{c bw:Nat}{e:TypeId}(b6:J 2=some (ca .u8 jI,e))(aq:Nat.blt 2 (aO Q g0).g0=true)(h:fA J 35 3 (ic J) (.slice b n c) (ps.map fun p:Nat=>aV (p:Int) s))(gB:fA J 35 3 (ic J) (.slice b' n bw) (cI.map fun p:Nat=>aV (p:Int) u))(eb:ps.length=n)(e':cI.length=n)(fR:1<=n)(fZ:n<=10)(af:0<s)(kf:s<=4096)(ao:ps.sum=s)(hu:0<u)(rH:u<=4096)(cc:cI.sum=u):
 Fn (aO Q g0) 16 [.slice b n c,.slice b' n bw] [] J (fun x m' ae=>J.le ae/\m'=[]/\∃v1 v2,x=.tuple #[cO (aV (eR s u ps cI:Int) (s*u*2)) v1 v2,.int .i64 0]/\iD ae (aV (eR s u ps cI:Int) (s*u*2)) v1 v2):=by
 subst eb;have gB:=gB;rw[<-e'] at gB;have:=Tn b6 aq h gB fR fZ e'.symm af kf ao hu rH cc;rw[e'] at this;exact this
theorem ZZ{l:List Int}{ig:Option Addr}{kl:Nat}{k kb:Int}{e:TypeId}(pX:∀J,Fn (aO Q g0) 19 [] [] J (SW (.bool true) J))(b6:J 2=some (ca .u8 jI,e))(aq:Nat.blt 2 (aO Q g0).g0=true)(aA:zb J (.slice ig l.length kl) l)(p8:l.length<=9223372036854775807):
 Fn (aO Q g0) 3 [.slice ig l.length kl,.int .i64 k,.int .i64 kb] [] J (fun v m' ae=>v=.bool true):=by
 have aco:addrEq ig ig=true:=by obtain⟨e,h⟩:=aA;exact h.addr
 obtain⟨n,aw⟩:∃n:Nat,1+k % 10=(n:Int):=⟨(1+k % 10).toNat,by omega⟩;obtain⟨bits,Xq⟩:∃n:Nat,1+kb % 12=(n:Int):=⟨(1+kb % 12).toNat,by omega⟩;have eb:1<=n:=by omega
 have e':n<=10:=by omega
 have fC:1<=bits:=by omega
 have kM:bits<=12:=by omega
 obtain⟨iG,o3,mH⟩:=BM kM;refine Fn.ck (ch Tryz.func3) rfl rfl fun H=>?_;refine rg ?_;refine I V.aI ?_;refine bb ?_;refine aH ?_;refine fc fun u6=>?_;refine I V.aI ?_;refine bb ?_;refine I V.aJ ?_;refine b4 (G:=IY (n:=10) (by decide) (by decide)) (h:=?_);rintro v' m' ae hle ⟨rfl,rfl,rfl⟩;refine I V.bW ?_;refine I V.aJ ?_;refine b4 (G:=IY (n:=12) (by decide) (by decide)) (h:=?_);rintro v' m' ae hle ⟨rfl,rfl,rfl⟩;refine I V.bW ?_;refine aH ?_;refine bR ?_;rw[aw,Xq];refine rg ?_;refine aH ?_;refine' W.step rfl (Exec.call rfl rfl rfl rfl rfl rfl rfl (bU:=[pO u6 ig kl l 0]) (eD:=[]) (.refl _) trivial (acS aA p8 (fB _) eb e') ?_);rintro v' m' bq hle ⟨a8,dm,ps,br,bn,ag6,rfl,x6,ke,Yw,rfl,l2⟩;have ahQ:addrEq br br=true:=l2.addr;obtain⟨s,af⟩:∃s,s=ps.sum:=⟨_,rfl⟩;rw[<-af] at ke Yw l2;subst x6;refine I V.aI ?_;refine bb ?_;refine aH ?_;refine b4 (G:=acQ (a8 _ _ b6) aq l2 eb e' ke (by omega) af.symm fC kM) (h:=?_);rintro v' m' dR hle ⟨bO,rfl,bN,bQ,rfl,hc⟩;have ahR:addrEq bN bN=true:=hc.addr;have kU:=JG (M:=2 ^ bits) eb ke af.symm;obtain⟨vs,vZ⟩:∃vs,vs=yK ps s (2 ^ bits):=⟨_,rfl⟩;rw[<-vZ] at hc kU;have sX:vs.length=ps.length:=kU.len;have DO:vs.sum=2 ^ bits:=kU.sum;obtain⟨M,Da⟩:∃M,M=2 ^ bits:=⟨_,rfl⟩;rw[<-Da] at iG o3 mH kU;have rq:=fA.mono (R':=ic dR) bO (fun _ _ q=>q.mono bO) l2;have AF:=hc.dB;have Xn:=rq.at;obtain⟨_,iH⟩:=Xn;rw[gx] at iH;refine aH ?_;refine bb ?_;refine I V.aJ ?_;refine I V.a' ?_;refine I V.aJ ?_;refine gz 38 (fun Nh=>?_) fun Nh=>?_
 ·exfalso;exact Nh rfl
 ·refine bM V.aJ ?_;refine bM V.gL ?_;refine bM V.aJ ?_;refine bM V.a' ?_;refine I V.bo ?_;refine aD ?_;refine If (fun Mc=>?_) fun Mc=>?_
  ·exfalso;exact Mc rfl
  ·refine aG ?_;refine ad.skip ?_;refine rg ?_;refine I V.aI ?_;refine aD ?_;refine ad.block ?_;refine' ad.eH (l':=[(11,.int .i64 ((0):Int)),(1,_),(2,_),(8,_),(9,_)]) ⟨?qH,rfl,rfl,rfl,rfl,trivial⟩ (cd _) ?_;case qH=>first|exact cq|exact aj some (aj (Value.int .u64) (by omega))|exact aj some (aj (Value.int .i64) (by omega))
   refine aG ?_;refine' ad.b0 (fun(cG:Nat×an)=>match cG with|(i,dn)=>⟨[(11,.int .i64 (i:Int))],[pO u6 ig kl l dm],dn,i<=ps.length/\dR.le dn,ps.length -i⟩) ⟨0,dR⟩ ?af ?bT
   case af=>exact⟨fB _,an.le.refl _⟩
   case bT=>
    rintro⟨i,dn⟩ hinv;try simp only at hinv
    obtain⟨ar,et⟩:=hinv;refine rg ?_;refine aH ?_;refine I V.a' ?_;refine aD ?_;refine If (fun TJ=>?_) fun TJ=>?_
    ·obtain⟨q2,off,cells,bk,rfl,gb,kQ⟩:=iH (by omega);obtain⟨r,cs,al,iq,xW,v1,v2,rfl,eC⟩:=kQ i (by omega) (by omega);rw[jq,jt] at al;obtain⟨p,kS,rfl⟩:=sg.1 al;have gb:=et _ _ gb;have lf:=eC.mono et;obtain⟨x,U⟩:∃x,vs[i]?=some x:=⟨_,eO (by omega)⟩;obtain⟨u9,P4,Mr,MM,rfl,iO,Aq⟩:=AF (by omega);have ob:=Aq i x U;have iO:=et _ _ iO;obtain⟨bh,cb,dD,lS⟩:=QC ke kU kS U;have Xf:=Ml ke kU kS U;have rG:=rR (k8 kS);obtain⟨fy,fF⟩:=ll (X:=(p:Int)) (B:=4096) ke (by omega) (by omega);have eV:=h8 (z:=(p:Int)) ke;have Yu:p*M<=4096*4096:=pJ (by omega) o3;have ahi:x*s<=4096*4096:=pJ (by omega) (by omega);have hmul:=PM (X:=(p:Int)) (M:=M) ke;rw[<-gZ] at hmul;obtain⟨wP,uR⟩:=ll (X:=((p*M:Nat):Int)) (B:=16777216) ke (by omega) (by omega);have Gb:=h8 (z:=((p*M:Nat):Int)) ke;have Oc:=aa5 (X:=p*M) (x:=x) ke;obtain⟨EX,EY⟩:=ll (X:=((p*M:Nat):Int) -((x*s:Nat):Int)) (B:=16777216) ke (by omega) (by omega);have TV:=h8 (z:=((p*M:Nat):Int) -((x*s:Nat):Int)) ke;have HW:=aa6 ke Xf;have agO:=(I8 (z:=((p*M:Nat):Int)) ke).2;have NP:=UK (X:=p*M) ke;have hzero:=aa7 (X:=p*M) (x:=x) ke;obtain⟨cW,cZ,rfl,bG⟩:=eC.n.cU;obtain⟨dj,dH,rfl,dd⟩:=eC.d.cU;have He:∀J,Fn (aO Q g0) 9 [.int .i64 (IntKind.i64.wrap (1*2 ^ ((bits:Nat):Int).toNat))] [] J (kq J (⟨(M:Int),1⟩:cH)):=fun J=>by rw[iG];exact Ko (by omega)
     have OE:IntKind.i64.wrap (-(x:Int))=-(x:Int):=wrap_i64 (by omega) (by omega);have Xb:∀J,Fn (aO Q g0) 9 [.int .i64 (-(x:Int))] [] J (kq J (⟨-(x:Int),1⟩:cH)):=fun J=>Ko (by omega);have HH:(ap (⟨(M:Int),1⟩:cH).z.natAbs).length<=10:=eh (kD (show(M:Int).natAbs<1000000000 by omega)) (by decide);have Yb:(ap (⟨-(x:Int),1⟩:cH).z.natAbs).length<=10:=eh (kD (show(-(x:Int)).natAbs<1000000000 by omega)) (by decide);have xX:(ap 1).length<=10:=eh (kD (show 1<1000000000 by decide)) (by decide);have XH:(ap (aV ((p*M:Nat):Int) s).d).length=1:=by
        have aa:=kD (x:=(aV ((p*M:Nat):Int) s).d) (by omega);have ab:=qj (x:=(aV ((p*M:Nat):Int) s).d) (hD Gb.1);omega
     have qb:c4 8 (cO (aV (p:Int) s) (.slice cW (ap (aV (p:Int) s).z.natAbs).length cZ) (.slice dj (ap (aV (p:Int) s).d).length dH)) (cO (aV (p:Int) s) (.slice cW (ap (aV (p:Int) s).z.natAbs).length cZ) (.slice dj (ap (aV (p:Int) s).d).length dH))=true:=by simp[c4,gP,bG,dd,j6]
     refine e4 ?_;refine aG ?_;refine ad.block ?_;refine aG ?_;refine ad.draw rfl (by kernel_rfl) (a2:=[.iL 15,.val 0,.val 1,.val 2,.val 3,.val 4,.val 5,.val 8,.val 9,.val 10,.val 11,.val 12,.bA 6,.b2 [12,11,10,9,8,3,2,1,0],.bA 7,.b2 [12,11,10,9,8],.bA 13,.bA 14,.bA 16]) (by kernel_rfl) ?_;refine bi.alloc rfl rfl rfl rfl rfl (jY Q g0) rfl rfl rfl fun FF=>?_;refine e3 ?_;refine a6 rfl V.bj ?_;refine a6 rfl V.hx ?_;refine a6 rfl V.aJ ?_;refine' bi.val rfl rfl rfl rfl (qG rfl rfl rfl ?aX ?aa) ?_;case aX=>exact bS
     case aa=>first|decide|exact bS|exact(show _<=((64:Nat):Int) from(by omega))
     refine e3 ?_;refine a6 rfl V.bj ?_;refine a6 rfl V.c2 ?_;refine' bi.val rfl rfl rfl rfl (uP rfl rfl ?hw) ?_;case hw=>first|exact wrap_i64 (by omega) (by omega)|exact wrap_u8 (by omega) (by omega)|exact wrap_u64 (by omega) (by omega)|exact wrap_u32 (by omega) (by omega)|rfl
     refine bi.iU ?_;refine' aS.dO rfl rfl rfl rfl rfl rfl rfl rfl rfl c8 (He _) ?_;rintro v' m' KQ hle ⟨kz,rfl,ls,lu,rfl,eL⟩;have gr:=eL;obtain⟨eU,e2,rfl,fm⟩:=eL.n.cU;obtain⟨eP,dU,rfl,ho⟩:=eL.d.cU;have iO:=kz _ _ iO;have gb:=kz _ _ gb;refine aS.b2 ⟨?lk,?a9,?a4,?bJ,?cx,?fL,?iT,?l7,?nE,trivial⟩ ?_;case lk=>
      refine' fH.val rfl rfl rfl (uP rfl rfl ?hw) rfl ?he;case hw=>first|exact wrap_i64 (by omega) (by omega)|exact wrap_u8 (by omega) (by omega)|exact wrap_u64 (by omega) (by omega)|exact wrap_u32 (by omega) (by omega)|rfl
      case he=>exact hB
     case a9=>
      refine' fH.val rfl rfl rfl (kG rfl rfl ?al (iV (dw rfl) ?ay)) rfl ?he;case al=>exact qr
      case ay=>first|rfl|assumption
      case he=>exact hB
     case a4=>
      refine' fH.val rfl rfl rfl (ES rfl rfl rfl (EN rfl) ?aX ?aa) rfl ?he;case aX=>exact bS
      case aa=>exact bS
      case he=>exact hB
     case bJ=>
      refine' fH.val rfl rfl rfl (wM rfl rfl) rfl ?he;case he=>exact hB
     case cx=>
      refine' fH.val rfl rfl rfl (wM rfl rfl) rfl ?he;case he=>exact hB
     case fL=>
      refine' fH.val rfl rfl rfl (kG rfl rfl ?al (fb (dw rfl) ?ay)) rfl ?he;case al=>exact qr
      case ay=>first|rfl|assumption
      case he=>exact hB
     case iT=>
      refine' fH.val rfl rfl rfl (ES rfl rfl rfl (EN rfl) ?aX ?aa) rfl ?he;case aX=>exact bS
      case aa=>exact bS
      case he=>exact hB
     case l7=>
      refine' fH.val rfl rfl rfl (wM rfl rfl) rfl ?he;case he=>exact hB
     case nE=>
      refine' fH.val rfl rfl rfl (wM rfl rfl) rfl ?he;case he=>exact hB
     refine' aS.dO rfl rfl rfl rfl rfl rfl rfl rfl rfl (cj (cT rfl) c8) (J4 (lf.mono kz) gr eV.1 Nat.one_pos (eh (kD (by omega)) (by decide)) (eh (kD (by omega)) (by decide)) HH xX) ?_;rintro v' m' KR hle ⟨kA,rfl,ls,lu,rfl,ep⟩;rw[hmul] at ep;have h2:=ep;obtain⟨jM,gA,rfl,mf⟩:=ep.n.cU;obtain⟨j5,gR,rfl,m2⟩:=ep.d.cU;rw[hmul];have iO:=kA _ _ iO;have gb:=kA _ _ gb;refine aS.b2 ⟨?lk,?a9,?a4,?bJ,?cx,trivial⟩ ?_;case lk=>
      refine' fH.val rfl rfl rfl (uP rfl rfl ?hw) rfl ?he;case hw=>first|exact wrap_i64 (by omega) (by omega)|exact wrap_u8 (by omega) (by omega)|exact wrap_u64 (by omega) (by omega)|exact wrap_u32 (by omega) (by omega)|rfl
      case he=>exact hB
     case a9=>
      refine' fH.val rfl rfl rfl (kG rfl rfl ?al (iV (dw rfl) ?ay)) rfl ?he;case al=>exact qr
      case ay=>first|rfl|assumption
      case he=>exact hB
     case a4=>
      refine' fH.val rfl rfl rfl (ES rfl rfl rfl (EN rfl) ?aX ?aa) rfl ?he;case aX=>exact bS
      case aa=>exact bS
      case he=>exact hB
     case bJ=>
      refine' fH.val rfl rfl rfl (wM rfl rfl) rfl ?he;case he=>exact hB
     case cx=>
      refine' fH.val rfl rfl rfl (wM rfl rfl) rfl ?he;case he=>exact hB
     refine' aS.dO rfl rfl rfl rfl rfl rfl rfl rfl rfl (cj (cT rfl) (cj (fun _ aK=>kq.af (r:=⟨-(x:Int),1⟩) (px:=⟨(M:Int),1⟩) (kz.trans kA) (cH.CX (by rw[iG] at aK;exact IB aK) rfl) rfl) c8)) (Xb _) ?_;rintro v' m' KS hle ⟨mM,rfl,ls,lu,rfl,il⟩;have rn:=il;obtain⟨hI,e7,rfl,lo⟩:=il.n.cU;obtain⟨i',dq,rfl,ln⟩:=il.d.cU;have iO:=mM _ _ iO;have gb:=mM _ _ gb;refine' aS.dO rfl rfl rfl rfl rfl rfl rfl rfl rfl (cj (cT rfl) (cj (cT rfl) (cj (cT rfl) c8))) (Qg (r:=aV ((p*M:Nat):Int) s) (s:=⟨-(x:Int),1⟩) rfl rfl (h2.mono mM) rn Gb.1 Nat.one_pos (eh (kD (by omega)) (by decide)) (eh (kD (by omega)) (by decide)) Yb xX) ?_;rintro v' m' KT hle ⟨tZ,rfl,ls,lu,rfl,er⟩;rw[Oc] at er;have o2:=er;obtain⟨va,mA,rfl,BE⟩:=er.n.cU;obtain⟨vb,jb,rfl,BF⟩:=er.d.cU;rw[Oc];have iO:=tZ _ _ iO;have gb:=tZ _ _ gb;refine aS.jj (fun x U=>ju (f:=fun x=>(x.f,x.cl)) U) ?_;refine k7 rfl ?_;refine bi.nil ?_;have Nq:=((kz.trans kA).trans mM).trans tZ;have ug:c4 8 (cO (aV (((p*M:Nat):Int) -((x*s:Nat):Int)) s) (.slice va (ap (aV (((p*M:Nat):Int) -((x*s:Nat):Int)) s).z.natAbs).length mA) (.slice vb (ap (aV (((p*M:Nat):Int) -((x*s:Nat):Int)) s).d).length jb)) (cO (aV (((p*M:Nat):Int) -((x*s:Nat):Int)) s) (.slice va (ap (aV (((p*M:Nat):Int) -((x*s:Nat):Int)) s).z.natAbs).length mA) (.slice vb (ap (aV (((p*M:Nat):Int) -((x*s:Nat):Int)) s).d).length jb))=true:=by simp[c4,gP,BE,BF,j6]
     refine mj [12,1,2,8,9,11] ?_;refine aG ?_;refine' ad.Mt 1 [(116,.bool false)] ?Gk ?Gq;case Gk=>
      refine ad.draw rfl (by kernel_rfl) (a2:=[.val 0,.val 1,.val 2,.val 3,.val 4,.val 5,.val 6,.val 7,.val 8,.val 9,.val 10,.val 11,.val 12,.val 13,.val 14,.val 15,.bA 16,.bA 17,.bA 18,.val 19,.val 20,.val 21,.val 22,.val 23,.val 24,.val 25,.val 26,.val 27,.bA 28,.b2 [25,24,23,22],.bA 29,.val 30,.val 31,.val 32,.val 33,.val 34,.val 35,.val 36,.val 37,.val 38,.val 39,.bA 40,.b2 [37,36,35,34],.bA 41,.val 42,.val 43,.val 44,.val 45,.val 46,.val 47,.val 48,.bA 49,.val 50,.val 51,.val 52]) (by kernel_rfl) ?_;refine bi.iU ?_;refine aS.val rfl rfl rfl rfl V.aJ ?_;refine aS.val rfl rfl rfl rfl V.aJ ?_;refine aS.val rfl rfl rfl rfl V.bj ?_;refine aS.val rfl rfl rfl rfl V.c2 ?_;refine aS.val rfl rfl rfl rfl V.a' ?_;refine aS.val rfl rfl rfl rfl V.aJ ?_;refine wY 69 (fun Wl=>?_) fun Wl=>?_
      ·
        exfalso;omega
      ·
        refine aS.ew rfl rfl rfl rfl rfl V.aJ ?_;refine aS.ew rfl rfl rfl rfl rfl V.aJ ?_;refine aS.ew rfl rfl rfl rfl rfl V.bj ?_;refine aS.ew rfl rfl rfl rfl rfl V.c2 ?_;refine aS.ew rfl rfl rfl rfl rfl V.aJ ?_;refine' aS.ew rfl rfl rfl rfl rfl (qG rfl rfl rfl ?aX ?aa) ?_;case aX=>exact bS
        case aa=>first|decide|exact bS|exact(show _<=((64:Nat):Int) from(by omega))
        refine aS.ew rfl rfl rfl rfl rfl V.a' ?_;refine aS.val rfl rfl rfl rfl V.bo ?_;refine aS.val rfl rfl rfl rfl V.aJ ?_;refine wY 78 (fun M'=>?_) fun M'=>?_
        ·exfalso;rw[iG] at M';omega
        ·refine aS.ew rfl rfl rfl rfl rfl V.hx ?_;refine' aS.n0 rfl rfl rfl rfl rfl rfl rfl rfl rfl rfl c8 (ac8 o2) ?_;rintro v' m' ae hle ⟨rfl,rfl,rfl⟩;refine' aS.n0 rfl rfl rfl rfl rfl rfl rfl rfl rfl rfl (cj (cT rfl) c8) (Ko (z:=1) (by decide)) ?_;rintro v' m' Sp hle ⟨oh,rfl,ls,lu,rfl,Aa⟩;have W4:=Aa;obtain⟨FT,zA,rfl,Jw⟩:=Aa.n.cU;obtain⟨FU,gQ,rfl,Jx⟩:=Aa.d.cU;have iO:=oh _ _ iO;have gb:=oh _ _ gb;refine' aS.n0 rfl rfl rfl rfl rfl rfl rfl rfl rfl rfl (cj (cT rfl) (cj (cT rfl) c8)) (P3 (o2.abs.mono oh) W4 TV.1 Nat.one_pos (eh (kD (by show(((aV (((p*M:Nat):Int) -((x*s:Nat):Int)) s).z.natAbs:Int)).natAbs<_;rw[g8];omega)) (by decide)) (eh (kD (show(aV (((p*M:Nat):Int) -((x*s:Nat):Int)) s).d<_ by omega)) (by decide)) xX xX) ?_;rintro v' m' Sq hle ⟨sM,rfl,rfl⟩;have iO:=sM _ _ iO;have gb:=sM _ _ gb;refine aS.ew rfl rfl rfl rfl rfl V.a' ?_;refine aS.val rfl rfl rfl rfl V.bo ?_;refine aS.val rfl rfl rfl rfl V.aJ ?_;refine wY 85 (fun Na=>?_) fun Na=>?_
         ·exfalso;have HW:rZ (((aV (((p*M:Nat):Int) -((x*s:Nat):Int)) s).z.natAbs:Int)*((1:Nat):Int) -(1:Int)*((aV (((p*M:Nat):Int) -((x*s:Nat):Int)) s).d:Int))<0:=HW;exact absurd Na (Int.not_le.2 HW)
         ·refine aS.ew rfl rfl rfl rfl rfl V.aJ ?_;refine aS.ew rfl rfl rfl rfl rfl V.aJ ?_;refine aS.ew rfl rfl rfl rfl rfl V.bj ?_;refine aS.ew rfl rfl rfl rfl rfl V.hx ?_;refine aS.ew rfl rfl rfl rfl rfl V.aJ ?_;refine' aS.ew rfl rfl rfl rfl rfl (qG rfl rfl rfl ?aX ?aa) ?_;case aX=>exact bS
          case aa=>first|decide|exact bS|exact(show _<=((64:Nat):Int) from(by omega))
          refine' aS.n0 rfl rfl rfl rfl rfl rfl rfl rfl rfl rfl (cj (cT rfl) (cj (fun _ aK=>kq.af (r:=⟨(M:Int),1⟩) (px:=⟨1,1⟩) (oh.trans sM) (cH.CX (by rw[iG] at aK;exact IB aK) rfl) rfl) (cj (cT rfl) c8))) (He _) ?_;rintro v' m' afr hle ⟨xY,rfl,ls,lu,rfl,G7⟩;have WR:=G7;obtain⟨LZ,fQ,rfl,Ql⟩:=G7.n.cU;obtain⟨L0,nm,rfl,Qm⟩:=G7.d.cU;have NB:=(((lf.mono Nq).mono oh).mono sM).mono xY;have iO:=xY _ _ iO;have gb:=xY _ _ gb;refine aS.b2 ez ?_;refine' aS.n0 rfl rfl rfl rfl rfl rfl rfl rfl rfl rfl (cj (cT rfl) (cj (cT rfl) (cj (cT rfl) (cj (cT rfl) c8)))) (J4 NB WR eV.1 Nat.one_pos (eh (kD (by omega)) (by decide)) (eh (kD (by omega)) (by decide)) HH xX) ?_;rintro v' m' afs hle ⟨vS,rfl,ls,lu,rfl,sC⟩;rw[hmul] at sC;obtain⟨FV,ve,rfl,Jy⟩:=sC.n.cU;obtain⟨FW,hY,rfl,Jz⟩:=sC.d.cU;rw[hmul];have iO:=vS _ _ iO;have gb:=vS _ _ gb;refine aS.ew rfl rfl rfl rfl rfl V.fd ?_;refine aS.ew rfl rfl rfl rfl rfl V.gL ?_;refine aS.ew rfl rfl rfl rfl rfl V.a' ?_;refine aS.ew rfl rfl rfl rfl rfl V.aJ ?_;refine wY 97 (fun Nb=>?_) fun Nb=>?_
          ·refine aS.ew rfl rfl rfl rfl rfl V.aJ ?_;refine aS.ew rfl rfl rfl rfl rfl V.aJ ?_;refine aS.ew rfl rfl rfl rfl rfl V.bj ?_;refine aS.ew rfl rfl rfl rfl rfl V.hx ?_;refine aS.ew rfl rfl rfl rfl rfl V.aJ ?_;refine' aS.ew rfl rfl rfl rfl rfl (qG rfl rfl rfl ?aX ?aa) ?_;case aX=>exact bS
           case aa=>first|decide|exact bS|exact(show _<=((64:Nat):Int) from(by omega))
           refine' aS.n0 rfl rfl rfl rfl rfl rfl rfl rfl rfl rfl (cj (cT rfl) (cj (fun _ _=>kq.af (xY.trans vS) rfl rfl) (cj (cT rfl) (cj (fun _ aK=>kq.af (r:=⟨(M:Int),1⟩) (px:=⟨1,1⟩) (((oh.trans sM).trans xY).trans vS) (cH.CX (by rw[iG] at aK;exact IB aK) rfl) rfl) (cj (cT rfl) c8))))) (He _) ?_;rintro v' m' aft hle ⟨Au,rfl,ls,lu,rfl,z6⟩;have WS:=z6;obtain⟨L1,oS,rfl,Qn⟩:=z6.n.cU;obtain⟨L2,la,rfl,Qo⟩:=z6.d.cU;have iO:=Au _ _ iO;have gb:=Au _ _ gb;refine aS.b2 ez ?_;refine' aS.n0 rfl rfl rfl rfl rfl rfl rfl rfl rfl rfl (cj (cT rfl) (cj (fun _ _=>kq.af (vS.trans Au) hmul.symm rfl) (cj (cT rfl) (cj (cT rfl) (cj (cT rfl) (cj (cT rfl) c8)))))) (J4 ((NB.mono vS).mono Au) WS eV.1 Nat.one_pos (eh (kD (by omega)) (by decide)) (eh (kD (by omega)) (by decide)) HH xX) ?_;rintro v' m' Sr hle ⟨HI,rfl,ls,lu,rfl,mG⟩;rw[hmul] at mG;obtain⟨Ts,nn,rfl,ack⟩:=mG.n.cU;obtain⟨afS,ahI,afY,rfl,ahP,Yh,YB⟩:=mG.d.un (by omega);rw[hmul];have Yi:=Yh.bI (hD Gb.1);obtain⟨afG,ahJ,af0,agc,rfl,agp,ahb⟩:=YB Yi;have X1:KT.le Sr:=((((oh.trans sM).trans xY).trans vS).trans Au).trans HI;have WK:=o2.mono X1;have iO:=HI _ _ iO;have gb:=HI _ _ gb;refine aS.ew rfl rfl rfl rfl rfl V.fd ?_;refine aS.ew rfl rfl rfl rfl rfl V.bj ?_;refine aS.ew rfl rfl rfl rfl rfl V.c2 ?_;refine aS.ew rfl rfl rfl rfl rfl V.a' ?_;refine aS.ew rfl rfl rfl rfl rfl V.bo ?_;refine aS.ew rfl rfl rfl rfl rfl V.aJ ?_;refine wY 111 (fun GS=>?_) fun GS=>?_
           ·refine aS.ew rfl rfl rfl rfl rfl V.hx ?_;refine' aS.n0 rfl rfl rfl rfl rfl rfl rfl rfl rfl rfl (cj (cT rfl) (cj (cT rfl) (cj (cT rfl) (cj (cT rfl) (cj (cT rfl) (cj (cT rfl) (cj (cT rfl) c8))))))) (afi WK) ?_;rintro v' m' ae hle ⟨rfl,rfl,rfl⟩;first|rw[g2 (hzero (dD (NP (Int.ofNat.inj GS))))]|skip
            refine aS.ew rfl rfl rfl rfl rfl V.nG ?_;refine aS.ew rfl rfl rfl rfl rfl V.bo ?_;refine aS.val rfl rfl rfl rfl V.bo ?_;refine aS.nil ?_;refine'⟨⟨_,rfl,⟨?I0,rfl,rfl,rfl,rfl,rfl,trivial⟩⟩,cd _,?Hq⟩;case Hq=>first|exact an.le.refl _|assumption
            case I0=>first|rfl|(simp;done)
           ·refine aS.na rfl rfl rfl rfl rfl rfl ?_;refine aS.Mk rfl rfl rfl rfl rfl rfl ?_;first|rw[g2 (hzero (dD (NP (Int.ofNat.inj GS))))]|skip
            refine aS.na rfl rfl rfl rfl rfl rfl ?_;refine aS.ew rfl rfl rfl rfl rfl V.bo ?_;refine aS.val rfl rfl rfl rfl V.bo ?_;refine aS.nil ?_;refine'⟨⟨_,rfl,⟨?I0,rfl,rfl,rfl,rfl,rfl,trivial⟩⟩,cd _,?Hq⟩;case Hq=>first|exact an.le.refl _|assumption
            case I0=>first|rfl|(simp;done)
          ·exfalso;exact Nb (by rw[XH];rfl)
     case Gq=>
      intro Su X'
      skip
      refine aG ?_;refine If (fun Ma=>?_) fun Ma=>?_
      ·
        exfalso;cases Ma
      ·
        refine aG ?_;refine ad.skip ?_;refine rg ?_;refine I V.aJ ?_;refine I V.bW ?_;refine I V.aI ?_;refine bR ?_;refine gF ⟨i+1,Su⟩ ?_ (hm:=.cons _ (.refl _));exact⟨by omega,(et.trans Nq).trans X'⟩
    ·obtain rfl:i=ps.length:=by omega
     refine aG ?_;refine ad.exit ?_;refine rg ?_;refine aH ?_;refine ja (JN Q g0) fun Ct=>?_;refine I V.jx ?_;refine' W.step rfl (.of (eS rfl rfl rfl (E5 Q g0) rfl rfl rfl fun LD=>?_));refine eG ?_;refine bb ?_;refine W.mY (m':=[(Ct,.row [.slice bN ps.length bQ] 22),(LD,.row [.int .i64 (bits:Int),.slice (some ⟨Ct,0,none⟩) 1 1] 44),pO u6 ig kl l dm]) (.swap _ _ _) ?_;refine W.dB rfl fun p6 Np=>?_;have ahc:c4 8 (.agg #[.int .i64 (bits:Int),.slice (some ⟨Ct,0,none⟩) 1 1]) (.agg #[.int .i64 (bits:Int),.slice (some ⟨Ct,0,none⟩) 1 1])=true:=by simp[c4,gP,addrEq,jR,lI]
     refine I V.hx ?_;refine b4 (G:=acK ((a8.trans (bO.trans (et.trans p6))) _ _ b6) aq Np rfl (hc.mono (et.trans p6)) sX eb e' fC kM DO) (h:=?_);rintro v' m' afu hle ⟨xZ,rfl,am,pt,tH,af1,cJ,hI,e7,rfl,xI,AO,G2⟩;have ag7:addrEq (some ⟨am,pt,none⟩) (some ⟨am,pt,none⟩)=true:=by simp[addrEq]
     refine aH ?_;refine bb ?_;refine aH ?_;refine b4 (G:=acq ((a8.trans (bO.trans (et.trans (p6.trans xZ)))) _ _ b6) aq xI AO G2 sX eb e' fC kM DO) (h:=?_);rintro v' m' KU hle ⟨p7,rfl,pM,qv,n2,af2,eo,i',dq,rfl,Nu,OA,W3⟩;have ahd:c4 8 (.agg #[.int .i64 (bits:Int),.slice (some ⟨pM,qv,none⟩) 1 n2]) (.agg #[.int .i64 (bits:Int),.slice (some ⟨pM,qv,none⟩) 1 n2])=true:=by simp[c4,gP,addrEq,jR,lI]
     refine aH ?_;refine' W.step rfl (.of (eS rfl rfl rfl (E5 Q g0) rfl rfl rfl fun q1=>?_));refine eG ?_;refine I V.aI ?_;refine bb ?_;refine I V.aJ ?_;refine I V.a' ?_;refine I V.aJ ?_;refine gz 134 (fun Nd=>?_) fun Nd=>?_
     ·exfalso;exact Nd rfl
     ·refine bM V.aJ ?_;refine bM V.a' ?_;refine I V.bo ?_;refine I V.aJ ?_;refine gz 138 (fun Nf=>?_) fun Nf=>?_
      ·
        exfalso;exact Nf rfl
      ·
        refine bM V.aJ ?_;refine bM V.gL ?_;refine bM V.a' ?_;refine I V.bo ?_;refine I V.aJ ?_;refine gz 143 (fun Nc=>?_) fun Nc=>?_
        ·exfalso;exact Nc rfl
        ·refine bM V.hx ?_;refine bM V.hx ?_;refine vg (G:=ac0 (by omega) Nu OA W3 ((xZ.trans p7) _ _ Np) rfl (hc.mono (et.trans (p6.trans (xZ.trans p7))))) (h:=?_);rintro v' m' ae hle ⟨rfl,rfl,rfl⟩;refine bM V.nG ?_;refine I V.bo ?_;refine aD ?_;refine If (fun F4=>?_) fun F4=>?_
         ·exfalso;first|(simp at F4;done)|cases F4
         ·refine aG ?_;refine ad.skip ?_;have agv:=p7 _ _ xI;have ahh:vs.length=ps.length:=sX;have WL:=fA.mono (R':=ic KU) (et.trans (p6.trans (xZ.trans p7))) (fun _ _ q=>q.mono (et.trans (p6.trans (xZ.trans p7)))) rq;have Nm:=fA.mono (R':=ic KU) p7 (fun _ _ q=>q.mono p7) G2;have ahS:addrEq hI hI=true:=G2.addr;rw[<-Da] at Nm;refine rg ?_;refine aH ?_;refine I V.bj ?_;refine I V.c2 ?_;refine b4 (G:=To (s:=s) (u:=M) ((a8.trans (bO.trans (et.trans (p6.trans (xZ.trans p7))))) _ _ b6) aq WL Nm rfl sX eb e' ke (by omega) af.symm mH o3 (by rw[Da];exact DO)) (h:=?_);rintro v' m' afv hle ⟨agR,rfl,ls,lu,rfl,eL⟩;have gr:=eL;obtain⟨va,mA,rfl,BE⟩:=eL.n.cU;obtain⟨vb,jb,rfl,BF⟩:=eL.d.cU;refine aH ?_;refine' W.step rfl (.of (eS rfl rfl rfl (jY Q g0) rfl rfl rfl fun afF=>?_));refine eG ?_;refine I V.aI ?_;refine bR ?_;have er:0<s*M*2:=hV (hV ke mH) (by decide);have C6:s*M<=4096*4096:=pJ (by omega) o3;have rI:=EV (sa:=s) (c9:=M) (ps:=ps) (cI:=vs);rw[<-af,show vs.sum=M by rw[Da];exact DO,j4 M s] at rI;obtain⟨dE,ej⟩:=ll (X:=(eR s M ps vs:Int)) (B:=67108864) er (by omega) (by omega);have Me:=h8 (z:=(eR s M ps vs:Int)) er;have WI:=pp (X:=eR s M ps vs) er;have kc:=Uk ke mH rfl eb sX.symm (fun i p v aa ab=>by have:=Ml ke kU aa ab;rwa [gZ,gZ] at this);have TW:=h8 (z:=(ps.length:Int)) mH;obtain⟨y3,y4⟩:=ll (X:=(ps.length:Int)) (B:=4096) mH (by omega) o3;have W6:∀J,Fn (aO Q g0) 18 [.int .i64 (ps.length:Int),.int .i64 (IntKind.i64.wrap (1*2 ^ ((bits:Nat):Int).toNat))] [] J (kq J (aV (ps.length:Int) M)):=fun J=>by rw[iG];exact acw (by omega) (by omega) mH
          have ahe:c4 8 (cO (aV (eR s M ps vs:Int) (s*M*2)) (.slice va (ap (aV (eR s M ps vs:Int) (s*M*2)).z.natAbs).length mA) (.slice vb (ap (aV (eR s M ps vs:Int) (s*M*2)).d).length jb)) (cO (aV (eR s M ps vs:Int) (s*M*2)) (.slice va (ap (aV (eR s M ps vs:Int) (s*M*2)).z.natAbs).length mA) (.slice vb (ap (aV (eR s M ps vs:Int) (s*M*2)).d).length jb))=true:=by simp[c4,gP,BE,BF,j6]
          refine aG ?_;refine ad.draw rfl (by kernel_rfl) (a2:=[.val 0,.val 1,.val 2,.val 3,.bA 4,.val 5,.val 6,.val 7,.val 8,.val 9,.val 10,.val 11,.val 12,.val 13,.val 14,.val 15,.val 16,.bA 17,.b2 [13],.bA 18,.val 19,.val 20,.val 21,.bA 22,.val 23,.val 24]) (by kernel_rfl) ?_;refine bi.iU ?_;refine aS.val rfl rfl rfl rfl V.aJ ?_;refine aS.val rfl rfl rfl rfl V.a' ?_;refine aS.val rfl rfl rfl rfl V.aJ ?_;refine aS.ew rfl rfl rfl rfl rfl V.hx ?_;refine' aS.n0 rfl rfl rfl rfl rfl rfl rfl rfl rfl rfl c8 (T6 gr Me (eh (kD (by omega)) (by decide)) (eh (kD (by omega)) (by decide))) ?_;rintro v' m' afw hle ⟨X7,rfl,rfl⟩;refine aS.ew rfl rfl rfl rfl rfl V.a' ?_;refine aS.val rfl rfl rfl rfl V.bo ?_;refine aS.val rfl rfl rfl rfl V.aJ ?_;refine aS.ew rfl rfl rfl rfl rfl V.cF ?_;refine aS.ew rfl rfl rfl rfl rfl V.c2 ?_;rw[e8 WI];refine aS.ew rfl rfl rfl rfl rfl V.nG ?_;refine aS.val rfl rfl rfl rfl V.bo ?_;refine aS.val rfl rfl rfl rfl V.aJ ?_;refine aS.ew rfl rfl rfl rfl rfl V.hx ?_;refine aS.ew rfl rfl rfl rfl rfl V.aJ ?_;refine aS.ew rfl rfl rfl rfl rfl V.aJ ?_;refine' aS.ew rfl rfl rfl rfl rfl (qG rfl rfl rfl ?aX ?aa) ?_;case aX=>exact bS
          case aa=>first|decide|exact bS|exact(show _<=((64:Nat):Int) from(by omega))
          refine' aS.n0 rfl rfl rfl rfl rfl rfl rfl rfl rfl rfl (cj (cT rfl) c8) (W6 _) ?_;rintro v' m' afx hle ⟨X8,rfl,ls,lu,rfl,ep⟩;have h2:=ep;obtain⟨FT,zA,rfl,Jw⟩:=ep.n.cU;obtain⟨FU,gQ,rfl,Jx⟩:=ep.d.cU;refine aS.b2 ez ?_;refine' aS.n0 rfl rfl rfl rfl rfl rfl rfl rfl rfl rfl (cj (cT rfl) (cj (cT rfl) c8)) (P3 ((gr.mono X7).mono X8) h2 Me.1 TW.1 (eh (kD (by omega)) (by decide)) (eh (kD (by omega)) (by decide)) (eh (kD (by omega)) (by decide)) (eh (kD (by omega)) (by decide))) ?_;rintro v' m' afy hle ⟨agS,rfl,rfl⟩;refine aS.ew rfl rfl rfl rfl rfl V.a' ?_;rw[g2 kc];refine aS.val rfl rfl rfl rfl V.bo ?_;refine aS.val rfl rfl rfl rfl V.aJ ?_;refine' aS.n0 rfl rfl rfl rfl rfl rfl rfl rfl rfl rfl (cj (cT rfl) (cj (cT rfl) (cj (cT rfl) c8))) (pX _) ?_;rintro v' m' ae hle ⟨rfl,rfl,rfl⟩;refine aS.jj (fun x U=>ju (f:=fun x=>(x.f,x.cl)) U) ?_;refine a6 rfl V.bo ?_;refine a6 rfl V.aI ?_;refine bi.nil ?_;refine aG ?_;refine ad.ret ?_;refine oK ?_;rfl
end
end
end Go.Opn
namespace Go.Opn
noncomputable section
open Go Go.Cre Go.RowKit Go.Proofs
def Jb:List Int:=[0,1,56,2,57,49,28,3,61,58,42,50,38,29,17,4,62,47,59,36,45,43,51,22,53,39,33,30,24,18,12,5,63,55,48,27,60,41,37,16,46,35,44,21,52,32,23,11,54,26,40,15,34,20,31,10,25,14,19,9,13,8,7,6]
def T3:List Value:=Jb.map fun z=>Value.int .u8 z
def Rk:List (Nat×TypeId×List Value):=[(2,191,T3)]
def H0:ai:=MY 3 2 Rk
theorem Z3:isTrue ((ri Tryz.prog (xx Tryz.prog) 10000).body 19 [] false .run H0)=true:=by kernel_rfl
end
end Go.Opn
namespace Go.Opn
noncomputable section
open Go Go.Cre Go.RowKit
section
variable {H:Type}{P:Program}{enc:TypeId×Value->H}{W:World}{fuel:Nat}{t e:TypeId}{cs:List Value}{x:DataW H×List MemPlace}
end
end
end Go.Opn
namespace Go.Cre
noncomputable section
end
end Go.Cre
namespace Go.Opn
noncomputable section
open Go Go.Cre Go.RowKit Go.Proofs Go.ChangeShapes Go.WideShapes Go.ChangeAt
open Go.Proofs.YtpahonhejmlnpaaGreatDoor
abbrev PP:=Tryz.prog
theorem pA:PP.underlying 3=some (.int .i64):=by kernel_rfl
theorem J8:PP.underlying 22=some (.slice 3):=by kernel_rfl
theorem cZ:PP.cellsOf 3=1:=by kernel_rfl
theorem OT{P:Program}{W:World}{base:Nat}{t:TypeId}{v:Value}{k:IntKind}(hu:P.underlying t=some (.int k))(h:Value.okWide P W .any base t v):v.cells.toList=[v]:=by
 unfold Value.okWide at h;rw[hu] at h;simp only at h;unfold Cell.okWide at h;rw[hu] at h;cases v with
 |agg cs=>simp[Cell.ok,hu] at h
 |_=>rfl
theorem trodAll_three{H:Type}{enc:TypeId×Value->H}{P:Program}{w:World}{base:Nat}{spare:Nat->Bool}{held:Bool}{t0 t1 t2:TypeId}{args:Array Value}{ds:List (DataW H)}{ps:List MemPlace}(h:DataW.TrodAll enc P w base spare held [t0,t1,t2] args.toList ds ps):
 ∃jm v1 v2 d0 d1 d2 kY dm hA,args=#[jm,v1,v2]/\ds=[d0,d1,d2]/\ps=kY++dm++hA/\DataW.Trod enc P w base spare held t0 jm d0 kY/\DataW.Trod enc P w base spare held t1 v1 d1 dm/\DataW.Trod enc P w base spare held t2 v2 d2 hA:=by
 obtain⟨jm,RQ,d0,af9,kY,m1,aK,rfl,rfl,aX,h⟩:=trodAll_cons h;obtain⟨v1,aeN,d1,rh,dm,aR,rfl,rfl,rfl,aa,h⟩:=trodAll_cons h;obtain⟨v2,ah4,d2,af',hA,aN,rfl,rfl,rfl,ab,h⟩:=trodAll_cons h;obtain⟨rfl,rfl,rfl⟩:=trodAll_nil h;exact⟨jm,v1,v2,d0,d1,d2,kY,dm,hA,by cases args;simp_all,rfl,by simp,aX,aa,ab⟩
theorem ac'{P:Program}{W:World}{base:Nat}{t e:TypeId}{v:Value}(hu:P.underlying t=some (.slice e))(h:Value.okWide P W .any base t v):v.cells.toList=[v]:=by
 unfold Value.okWide at h;rw[hu] at h;simp only at h;unfold Cell.okWide at h;rw[hu] at h;cases v with
 |agg cs=>simp[Cell.ok,hu] at h
 |_=>rfl
theorem acT{W:World}{g:Nat}{t:TypeId}{f:Nat×Nat}(h:W.heap[g]?=some (.cells (ca .u8 jI).toArray t f)):rO PP W g=some (ca .u8 jI,t):=by
 show qC PP W g=_;rw[ED (JH h)];have e:(ca .u8 jI).toArray.toList.map (kK PP W)=ca .u8 jI:=by
  unfold ca;rw[List.toList_toArray,List.map_map];exact List.map_congr_left fun b _=>Cv rfl
 rw[e]
end
end Go.Opn
