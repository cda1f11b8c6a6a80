/- A part of the proof of TableRounds. -/
import Derived.Test.YtfdhclnfkafebaaGreatDoorCbj
set_option maxRecDepth 100000
set_option maxHeartbeats 8000000
set_option linter.unusedVariables false
set_option linter.unusedSimpArgs false
namespace Go.Opn
noncomputable section
open Go.Cre Go.RowKit Go.Proofs
theorem YQ{full new:List Value}{p m:Nat}(h:p+new.length<=full.length):(full.take p++new++full.drop (p+new.length))[m]?=if m<p then full[m]? else if m<p+new.length then new[m -p]? else full[m]?:=by
 have ad:(full.take p).length=p:=by rw[dY];omega
 by_cases q:m<p
 ·rw[bj q,nM,B6 I,ji,bj q]
 ·rw[bd q]
  by_cases aU:m<p+new.length
  ·rw[bj aU,B6 (by rw[eS];omega),Eu I,ad]
  ·rw[bd aU,Eu (by rw[eS];omega),p5,eS,ad]
   congr 1;omega
theorem lO.put{α:Type}{sz:Nat}{R R':Nat->α->List Value->Prop}{full new:List Value}{xs:List α}(h:lO sz R (full.take (xs.length*sz)) xs)(aM:xs.length*sz<=full.length)(c0:∀i x cs,R i x cs->R' i x cs){k:Nat}{y:α}(hk:k<xs.length)(aE:new.length=sz)(aB:R' k y new):lO sz R' ((full.take (k*sz)++new++full.drop (k*sz+new.length)).take (xs.length*sz)) (xs.set k y):=by
 have pu:k*sz+sz<=xs.length*sz:=by rw[<-o9];exact e0 _ hk
 refine⟨by rw[dY,eS,eS,dY,lQ,hr];omega,fun i x ab=>?_⟩;have ar:i<xs.length:=by have:=(gS.1 ab).1;rw[hr] at this;exact this
 have aso:i*sz+sz<=xs.length*sz:=by rw[<-o9];exact e0 _ ar
 by_cases q:i=k
 ·subst q
  rw[List.getElem?_set_self hk] at ab;injection ab with ab;subst ab
  rw[show((full.take (i*sz)++new++full.drop (i*sz+new.length)).take (xs.length*sz) |>.drop (i*sz)).take sz=new from ?_]
  ·exact aB
  ·apply IG
   intro j;rw[ji];by_cases Bs:j<sz
   ·rw[bj Bs,p5,ji,bj I,YQ I,bd I,bj I]
    congr 1;omega
   ·rw[bd Bs,qT I]
 ·rw[abm (fun r=>q r.symm)] at ab
  have af:=c0 _ _ _ (h.2 i x ab);have aq:i*sz+sz<=k*sz\/k*sz+sz<=i*sz:=by
   rcases iK i k with r|r
   ·exact .inl (by rw[<-o9];exact e0 _ r)
   ·exact .inr (by rw[<-o9];exact e0 _ I)
  rw[show((full.take (k*sz)++new++full.drop (k*sz+new.length)).take (xs.length*sz) |>.drop (i*sz)).take sz=((full.take (xs.length*sz)).drop (i*sz)).take sz from ?_]
  ·exact af
  ·apply IG
   intro j;rw[ji,ji];by_cases Bs:j<sz
   ·rw[bj Bs,bj Bs,p5,p5,ji,ji,bj I,bj I,YQ I]
    rcases aq with r|r
    ·rw[bj I]
    ·rw[bd I,bd I]
   ·rw[bd Bs,bd Bs]
theorem Ux{Q:dD Tryz.prog}{g0:Nat}{J:an}{r:cE}{v1 v2:Value}(av:fO J r v1 v2)(aL:0<=r.z)(aq:r.d≠0)(dF:(ai r.z.natAbs).length<=20000)(dq:(ai r.d).length<=20000):Fn (a1 Q g0) 56 [c8 r v1 v2] [] J (r4 J (⟨((r.z.natAbs / r.d:Nat):Int),1⟩:cE)):=by
 obtain⟨z,d⟩:=r;obtain⟨n,rfl⟩:=Int.eq_ofNat_of_zero_le aL;exact aeW av aq dF dq
theorem amn{x y:Int}{d:Nat}(aq:0<d):0<sU ((bk x d).z*((bk y d).d:Nat) -(bk y d).z*((bk x d).d:Nat))↔y<x:=by
 have ad:=sL (z:=x) aq;have af:=sL (z:=y) aq;have dr:=(im (z:=x) aq).1;have hC:=(im (z:=y) aq).1;generalize (bk x d).z=a at*;generalize (bk y d).z=b at*;generalize (bk x d).d=u at*;generalize (bk y d).d=w at*;have e:(a*(w:Int) -b*(u:Int))*(d:Int)=(x -y)*((u:Int)*(w:Int)):=by
  rw[nk,nk,L8 a,ad,L8 b,af];rw[jR,jR,kC (w:Int) (u:Int)]
 have Gk:(0:Int)<(u:Int)*(w:Int):=BY I I;have PJ:∀t:Int,0<sU t↔0<t:=fun t=>by unfold sU;split<;>(try split)<;>omega
 rw[PJ];constructor
 ·intro q
  have aV:0<(x -y)*((u:Int)*(w:Int)):=by rw[<-e];exact BY q I
  have:=abb aV Gk;omega
 ·intro q
  have aV:0<(a*(w:Int) -b*(u:Int))*(d:Int):=by rw[e];exact BY I Gk
  exact abb aV I
theorem alu(z:Int):bk z 1=(⟨z,1⟩:cE):=Bg (r:=⟨z,1⟩) ⟨Nat.one_pos,Ml _⟩
theorem anq{X s:Nat}(ag:0<s):bk ((bk (X:Int) s).z*(1:Nat)+-((X / s:Nat):Int)*((bk (X:Int) s).d:Nat)) ((bk (X:Int) s).d*1)=bk ((X % s:Nat):Int) s:=by
 have h:=Hk (X:=(X:Int)) (Y:=-((X / s:Nat):Int)) ag Nat.one_pos;rw[alu] at h;refine h.trans ?_;rw[gT];congr 1
 have:=lR X s;rw[Int.natCast_one,Iy,nL,<-gM,dz];omega
theorem amN{α:Type}{a b:α}{l r:List α}:(a::b::(l++r)).Perm (l++(a::b::r)):=((S6).trans ((S6).cons a)).symm
theorem amO{α:Type}{a b c:α}{k r:List α}:(c::(k++(a::b::r))).Perm (r++(c::(k++[a,b]))):=by
 rw[show c::(k++a::b::r)=(c::(k++[a,b]))++r by simp];exact IM
theorem amP{α:Type}{a b c:α}{k r:List α}:(r++(c::(k++[a,b]))).Perm ((k++r)++[c,a,b]):=((List.perm_append_comm.append_right _).trans (by rw[nM];exact(S6).append_left r)).symm
theorem gy.wF{e:TypeId}{sz k:Nat}{v:Value}{cells:List Value}{bZ:a8}(h:gy e sz v k cells bZ):∃b c,v=.slice b k c/\addrEq b b=true:=by
 rcases h with⟨h,_,_⟩|⟨a,full,rest,h⟩
 ·exact h.wF
 ·exact⟨_,_,h.v,by simp[addrEq]⟩
theorem alg{s:Nat}(ag:0<s):(⟨-1,1⟩:cE)=bk (-(s:Int)) s:=xw (r:=⟨-1,1⟩) ⟨by decide,by decide⟩ ag (by show(-1:Int)*(s:Int)=-(s:Int)*((1:Nat):Int);omega)
section
variable {Q:dD Tryz.prog}{g0:Nat}{J:an}
theorem anD{ps:List Nat}{s bits:Nat}{b:Option Addr}{c:Nat}(h:ew J 34 3 (oC J) (.slice b ps.length c) (ps.map fun p:Nat=>bk (p:Int) s))(mD:1<=ps.length)(n6:ps.length<=10)(ag:0<s)(iA:(ai s).length<=3000)(ap:ps.sum=s)(OK:bits<=30):
 Fn (a1 Q g0) 25 [.slice b ps.length c,.int .i64 (bits:Int)] [] J (fun u m' ah=>J.le ah/\m'=[]/\∃b' c',u=.slice b' ps.length c'/\cR .i64 ah (.slice b' ps.length c') (By ps s (2 ^ bits))):=by
 have kA:addrEq b b=true:=h.addr;obtain⟨_,g'⟩:=h.at;rw[g6] at g';obtain⟨u7,ag9,ag8⟩:=ZE OK;generalize 2 ^ bits=M at*;have F:=Ly (M:=M) mD ag ap;have iP:(fX ps s M).length=ps.length:=g6 _;have ahM:(0:Int)<=(bits:Int)/\(bits:Int)<=64:=I
 have ag':(ai M).length<=2:=mG (by show M<1000000000 ^ 2;omega);have Ve:(ai 1).length<=1:=mG bC;refine Fn.cr (cu Tryz.func25) rfl rfl fun H=>?_;refine rg ?_;refine U V.au ?_;refine a2 ?_;refine U V.au ?_;refine a2 ?_;refine U V.au ?_;refine a2 ?_;refine U V.ay ?_;refine' W.step rfl (Exec.val rfl rfl (s0 rfl rfl rfl ?aO ?ad) ?_);case aO=>exact bz
 case ad=>first|decide|exact bz|exact(show _<=((64:Nat):Int) from I)
 refine U V.au ?_;refine a3 ?_;rw[u7];refine rg ?_;refine U V.au ?_;refine aA ?_;refine ae.block ?_;refine' ae.dO (l':=[(8,.int .i64 ((0):Int)),(5,(.slice none 0 0)),(6,(.slice none 0 0)),(7,.int .i64 ((M:Int) -(((fX ps s M).take (0)).sum:Int))),(0,_),(1,_)]) ⟨?l8,?gm,?j4,?kk,rfl,rfl,trivial⟩ (bx _) ?_;case l8=>first|exact bg|exact aa some (aa (Value.int .u64) I)|exact aa some (aa (Value.int .u32) I)|exact aa some (aa (Value.int .i64) I)
 case gm=>first|exact bg|exact aa some (aa (Value.int .u64) I)|exact aa some (aa (Value.int .u32) I)|exact aa some (aa (Value.int .i64) I)
 case j4=>first|exact bg|exact aa some (aa (Value.int .u64) I)|exact aa some (aa (Value.int .u32) I)|exact aa some (aa (Value.int .i64) I)
 case kk=>first|exact bg|exact aa some (aa (Value.int .u64) I)|exact aa some (aa (Value.int .u32) I)|exact aa some (aa (Value.int .i64) I)
 refine ao ?_;refine' ae.e2 (fun(a6:Nat×Value×Value×a8×a8×(List Value)×an)=>match a6 with|(i,gm,j4,QK,QL,d,dw)=>⟨[(8,.int .i64 (i:Int)),(5,gm),(6,j4),(7,.int .i64 ((M:Int) -(((fX ps s M).take i).sum:Int)))],QK++QL,dw,i<=ps.length/\J.le dw/\gy 3 1 gm i (b7 .i64 ((fX ps s M).take i)) QK/\gy 34 3 j4 i d QL/\lO 3 (fun _=>oC dw) d ((ps.map fun p=>bk ((b1 M s p:Nat):Int) s).take i),ps.length -i⟩) ⟨0,.slice none 0 0,.slice none 0 0,[],[],[],J⟩ ?ag ?bD
 case ag=>exact⟨ep _,an.le.refl _,.inl ⟨.nil,BS,Bb⟩,.inl ⟨.nil,BS,Bb⟩,⟨by rw[fh];rfl,fun i x ab=>by rw[fh] at ab;cases ab⟩⟩
 case bD=>
  rintro⟨i,gm,j4,QK,QL,d,dw⟩ hinv;try simp only at hinv
  obtain⟨ar,c2,JU,OC,jY⟩:=hinv;obtain⟨arq,arx,rfl,atD⟩:=JU.wF;obtain⟨ars,ary,rfl,atE⟩:=OC.wF;refine rg ?_;refine al ?_;refine U V.bb ?_;refine aA ?_;refine If (fun q2=>?_) fun q2=>?_
  ·obtain⟨I7,off,cells,b3,rfl,iZ,kv⟩:=g' I;obtain⟨r,cs,av,h4,pu,v1,v2,rfl,c0⟩:=kv i I I;rw[jy,ko] at av;obtain⟨p,n8,rfl⟩:=qY.1 av;have iZ:=c2 _ _ iZ;have jt:=c0.mono c2;obtain⟨bQ,bH,rfl,aX⟩:=c0.n.bG;obtain⟨bL,bM,rfl,aU⟩:=c0.d.bG;have aiL:=xr (jS n8);have fa:=cY (lD (show p<=s by omega)) iA;have ev:=xo (n:=(p:Int)) ag fa iA;have C7:(fX ps s M)[i]?=some (p*M / s):=by unfold fX;rw[ko,n8];rfl
   have dR:=RU C7;have qu:=D4 (l:=fX ps s M) (i:=i+1);have ai4:=F.out;have Ps:(ai (p*M)).length<=3000+2:=rr fa ag';have uv:=xo (n:=((p*M:Nat):Int)) (k:=3002) ag Ps (cY iA bC);have Wo:p*M / s<=M:=by
    rw[abD ag];have:=e0 M (show p<=s by omega);omega
   have hmul:=Yk (X:=(p:Int)) (M:=M) ag;rw[<-gM] at hmul;obtain⟨pz,rl⟩:=Ym (X:=p*M) ag;have ri:=qD (X:=p*M) ag;have Kk:=anq (X:=p*M) ag;refine dW ?_;refine ao ?_;refine ae.block ?_;refine ao ?_;refine ae.draw rfl (by kernel_rfl) (a':=[.ka 8,.val 0,.val 1,.val 2,.val 3,.val 4,.val 5,.bR 6,.b9 [3,2,1,0],.bR 7,.bR 9]) (by kernel_rfl) ?_;refine bp.alloc rfl rfl rfl rfl rfl (lb Q g0) rfl rfl rfl fun nR=>?_;refine eg ?_;refine aT rfl V.bh ?_;refine aT rfl V.hT ?_;refine aT rfl V.ay ?_;refine' bp.val rfl rfl rfl rfl (s0 rfl rfl rfl ?aO ?ad) ?_;case aO=>exact bz
   case ad=>first|decide|exact bz|exact(show _<=((64:Nat):Int) from I)
   rw[u7];refine bp.iR ?_;refine' bc.dA rfl rfl rfl rfl rfl rfl rfl rfl rfl dx (Ee (z:=(M:Int)) I) ?_;rintro v' m' bK hle ⟨aK,rfl,du,dt,rfl,cp⟩;have arZ:=aK _ _ iZ;have oH:=cp;obtain⟨fI,gV,rfl,gl⟩:=cp.n.bG;obtain⟨gz,e7,rfl,iC⟩:=cp.d.bG;refine bc.b9 eH ?_;refine' bc.dA rfl rfl rfl rfl rfl rfl rfl rfl rfl (de (eI rfl) dx) (ao0 (jt.mono aK) oH (im ag).1 Nat.one_pos I I (by show(ai ((M:Nat):Int).natAbs).length<=20000;rw[hP];omega) (by show(ai 1).length<=20000;omega)) ?_;rintro v' m' dT hle ⟨bi,rfl,du,dt,rfl,e'⟩;have e':fO dT (bk ((p*M:Nat):Int) s) du dt:=(by rw[<-hmul];exact e');have yG:=e';obtain⟨mB,hE,rfl,nH⟩:=e'.n.bG;obtain⟨mW,jU,rfl,oq⟩:=e'.d.bG;rw[show bk ((bk (p:Int) s).z*(⟨(M:Int),1⟩:cE).z) ((bk (p:Int) s).d*(⟨(M:Int),1⟩:cE).d)=bk ((p*M:Nat):Int) s from hmul];refine bc.iQ (fun x ab=>iV (f:=fun x=>(x.f,x.b2)) ab) ?_;refine mw rfl ?_;refine bp.nil ?_;refine rg ?_;refine U V.hT ?_;refine bN (G:=Ux yG I (jl (im ag).1) I I) (h:=?_);rintro v' m' ga hle ⟨cn,rfl,du,dt,rfl,bB⟩;rw[pz] at bB ⊢;have Al:=bB;obtain⟨iN,fp,rfl,mM⟩:=bB.n.bG;obtain⟨kr,cl,rfl,nb⟩:=bB.d.bG;refine bN (G:=ajP Al I) (h:=?_);rintro v' m' mQ hle ⟨eL,rfl,rfl⟩;refine al ?_;refine aA ?_;refine ae.draw rfl (by kernel_rfl) (a':=[.val 0,.val 1,.ka 2,.val 4,.val 5,.val 6,.b9 [1,0],.bR 3,.b9 [6,5,4],.bR 7,.b9 [5,4],.bR 8,.b9 [5,4],.bR 9,.ka 10,.b9 [4],.bR 11,.bR 12,.bR 13]) (by kernel_rfl) ?_;refine aT rfl V.ay ?_;refine aT rfl V.ay ?_;refine bp.buildSlice rfl rfl rfl rfl rfl rfl (HR Q g0) rfl rfl rfl fun aq9=>?_
   refine aT rfl V.ay ?_;refine aT rfl V.hT ?_;refine aT rfl V.hT ?_;refine bp.b9 eH ?_;refine' bp.uR rfl rfl (LY rfl rfl rfl rfl rfl rfl (HR Q g0) (apl Q g0) (fun i q=>by cases q) ?eW ?hm ?ab ?ei ?eh ?bf ?aD fun aaL XZ ahz=>?_);case eW=>exact JU
   case hm=>exact amN
   case ab=>exact zf
   case ei=>first|rfl|(simp;done)|(simp;omega)
   case eh=>first|rfl|exact A0 _
   case bf=>exact Nat.one_pos
   case aD=>exact(show i+1<=1000000 by omega)
   refine bp.b9 eH ?_;refine bp.iR ?_;refine' bc.dA rfl rfl rfl rfl rfl rfl rfl rfl rfl dx (Ux ((yG.mono cn).mono eL) I (jl (im ag).1) I I) ?_;rintro v' m' p4 hle ⟨gu,rfl,du,dt,rfl,bB⟩;rw[pz] at bB ⊢;have Ou:=bB;obtain⟨TY,kb,rfl,YS⟩:=bB.n.bG;obtain⟨ML,jn,rfl,Rn⟩:=bB.d.bG;refine bc.b9 eH ?_;refine' bc.dA rfl rfl rfl rfl rfl rfl rfl rfl rfl (de (eI rfl) dx) (QG Ou) ?_;rintro v' m' ah hle ⟨rfl,rfl,rfl⟩;refine bc.b9 eH ?_;refine' bc.dA rfl rfl rfl rfl rfl rfl rfl rfl rfl (de (eI rfl) (de (eI rfl) dx)) (HK (r:=bk ((p*M:Nat):Int) s) (s:=⟨-((p*M / s:Nat):Int),1⟩) rfl rfl (((yG.mono cn).mono eL).mono gu) ⟨by show cM _ _ (-((p*M / s:Nat):Int)).natAbs;rw[vZ];exact Ou.n,Ou.d⟩ (im ag).1 Nat.one_pos I I (by show(ai (-((p*M / s:Nat):Int)).natAbs).length<=20000;rw[vZ,hP];exact cY (lD Wo) I) (by show(ai 1).length<=20000;omega)) ?_;rintro v' m' uC hle ⟨h5,rfl,du,dt,rfl,cX⟩;rw[show bk ((bk ((p*M:Nat):Int) s).z*(((⟨-((p*M / s:Nat):Int),1⟩:cE).d:Nat):Int)+(⟨-((p*M / s:Nat):Int),1⟩:cE).z*((bk ((p*M:Nat):Int) s).d:Nat)) ((bk ((p*M:Nat):Int) s).d*(⟨-((p*M / s:Nat):Int),1⟩:cE).d)=bk ((b1 M s p:Nat):Int) s from Kk] at cX ⊢;have ahc:=cX;obtain⟨Jf,q1,rfl,YT⟩:=cX.n.bG;obtain⟨Jg,gJ,rfl,YU⟩:=cX.d.bG;refine bc.iQ (fun x ab=>iV (f:=fun x=>(x.f,x.b2)) ab) ?_;refine bp.buildSlice rfl rfl rfl rfl rfl rfl (Zq Q g0) rfl rfl rfl fun arb=>?_;refine bp.b9 eH ?_;refine' bp.uR rfl rfl (LY rfl rfl rfl rfl rfl rfl (Zq Q g0) (apj Q g0) (fun i q=>by cases q) ?eW ?hm ?ab ?ei ?eh ?bf ?aD fun aqc ak1 ahC=>?_)
   case eW=>exact OC
   case hm=>exact amO
   case ab=>exact zf
   case ei=>first|rfl|(simp;done)|(simp;omega)
   case eh=>first|rfl|exact A0 _
   case bf=>exact Nat.one_pos
   case aD=>exact(show i+1<=1000000 by omega)
   refine zD rfl V.au ?_;refine zD rfl V.au ?_;refine bp.nil ?_;have V4:=((((aK.trans bi).trans cn).trans eL).trans gu).trans h5;have ahw:gy 3 1 aaL (i+1) (b7 .i64 ((fX ps s M).take (i+1))) XZ:=by rw[oz,C7,y4];exact ahz
   have Av:lO 3 (fun _=>oC uC) (d++qj (bk ((b1 M s p:Nat):Int) s) (.slice Jf (ai (bk ((b1 M s p:Nat):Int) s).z.natAbs).length q1) (.slice Jg (ai (bk ((b1 M s p:Nat):Int) s).d).length gJ)) ((ps.map fun p=>bk ((b1 M s p:Nat):Int) s).take (i+1)):=by
    rw[oz,ko,n8];exact(jY.mono fun _ _ _ q=>q.mono V4).app ⟨_,_,rfl,ahc⟩ rfl
   refine ae.ub amP.symm ?_;refine rg ?_;refine al ?_;refine U V.aY ?_;refine U V.au ?_;refine a3 ?_;rw[show(M:Int) -(((fX ps s M).take i).sum:Int) -((p*M / s:Nat):Int)=(M:Int) -(((fX ps s M).take (i+1)).sum:Int) by rw[dR];omega];refine rg ?_;refine U V.ay ?_;refine U V.aY ?_;refine U V.au ?_;refine a3 ?_;refine fl ⟨i+1,aaL,aqc,XZ,ak1,d++qj (bk ((b1 M s p:Nat):Int) s) (.slice Jf (ai (bk ((b1 M s p:Nat):Int) s).z.natAbs).length q1) (.slice Jg (ai (bk ((b1 M s p:Nat):Int) s).d).length gJ),uC⟩ ?_ (hm:=zM _ _);exact⟨I,c2.trans V4,ahw,ahC,Av⟩
  ·obtain rfl:i=ps.length:=I
   have AE:(M:Int) -(((fX ps s M).take ps.length).sum:Int)=((lF ps s M:Nat):Int) -((0:Nat):Int):=by
    rw[dd I];have:=F.out;unfold lF;omega
   have Pk:=F.KQ;rw[dd I] at JU;rw[dd (by rw[g6];omega)] at jY;obtain⟨ME,afX,am6,PV,rfl,ah2,J6⟩:=JU.row mD;obtain⟨MD,afW,am5,AQ,rfl,ah0,O6⟩:=OC.row mD;injection PV with PV _ ajl;subst PV ajl
   injection AQ with AQ _ ajm;subst AQ ajm
   have ajC:(lC ps s M 0).map (fun z=>bk z s)=ps.map fun p=>bk ((b1 M s p:Nat):Int) s:=by
    show(ps.map fun p=>((b1 M s p:Nat):Int)).map (fun z=>bk z s)=_;rw[S3];rfl
   refine ao ?_;refine ae.exit ?_;refine ao ?_;refine ae.block ?_;refine' ae.dO (l':=[(7,.int .i64 ((M:Int) -(((fX ps s M).take ps.length).sum:Int))),(5,_),(6,_)]) ⟨?kk,rfl,rfl,trivial⟩ (bx _) ?_;case kk=>first|exact bg|exact aa some (aa (Value.int .u64) I)|exact aa some (aa (Value.int .u32) I)|exact aa some (aa (Value.int .i64) I)
   refine ao ?_;refine' ae.e2 (fun(a6:Nat×Int×(List Value)×(List Value)×(List Nat)×(List Nat)×an)=>match a6 with|(t,kX,u2,mC,LG,LF,iv)=>⟨[(7,.int .i64 kX)],[(ME,.opn u2 3 LG 0),(MD,.opn mC 34 LF 0)],iv,t<=lF ps s M/\kX=((lF ps s M:Nat):Int) -(t:Int)/\J.le iv/\u2.take (ps.length*1)=b7 .i64 (((fW ps s M).take t).foldl kf (fX ps s M))/\ps.length*1<=u2.length/\ps.length*3<=mC.length/\lO 3 (fun _=>oC iv) (mC.take (ps.length*3)) ((lC ps s M t).map fun z=>bk z s),lF ps s M -t⟩) ⟨0,(M:Int) -(((fX ps s M).take ps.length).sum:Int),afX,afW,am6,am5,dw⟩ ?ag ?bD
   case ag=>exact⟨ep _,AE,c2,ah2,J6,O6,by rw[ajC,ah0];exact jY⟩
   case bD=>
    rintro⟨t,kX,u2,mC,LG,LF,iv⟩ hinv;try simp only at hinv
    obtain⟨aS,VD,wK,O0,J6,O6,OS⟩:=hinv;refine rg ?_;refine U V.ay ?_;refine U V.bb ?_;refine aA ?_;refine If (fun E3=>?_) fun E3=>?_
    ·obtain⟨x,ab⟩:∃x,(fW ps s M)[t]?=some x:=⟨_,eE (by rw[F.Hw];omega)⟩;have AU:=F.xB x (jS ab);have ahH:=aku (M:=M) mD ag ap ab;have ke:(lC ps s M t).length=ps.length:=akv;refine dW ?_;refine ao ?_;refine ae.block ?_;refine rg ?_;refine U V.au ?_;refine a2 ?_;refine U V.au ?_;refine aA ?_;refine ae.block ?_;refine' ae.dO (l':=[(13,.int .i64 ((1):Int)),(12,.int .i64 ((0):Int)),(5,_),(6,_),(7,_)]) ⟨?BP,?qK,rfl,rfl,rfl,trivial⟩ (bx _) ?_;case BP=>first|exact bg|exact aa some (aa (Value.int .u64) I)|exact aa some (aa (Value.int .u32) I)|exact aa some (aa (Value.int .i64) I)
     case qK=>first|exact bg|exact aa some (aa (Value.int .u64) I)|exact aa some (aa (Value.int .u32) I)|exact aa some (aa (Value.int .i64) I)
     refine ao ?_;refine' ae.e2 (fun(a6:Nat×Nat×an)=>match a6 with|(i,fo,IB)=>⟨[(13,.int .i64 (i:Int)),(12,.int .i64 (fo:Int))],[(ME,.opn u2 3 LG 0),(MD,.opn mC 34 LF 0)],IB,1<=i/\i<=ps.length/\fo=np (lC ps s M t) (i -1)/\iv.le IB,ps.length -i⟩) ⟨1,0,iv⟩ ?ag ?bD
     case ag=>exact⟨bX _,mD,rfl,an.le.refl _⟩
     case bD=>
      rintro⟨i,fo,IB⟩ hinv;try simp only at hinv
      obtain⟨VV,C0,iy,wL⟩:=hinv;have q':=(T9 (zs:=lC ps s M t) (k:=i -1)).1;refine rg ?_;refine al ?_;refine U V.bb ?_;refine aA ?_;refine If (fun M1=>?_) fun M1=>?_
      ·
        obtain⟨dQ,gA,gN,J2,asr,v1,v2,rfl,Ow⟩:=OS.at (full:=mC) (by rw[g6,ke]) (i:=i) (by rw[g6,ke];omega);obtain⟨ee,Fg,gO,VG,ass,bm,bW,rfl,JN⟩:=OS.at (full:=mC) (by rw[g6,ke]) (i:=fo) (by rw[g6,ke];omega);rw[ko] at gN gO;obtain⟨ev,nB,rfl⟩:=qY.1 gN;obtain⟨gH,yW,rfl⟩:=qY.1 gO;have eT:=Ow.mono wL;have e4:=JN.mono wL;obtain⟨bQ,bH,rfl,aX⟩:=Ow.n.bG;obtain⟨bL,bM,rfl,aU⟩:=Ow.d.bG;obtain⟨cZ,db,rfl,b0⟩:=JN.n.bG;obtain⟨dE,dZ,rfl,dN⟩:=JN.d.bG;have J2:takeN 3 (nY (0+((i:Nat):Int).toNat*3) mC)=some _:=J2;have VG:takeN 3 (nY (0+((fo:Nat):Int).toNat*3) mC)=some _:=VG;have uv:=xo (n:=ev) (k:=3000) ag (cY (lD (Xr ag ev (jS nB))) iA) iA;have LX:=xo (n:=gH) (k:=3000) ag (cY (lD (Xr ag gH (jS yW))) iA) iA;have qo:(lC ps s M t).getD i 0=ev:=by rw[g5,nB];rfl
        have VT:(lC ps s M t).getD fo 0=gH:=by rw[g5,yW];rfl
        have Kh:=amn (x:=ev) (y:=gH) ag;refine dW ?_;refine ao ?_;refine ae.block ?_;refine ao ?_;refine ae.draw rfl (by kernel_rfl) (a':=[.val 0,.val 1,.val 2,.val 3,.val 4,.val 5,.val 6,.val 7,.bR 8,.val 9]) (by kernel_rfl) ?_;refine eg ?_;refine aT rfl V.bh ?_;refine aT rfl V.hT ?_;refine eg ?_;refine aT rfl V.bh ?_;refine aT rfl V.hT ?_;refine bp.iR ?_;refine' bc.dA rfl rfl rfl rfl rfl rfl rfl rfl rfl dx (YA eT e4 (im ag).1 (im ag).1 I I I I) ?_;rintro v' m' zG hle ⟨kd,rfl,rfl⟩;refine bc.iQ (fun x ab=>iV (f:=fun x=>(x.f,x.b2)) ab) ?_;refine aT rfl V.bb ?_;refine bp.nil ?_;refine ao ?_;refine If (fun M3=>?_) fun M3=>?_
        ·have OM:i=np (lC ps s M t) (i+1 -1):=acz VV (by rw[<-iy,qo,VT];exact Kh.1 M3);refine rg ?_;refine al ?_;refine a2 ?_;refine U V.ay ?_;refine U V.aY ?_;refine U V.au ?_;refine a3 ?_;refine fl ⟨i+1,i,zG⟩ ?_;exact⟨I,I,OM,wL.trans kd⟩
        ·have OM:fo=np (lC ps s M t) (i+1 -1):=iy.trans (acA VV (by rw[<-iy,qo,VT];exact fun q=>M3 (Kh.2 q)));refine fy ?_;refine U V.ay ?_;refine U V.aY ?_;refine U V.au ?_;refine a3 ?_;refine fl ⟨i+1,fo,zG⟩ ?_;exact⟨I,I,OM,wL.trans kd⟩
      ·
        have aie:i -1=ps.length -1:=I
        rw[aie,ahH] at iy;have kc:(((fW ps s M).take t).foldl kf (fX ps s M)).length=ps.length:=(Dm _ _ (fun x ab=>by rw[iP];exact F.xB x (x' ab)) (F.DR.sublist (IQ _ _))).1.trans iP;have OX:=(Dm ((fW ps s M).take t) (fX ps s M) (fun x ab=>by rw[iP];exact F.xB x (x' ab)) (F.DR.sublist (IQ _ _))).2.1;rw[dY] at OX;have Ax:=F.out;obtain⟨y,aB⟩:∃y,(((fW ps s M).take t).foldl kf (fX ps s M))[x.toNat]?=some y:=⟨_,eE I⟩;have WQ:=xr (jS aB);have tJ:nth u2 (0+((fo:Nat):Int).toNat*1)=some (.int .i64 (y:Int)):=by
         rw[Q6 (i:=0+((fo:Nat):Int).toNat*1) O0 I];exact oV aB I
        refine ao ?_;refine ae.exit ?_;refine rg ?_;refine al ?_;refine U V.bh ?_;refine U V.cg ?_;refine U V.aY ?_;refine U V.bh ?_;refine' W.step rfl (.of (Ii rfl rfl rfl rfl (hh rfl) rfl rfl rfl ?ad ?ag ?aL ?ap ?_));case ap=>exact .refl _
        case ag=>exact ZK I
        case ad=>first|rfl|assumption
        case aL=>exact ep _
        refine a2 ?_;refine al ?_;refine bN (G:=Ee (z:=-1) bC) (h:=?_);rintro v' m' B2 hle ⟨iz,rfl,du,dt,rfl,gX⟩;have ahp:=gX;obtain⟨Cf,eR,rfl,YV⟩:=gX.n.bG;obtain⟨Cg,jo,rfl,YW⟩:=gX.d.bG;refine U V.bh ?_;refine' W.step rfl (.of (Ii rfl rfl rfl rfl (hh rfl) rfl rfl rfl ?ad ?ag ?aL ?ap ?_));case ap=>exact List.Perm.swap _ _ []
        case ag=>exact(by rw[show 0+((fo:Nat):Int).toNat*3=fo*3 by omega];exact HV _ _ _ (by show fo*3+3<=mC.length;omega))
        case ad=>first|rfl|assumption
        case aL=>exact ep _
        refine a3 ?_;have xd:0+((fo:Nat):Int).toNat*1=x.toNat:=I
        have ck:(u2.set (0+((fo:Nat):Int).toNat*1) (.int .i64 ((y:Int)+1))).take (ps.length*1)=b7 .i64 (((fW ps s M).take (t+1)).foldl kf (fX ps s M)):=by
         rw[xd,List.take_set,O0,<-UZ ab aB];unfold b7;rw[IJ];rfl
        have ch:ps.length*1<=(u2.set (0+((fo:Nat):Int).toNat*1) (.int .i64 ((y:Int)+1))).length:=by rw[hr];exact J6
        have c6:ps.length*3<=(mC.take (fo*3)++qj ⟨-1,1⟩ (.slice Cf (ai (-1:Int).natAbs).length eR) (.slice Cg (ai 1).length jo)++mC.drop (fo*3+3)).length:=by
         rw[eS,eS,dY,lQ];show ps.length*3<=min (fo*3) mC.length+3+(mC.length -(fo*3+3));omega
        have gg:lO 3 (fun _=>oC B2) ((mC.take (fo*3)++qj ⟨-1,1⟩ (.slice Cf (ai (-1:Int).natAbs).length eR) (.slice Cg (ai 1).length jo)++mC.drop (fo*3+3)).take (ps.length*3)) ((lC ps s M (t+1)).map fun z=>bk z s):=by
         have k2:((lC ps s M t).map fun z=>bk z s).length=ps.length:=by rw[g6,ke]
         have ap:=lO.put (R:=fun _=>oC iv) (R':=fun _=>oC B2) (full:=mC) (xs:=(lC ps s M t).map fun z=>bk z s) (k:=fo) (y:=(⟨-1,1⟩:cE)) (new:=qj ⟨-1,1⟩ (.slice Cf (ai (-1:Int).natAbs).length eR) (.slice Cg (ai 1).length jo)) (by rw[k2];exact OS) (by rw[k2];exact O6) (fun _ r cs (q:oC iv r cs)=>q.mono (wL.trans iz)) (by rw[k2];omega) rfl ⟨_,_,rfl,ahp⟩;rw[k2] at ap;rw[akw ab,IJ,<-alg ag,<-iy];exact ap
        refine ae.ub (List.Perm.swap _ _ []) ?_;refine rg ?_;refine U V.ay ?_;refine U V.aY ?_;refine U V.au ?_;refine a3 ?_;refine fl ⟨t+1,kX -1,u2.set (0+((fo:Nat):Int).toNat*1) (.int .i64 ((y:Int)+1)),mC.take (fo*3)++qj ⟨-1,1⟩ (.slice Cf _ eR) (.slice Cg _ jo)++mC.drop (fo*3+3),[],[],B2⟩ ?_;exact⟨I,I,wK.trans (wL.trans iz),ck,ch,c6,gg⟩
    ·obtain rfl:t=lF ps s M:=I
     refine ao ?_;refine ae.exit ?_;have CS:=gy.of (e:=3) (sz:=1) (k:=ps.length) (a:=ME) (full:=u2) (rest:=LG) J6;rw[O0] at CS;refine gy.pO (dc:=[(MD,.opn mC 34 LF 0)]) CS (.refl _) fun B3 jF ax=>?_;refine rg ?_;refine al ?_;refine aA ?_;refine ae.ret ?_;refine'⟨.inr rfl,rfl,_,[],.tmp rfl .nil,br _,⟨wK.trans jF,rfl,_,_,rfl,ax.num⟩⟩
end
structure abT (J:an) (x:cG) (v1 v2:Value):Prop where
 n:cR .u32 J v1 x.num
 d:cR .u32 J v2 x.den
def KK(l:List cG):Prop:=¬(ou l/\l.length<=15)
def zC(J:an)(x:cG)(cs:List Value):Prop:=∃v1 v2,cs=[.bool x.neg,v1,v2]/\abT J x v1 v2
section
variable {Q:dD Tryz.prog}{g0:Nat}{J:an}
theorem ab'{v w:Value}{l:List Nat}(aD:l.length<=1000)(ad:cR .i64 J v l)(af:cR .i64 J w l):Fn (a1 Q g0) 11 [v,w] [] J (fun u m' ah=>m'=[]/\J=ah/\u=.bool true):=by
 obtain⟨bQ,bH,rfl⟩:=ad.form;obtain⟨bL,bM,rfl⟩:=af.form;refine Fn.cr (cu Tryz.func11) rfl rfl fun H=>?_;refine rg ?_;refine U V.au ?_;refine a2 ?_;refine al ?_;refine U V.bb ?_;refine aA ?_;refine If (fun cl=>?_) fun cl=>?_
 ·exfalso;exact cl rfl
 ·refine ao ?_;refine ae.skip ?_;refine rg ?_;refine U V.au ?_;refine aA ?_;refine ae.block ?_;refine' ae.dO (l':=[(5,.int .i64 ((0):Int)),(0,_),(1,_)]) ⟨?gm,rfl,rfl,trivial⟩ (bx _) ?_;case gm=>first|exact bg|exact aa some (aa (Value.int .u64) I)|exact aa some (aa (Value.int .u32) I)|exact aa some (aa (Value.int .i64) I)
  refine ao ?_;refine' ae.lE (α:=(Nat)) (fun(i:Nat)=>[(5,.int .i64 (i:Int))]) (fun(i:Nat)=>i<=l.length) (fun(i:Nat)=>l.length -i) (0) ?ag ?bD;case ag=>exact ep _
  case bD=>
   rintro i hinv;try simp only at hinv
   have ar:=hinv;refine rg ?_;refine al ?_;refine U V.bb ?_;refine aA ?_;refine If (fun gJ=>?_) fun gJ=>?_
   ·obtain⟨a,o,pi,e,rfl,hy,az⟩:=ad.at I;obtain⟨bV,o',Fk,b3,rfl,wJ,qv⟩:=af.at I;obtain⟨p,ap,ha⟩:=az i I;obtain⟨q,bS,nz⟩:=qv i I;have ha:nth pi (o+((i:Int)).toNat*1)=some (.int .i64 (p:Int)):=ha;have nz:nth Fk (o'+((i:Int)).toNat*1)=some (.int .i64 (q:Int)):=nz;obtain rfl:p=q:=v9 (ap.symm.trans bS);refine dW ?_;refine ao ?_;refine ae.block ?_;refine ao ?_;refine ae.draw rfl (by kernel_rfl) (a':=[.val 0,.val 1,.val 2,.val 3,.val 4,.val 5,.val 6,.val 7,.val 8]) (by kernel_rfl) ?_;refine eg ?_;refine aT rfl V.bh ?_;refine aT rfl V.cg ?_;refine eg ?_;refine aT rfl V.bh ?_;refine aT rfl V.cg ?_;refine aT rfl V.bb ?_;refine bp.nil ?_;refine ao ?_;refine If (fun mY=>?_) fun mY=>?_
    ·exfalso;exact mY rfl
    ·refine ao ?_;refine ae.skip ?_;refine rg ?_;refine U V.ay ?_;refine U V.aY ?_;refine U V.au ?_;refine a3 ?_;refine'⟨(i+1),_,?hinv,?gi,rfl,⟨?j1,rfl,rfl,trivial⟩,bx _,rfl⟩;case j1=>first|exact bg|exact aa some (aa (Value.int .u64) I)|exact aa some (aa (Value.int .u32) I)|exact aa some (aa (Value.int .i64) I)
     case gi=>exact bz
     case hinv=>exact I
   ·refine ao ?_;refine ae.exit ?_;refine rg ?_;refine U V.au ?_;refine aA ?_;refine ae.ret ?_;refine'⟨.inr rfl,rfl,_,[],.tmp rfl .nil,br _,⟨rfl,rfl,rfl⟩⟩
theorem TJ{v w:Value}{l:List Nat}(aD:l.length<=1000)(ad:cR .u32 J v l)(af:cR .u32 J w l):Fn (a1 Q g0) 31 [v,w] [] J (fun u m' ah=>m'=[]/\J=ah/\u=.bool true):=by
 obtain⟨bQ,bH,rfl⟩:=ad.form;obtain⟨bL,bM,rfl⟩:=af.form;refine Fn.cr (cu Tryz.func31) rfl rfl fun H=>?_;refine rg ?_;refine U V.au ?_;refine a2 ?_;refine al ?_;refine U V.bb ?_;refine aA ?_;refine If (fun cl=>?_) fun cl=>?_
 ·exfalso;exact cl rfl
 ·refine ao ?_;refine ae.skip ?_;refine rg ?_;refine U V.au ?_;refine aA ?_;refine ae.block ?_;refine' ae.dO (l':=[(5,.int .i64 ((0):Int)),(0,_),(1,_)]) ⟨?gm,rfl,rfl,trivial⟩ (bx _) ?_;case gm=>first|exact bg|exact aa some (aa (Value.int .u64) I)|exact aa some (aa (Value.int .u32) I)|exact aa some (aa (Value.int .i64) I)
  refine ao ?_;refine' ae.lE (α:=(Nat)) (fun(i:Nat)=>[(5,.int .i64 (i:Int))]) (fun(i:Nat)=>i<=l.length) (fun(i:Nat)=>l.length -i) (0) ?ag ?bD;case ag=>exact ep _
  case bD=>
   rintro i hinv;try simp only at hinv
   have ar:=hinv;refine rg ?_;refine al ?_;refine U V.bb ?_;refine aA ?_;refine If (fun gJ=>?_) fun gJ=>?_
   ·obtain⟨a,o,pi,e,rfl,hy,az⟩:=ad.at I;obtain⟨bV,o',Fk,b3,rfl,wJ,qv⟩:=af.at I;obtain⟨p,ap,ha⟩:=az i I;obtain⟨q,bS,nz⟩:=qv i I;have ha:nth pi (o+((i:Int)).toNat*1)=some (.int .u32 (p:Int)):=ha;have nz:nth Fk (o'+((i:Int)).toNat*1)=some (.int .u32 (q:Int)):=nz;obtain rfl:p=q:=v9 (ap.symm.trans bS);refine dW ?_;refine ao ?_;refine ae.block ?_;refine ao ?_;refine ae.draw rfl (by kernel_rfl) (a':=[.val 0,.val 1,.val 2,.val 3,.val 4,.val 5,.val 6,.val 7,.val 8]) (by kernel_rfl) ?_;refine eg ?_;refine aT rfl V.bh ?_;refine aT rfl V.cg ?_;refine eg ?_;refine aT rfl V.bh ?_;refine aT rfl V.cg ?_;refine aT rfl V.bb ?_;refine bp.nil ?_;refine ao ?_;refine If (fun mY=>?_) fun mY=>?_
    ·exfalso;exact mY rfl
    ·refine ao ?_;refine ae.skip ?_;refine rg ?_;refine U V.ay ?_;refine U V.aY ?_;refine U V.au ?_;refine a3 ?_;refine'⟨(i+1),_,?hinv,?gi,rfl,⟨?j1,rfl,rfl,trivial⟩,bx _,rfl⟩;case j1=>first|exact bg|exact aa some (aa (Value.int .u64) I)|exact aa some (aa (Value.int .u32) I)|exact aa some (aa (Value.int .i64) I)
     case gi=>exact bz
     case hinv=>exact I
   ·refine ao ?_;refine ae.exit ?_;refine rg ?_;refine U V.au ?_;refine aA ?_;refine ae.ret ?_;refine'⟨.inr rfl,rfl,_,[],.tmp rfl .nil,br _,⟨rfl,rfl,rfl⟩⟩
theorem anA{l:List cG}{bits:Int}{b:Option Addr}{c:Nat}(h:ew J 34 3 (hj J) (.slice b l.length c) l)(ke:l.length<=1000):
 Fn (a1 Q g0) 8 [.slice b l.length c,.int .i64 bits] [] J (I0 J l bits):=by
 have kA:addrEq b b=true:=h.addr;have mf:=yw h;refine Fn.cr (cu Tryz.func8) rfl rfl fun H=>?_;refine rg ?_;refine al ?_;refine a3 ?_;refine eP [0,1] ?_;refine ao ?_;refine' ae.hf 0 [(12,.bool (decide ((bits<1\/30<bits))))] ?m0 ?m2;case m0=>
  refine ae.region ?_;refine U V.ay ?_;refine U V.bb ?_;refine U V.ay ?_;refine ft 9 (fun FG=>?_) fun FG=>?_
  ·refine bs ?_;refine bs ?_;refine U V.bt ?_;refine a3 ?_;refine'⟨⟨_,rfl,⟨?ml,rfl,rfl,trivial⟩⟩,bx _,rfl⟩;case ml=>first|exact fw rfl I|exact fu rfl I|exact fv rfl I|exact fE rfl I
  ·refine bo V.ay ?_;refine bo V.bb ?_;refine U V.bt ?_;refine a3 ?_;refine'⟨⟨_,rfl,⟨?ml,rfl,rfl,trivial⟩⟩,bx _,rfl⟩;case ml=>first|exact fw rfl I|exact fu rfl I|exact fv rfl I|exact fE rfl I
 case m2=>
  refine ao ?_;refine If (fun jn=>?_) fun jn=>?_
  ·have he:=Rr (l:=l) jn;refine rg ?_;refine al ?_;refine aA ?_;refine ae.ret ?_;refine'⟨.inr rfl,rfl,_,[],.tmp rfl (.tmp rfl .nil),br _,?_⟩;first
    |exact⟨an.le.refl _,rfl,.inl ⟨by rw[he];decide,by rw[he];rfl⟩⟩
    |exact⟨aK,rfl,.inl ⟨by rw[oP];exact jo,by rw[oP];rfl⟩⟩
    |exact⟨aK.trans bi,rfl,.inr ⟨by rw[oP];exact n',bL,bM,rfl,gC⟩⟩
  ·have oP:=Rs (l:=l) jn;obtain⟨k,hk⟩:∃k:Nat,bits=(k:Int):=⟨bits.toNat,I⟩;subst hk;refine fy ?_;refine U V.ay ?_;refine bN (G:=Rv h I) (h:=?_);rintro v' m' bK hle ⟨aK,rfl,rfl⟩;refine U V.au ?_;refine a3 ?_;refine eP [0,1,6] ?_;refine ao ?_;refine' ae.hf 0 [(16,.bool (decide ((g1 l≠0))))] ?z6 ?z';case z6=>
    refine ae.region ?_;refine U V.ay ?_;refine U V.bb ?_;refine a3 ?_;refine'⟨⟨_,rfl,⟨?QO,rfl,rfl,rfl,trivial⟩⟩,bx _,rfl⟩;case QO=>first|exact fw rfl I|exact fu rfl I|exact fv rfl I|exact fE rfl I
   case z'=>
    refine ao ?_;refine If (fun jo=>?_) fun jo=>?_
    ·refine rg ?_;refine al ?_;refine aA ?_;refine ae.ret ?_;refine'⟨.inr rfl,rfl,_,[],.tmp rfl (.tmp rfl .nil),br _,?_⟩;first
        |exact⟨an.le.refl _,rfl,.inl ⟨by rw[he];decide,by rw[he];rfl⟩⟩
        |exact⟨aK,rfl,.inl ⟨by rw[oP];exact jo,by rw[oP];rfl⟩⟩
        |exact⟨aK.trans bi,rfl,.inr ⟨by rw[oP];exact n',bL,bM,rfl,gC⟩⟩
    ·have n':g1 l=0:=jh fun q=>jo q;obtain⟨hU,iH,jx,pX⟩:=sR n';have lY:=ys n' mf;have fS:=(ew.mono (R':=hj bK) aK (fun _ _ q=>q.mono aK) h).zg jx;have vk:=anD (Q:=Q) (g0:=g0) (J:=bK) (ps:=g2 l) (s:=fj l) (bits:=k) (b:=b) (c:=c) (by rw[j2];exact fS) (by rw[j2];exact hU) (by rw[j2];exact iH) (nX jx) I pX I;rw[j2] at vk;refine fy ?_;refine al ?_;refine bN (G:=vk) (h:=?_);rintro v' m' dT bi ⟨_,rfl,bL,bM,rfl,gC⟩;have aU:addrEq bL bL=true:=gC.addr;refine al ?_;refine aA ?_;refine ae.ret ?_;refine'⟨.inr rfl,rfl,_,[],.tmp rfl (.tmp rfl .nil),br _,?_⟩;first
        |exact⟨an.le.refl _,rfl,.inl ⟨by rw[he];decide,by rw[he];rfl⟩⟩
        |exact⟨aK,rfl,.inl ⟨by rw[oP];exact jo,by rw[oP];rfl⟩⟩
        |exact⟨aK.trans bi,rfl,.inr ⟨by rw[oP];exact n',bL,bM,rfl,gC⟩⟩
theorem anN{x:cG}{v1 v2 bm bW:Value}(av:p' J x v1 v2)(ag:p' J x bm bW):Fn (a1 Q g0) 12 [D1 x v1 v2,D1 x bm bW] [] J (fun u m' ah=>m'=[]/\J=ah/\u=.bool true):=by
 have dj:=av;have eX:=ag;have dF:=av.fU;have dq:=av.cI;obtain⟨bQ,bH,rfl⟩:=av.n.form;obtain⟨bL,bM,rfl⟩:=av.d.form;obtain⟨cZ,db,rfl⟩:=ag.n.form;obtain⟨dE,dZ,rfl⟩:=ag.d.form;refine Fn.cr (cu Tryz.func12) rfl rfl fun H=>?_;refine rg ?_;refine gU fun bA=>?_;refine gU fun cU=>?_;refine U V.au ?_;refine a2 ?_;refine U V.cJ ?_;refine U V.cI ?_;refine U V.cJ ?_;refine U V.cI ?_;refine' W.step rfl (Exec.val rfl rfl (um rfl rfl rfl (.inl ⟨rfl,rfl⟩) (by kernel_rfl)) ?_);refine U V.ay ?_;refine ft 10 (fun N5=>?_) fun N5=>?_
 ·refine bo V.cJ ?_;refine bo V.cI ?_;refine bo V.cJ ?_;refine bo V.cI ?_;refine qf (G:=TJ I dj.n eX.n) (h:=?_);rintro v' m' ah hle ⟨rfl,rfl,rfl⟩;refine U V.bt ?_;refine U V.ay ?_;refine ft 17 (fun N4=>?_) fun N4=>?_
  ·refine bo V.cJ ?_;refine bo V.cI ?_;refine bo V.cJ ?_;refine bo V.cI ?_;refine qf (G:=TJ I dj.d eX.d) (h:=?_);rintro v' m' ah hle ⟨rfl,rfl,rfl⟩;refine U V.bt ?_;refine U V.au ?_;refine aA ?_;refine ae.ret ?_;refine'⟨.inr rfl,rfl,_,[],.tmp rfl .nil,br _,⟨rfl,rfl,rfl⟩⟩
  ·exfalso
   simp_all
 ·exfalso
  simp_all
theorem Zp{l:List cG}{b b':Option Addr}{c c':Nat}(aD:l.length<=1000)(h:ew J 34 3 (hj J) (.slice b l.length c) l)(fR:ew J 34 3 (hj J) (.slice b' l.length c') l):Fn (a1 Q g0) 13 [.slice b l.length c,.slice b' l.length c'] [] J (fun u m' ah=>m'=[]/\J=ah/\u=.bool true):=by
 have kA:addrEq b b=true:=h.addr;have HM:addrEq b' b'=true:=fR.addr;obtain⟨_,g'⟩:=h.at;obtain⟨_,Ap⟩:=fR.at;refine Fn.cr (cu Tryz.func13) rfl rfl fun H=>?_;refine rg ?_;refine U V.au ?_;refine a2 ?_;refine al ?_;refine U V.bb ?_;refine aA ?_;refine If (fun cl=>?_) fun cl=>?_
 ·exfalso;exact cl rfl
 ·refine ao ?_;refine ae.skip ?_;refine rg ?_;refine U V.au ?_;refine aA ?_;refine ae.block ?_;refine' ae.dO (l':=[(5,.int .i64 ((0):Int)),(0,_),(1,_)]) ⟨?gm,rfl,rfl,trivial⟩ (bx _) ?_;case gm=>first|exact bg|exact aa some (aa (Value.int .u64) I)|exact aa some (aa (Value.int .u32) I)|exact aa some (aa (Value.int .i64) I)
  refine ao ?_;refine' ae.lE (α:=(Nat)) (fun(i:Nat)=>[(5,.int .i64 (i:Int))]) (fun(i:Nat)=>i<=l.length) (fun(i:Nat)=>l.length -i) (0) ?ag ?bD;case ag=>exact ep _
  case bD=>
   rintro i hinv;try simp only at hinv
   have ar:=hinv;refine rg ?_;refine al ?_;refine U V.bb ?_;refine aA ?_;refine If (fun gJ=>?_) fun gJ=>?_
   ·obtain⟨a,off,cells,b3,rfl,iZ,kv⟩:=g' I;obtain⟨x,cs,ab,h4,pu,v1,v2,rfl,c0⟩:=kv i I I;obtain⟨bV,fV,cells',aW,rfl,CM,F6⟩:=Ap I;obtain⟨dP,cN,fT,OO,O9,bm,bW,rfl,pp⟩:=F6 i I I;obtain rfl:x=dP:=v9 (ab.symm.trans fT);have jt:=c0;have wM:=pp;obtain⟨bQ,bH,rfl⟩:=c0.n.form;obtain⟨bL,bM,rfl⟩:=c0.d.form;obtain⟨cZ,db,rfl⟩:=pp.n.form;obtain⟨dE,dZ,rfl⟩:=pp.d.form;refine dW ?_;refine ao ?_;refine ae.block ?_;refine ao ?_;refine ae.draw rfl (by kernel_rfl) (a':=[.val 0,.val 1,.val 2,.val 3,.val 4,.val 5,.val 6,.val 7,.bR 8,.val 9]) (by kernel_rfl) ?_;refine eg ?_;refine aT rfl V.bh ?_;refine aT rfl V.hT ?_;refine eg ?_;refine aT rfl V.bh ?_;refine aT rfl V.hT ?_;refine dl rfl (G:=anN jt wM) (h:=?_);rintro v' m' ah hle ⟨rfl,rfl,rfl⟩;refine aT rfl V.rB ?_;refine bp.nil ?_;refine ao ?_;refine If (fun mc=>?_) fun mc=>?_
    ·exfalso;first|(simp at mc;done)|cases mc
    ·refine ao ?_;refine ae.skip ?_;refine rg ?_;refine U V.ay ?_;refine U V.aY ?_;refine U V.au ?_;refine a3 ?_;refine'⟨(i+1),_,?hinv,?gi,rfl,⟨?j1,rfl,rfl,trivial⟩,bx _,rfl⟩;case j1=>first|exact bg|exact aa some (aa (Value.int .u64) I)|exact aa some (aa (Value.int .u32) I)|exact aa some (aa (Value.int .i64) I)
     case gi=>exact bz
     case hinv=>exact I
   ·refine ao ?_;refine ae.exit ?_;refine rg ?_;refine U V.au ?_;refine aA ?_;refine ae.ret ?_;refine'⟨.inr rfl,rfl,_,[],.tmp rfl .nil,br _,⟨rfl,rfl,rfl⟩⟩
theorem Qr{l:List cG}{i:Nat}{x:cG}(ab:l[i]?=some x)(h:4<x.num.length\/4<x.den.length):KK l:=fun q=>by
 have:=q.1 x (jS ab);omega
open Classical in
theorem Xy{l:List cG}{b:Option Addr}{c:Nat}(h:ew J 34 3 (zC J) (.slice b l.length c) l)(ke:l.length<=9223372036854775807):Fn (a1 Q g0) 4 [.slice b l.length c] [] J (fun u m' ah=>m'=[]/\J=ah/\u=.bool (decide (KK l))):=by
 have kA:addrEq b b=true:=h.addr;obtain⟨_,g'⟩:=h.at;refine Fn.cr (cu Tryz.func4) rfl rfl fun H=>?_;refine rg ?_;refine U V.au ?_;refine a2 ?_;refine U V.au ?_;refine aA ?_;refine ae.block ?_;refine' ae.dO (l':=[(3,.int .i64 ((0):Int)),(0,_)]) ⟨?eu,rfl,trivial⟩ (bx _) ?_;case eu=>first|exact bg|exact aa some (aa (Value.int .u64) I)|exact aa some (aa (Value.int .u32) I)|exact aa some (aa (Value.int .i64) I)
 refine ao ?_;refine' ae.lE (α:=(Nat)) (fun(i:Nat)=>[(3,.int .i64 (i:Int))]) (fun(i:Nat)=>i<=l.length/\ou (l.take i)) (fun(i:Nat)=>l.length -i) (0) ?ag ?bD;case ag=>exact⟨ep _,fun x ab=>by rw[fh] at ab;cases ab⟩
 case bD=>
  rintro i hinv;try simp only at hinv
  obtain⟨ar,mf⟩:=hinv;refine rg ?_;refine al ?_;refine U V.bb ?_;refine aA ?_;refine If (fun hE=>?_) fun hE=>?_
  ·obtain⟨a,off,cells,b3,rfl,iZ,kv⟩:=g' I;obtain⟨x,cs,ab,h4,pu,v1,v2,rfl,c0⟩:=kv i I I;rw[jy] at ab;obtain⟨bQ,bH,rfl⟩:=c0.n.form;obtain⟨bL,bM,rfl⟩:=c0.d.form;have O5:=pu 1 _ bC rfl;have AB:=pu 2 _ bC rfl;refine dW ?_;refine ao ?_;refine ae.block ?_;refine rg ?_;refine al ?_;refine U V.bh ?_;refine U V.cJ ?_;refine U V.cg ?_;refine U V.h7 ?_;refine U V.bb ?_;refine U V.ay ?_;refine ft 17 (fun po=>?_) fun po=>?_
   ·refine bs ?_;refine bs ?_;refine bs ?_;refine bs ?_;refine bs ?_;refine bs ?_;refine bs ?_;refine U V.bt ?_;refine aA ?_;refine ae.Fe rfl ?_;refine rg ?_;refine U V.au ?_;refine aA ?_;refine ae.ret ?_;refine'⟨.inr rfl,rfl,_,[],.tmp rfl .nil,br _,?_⟩;first
      |exact⟨rfl,rfl,by rw[ie (Qr ab I)];rfl⟩
      |exact⟨rfl,rfl,aa Value.bool (m1.2 ⟨fun q r=>absurd r.2 I,fun q=>jh fun r=>q ⟨mf,I⟩⟩)⟩
   ·refine bo V.ay ?_;refine bo V.ay ?_;refine bo V.bh ?_;refine bo V.cJ ?_;refine bo V.cg ?_;refine bo V.h7 ?_;refine bo V.bb ?_;refine U V.bt ?_;refine aA ?_;refine If (fun mY=>?_) fun mY=>?_
    ·refine rg ?_;refine U V.au ?_;refine aA ?_;refine ae.ret ?_;refine'⟨.inr rfl,rfl,_,[],.tmp rfl .nil,br _,?_⟩;first
        |exact⟨rfl,rfl,by rw[ie (Qr ab I)];rfl⟩
        |exact⟨rfl,rfl,aa Value.bool (m1.2 ⟨fun q r=>absurd r.2 I,fun q=>jh fun r=>q ⟨mf,I⟩⟩)⟩
    ·refine ao ?_;refine ae.skip ?_;refine rg ?_;refine U V.ay ?_;refine U V.aY ?_;refine U V.au ?_;refine a3 ?_;refine'⟨(i+1),_,?hinv,?gi,rfl,⟨?mH,rfl,trivial⟩,bx _,rfl⟩;case mH=>first|exact bg|exact aa some (aa (Value.int .u64) I)|exact aa some (aa (Value.int .u32) I)|exact aa some (aa (Value.int .i64) I)
     case gi=>exact bz
     case hinv=>exact⟨I,HX (P:=fun x:cG=>x.num.length<=4/\x.den.length<=4) mf ab ⟨I,I⟩⟩
  ·have tN:l.take i=l:=dd I;rw[tN] at mf;refine ao ?_;refine ae.exit ?_;refine rg ?_;refine al ?_;refine U V.bb ?_;refine U V.au ?_;refine aA ?_;refine ae.ret ?_;refine'⟨.inr rfl,rfl,_,[],.tmp rfl .nil,br _,?_⟩;first
    |exact⟨rfl,rfl,by rw[ie (Qr ab I)];rfl⟩
    |exact⟨rfl,rfl,aa Value.bool (m1.2 ⟨fun q r=>absurd r.2 I,fun q=>jh fun r=>q ⟨mf,I⟩⟩)⟩
end
section
variable {Q:dD Tryz.prog}{g0:Nat}{J:an}
theorem amt{x:cG}{v1 v2:Value}(h:p' J x v1 v2):Fn (a1 Q g0) 19 [D1 x v1 v2] [] J (fun u m' ah=>J.le ah/\m'=[]/\∃bm bW,u=D1 x bm bW/\p' ah x bm bW):=by
 have aO:=h;have dF:=h.fU;have dq:=h.cI;obtain⟨bQ,bH,rfl⟩:=h.n.form;obtain⟨bL,bM,rfl⟩:=h.d.form;have aX:addrEq bQ bQ=true:=h.n.addr;have aU:addrEq bL bL=true:=h.d.addr;refine Fn.cr (cu Tryz.func19) rfl rfl fun H=>?_;refine rg ?_;refine gU fun bO=>?_;refine' W.step rfl (.of (gx rfl rfl rfl (lb Q g0) rfl rfl rfl fun bA=>?_));refine aA ?_;refine ae.draw rfl (by kernel_rfl) (a':=[.ka 2,.ka 6,.val 0,.val 1,.val 3,.val 4,.val 7,.val 8,.bR 5,.b9 [8,7,1,0],.bR 9,.val 10,.b9 [1,0],.bR 11]) (by kernel_rfl) ?_;refine bp.buildSlice rfl rfl rfl rfl rfl rfl (hb Q g0) rfl rfl rfl fun cK=>?_;refine bp.buildSlice rfl rfl rfl rfl rfl rfl (hb Q g0) rfl rfl rfl fun nR=>?_;refine aT rfl V.cJ ?_;refine aT rfl V.cI ?_;refine aT rfl V.cJ ?_;refine aT rfl V.cI ?_;refine aT rfl V.cJ ?_;refine aT rfl V.cI ?_;refine' bp.uR rfl rfl (qM rfl rfl rfl rfl rfl rfl (hb Q g0) (sZ Q g0) (fun i q=>by cases q) ?eW ?hm ?ab ?ei ?eh ?aD fun l8 atm OG asU=>?_);case eW=>exact .js _
 case hm=>exact .refl _
 case ab=>exact cR.rd aO.n
 case ei=>exact(show(b7 .u32 x.num).length=x.num.length*1 by rw[oU,gT])
 case eh=>exact xx _
 case aD=>exact(show 0+x.num.length<=1000000 by omega)
 rw[j7,kp] at OG;have ahv:=OG;obtain⟨mW,jU,rfl,oq⟩:=OG.wF;refine bp.b9 eH ?_;refine' bp.uR rfl rfl (qM rfl rfl rfl rfl rfl rfl (hb Q g0) (sZ Q g0) (fun i q=>by cases q) ?eW ?hm ?ab ?ei ?eh ?aD fun qK atj OE asQ=>?_);case eW=>exact .js _
 case hm=>exact .refl _
 case ab=>exact cR.rd aO.d
 case ei=>exact(show(b7 .u32 x.den).length=x.den.length*1 by rw[oU,gT])
 case eh=>exact xx _
 case aD=>exact(show 0+x.den.length<=1000000 by omega)
 rw[j7,kp] at OE;have ahu:=OE;obtain⟨ML,jn,rfl,Rn⟩:=OE.wF;refine aT rfl V.kW ?_;refine bp.b9 eH ?_;refine mw rfl ?_;refine bp.nil ?_;refine ahu.pO (.refl _) fun bK aK yH=>?_;refine ahv.pO (.refl _) fun dT bi sm=>?_;refine ao ?_;refine ae.ret ?_;refine'⟨.inr rfl,rfl,_,[],.cell rfl (by repeat first|exact .head _|refine .tail _ ?_|refine eF _ ?_) (fA (dm rfl) rfl) (.nil),br _,⟨aK.trans bi,rfl,_,_,rfl,⟨⟨_,sm⟩,⟨_,yH.mono bi⟩,dF,dq⟩⟩⟩
theorem YE{l:List cG}{b:Option Addr}{c:Nat}(h:ew J 34 3 (hj J) (.slice b l.length c) l)(ke:l.length<=1000):Fn (a1 Q g0) 6 [.slice b l.length c] [] J (fun u m' ah=>J.le ah/\m'=[]/\∃b' c',u=.slice b' l.length c'/\ew ah 34 3 (hj ah) (.slice b' l.length c') l):=by
 have kA:addrEq b b=true:=h.addr;obtain⟨_,g'⟩:=h.at;refine Fn.cr (cu Tryz.func6) rfl rfl fun H=>?_;refine rg ?_;refine U V.au ?_;refine a2 ?_;refine U V.au ?_;refine a2 ?_;refine U V.au ?_;refine aA ?_;refine ae.block ?_;refine' ae.dO (l':=[(4,.int .i64 ((0):Int)),(3,(.slice none 0 0)),(0,_)]) ⟨?kR,?eu,rfl,trivial⟩ (bx _) ?_;case kR=>first|exact bg|exact aa some (aa (Value.int .u64) I)|exact aa some (aa (Value.int .u32) I)|exact aa some (aa (Value.int .i64) I)
 case eu=>first|exact bg|exact aa some (aa (Value.int .u64) I)|exact aa some (aa (Value.int .u32) I)|exact aa some (aa (Value.int .i64) I)
 refine ao ?_;refine' ae.e2 (fun(a6:Nat×Value×a8×(List Value)×an)=>match a6 with|(i,eu,bZ,d,dw)=>⟨[(4,.int .i64 (i:Int)),(3,eu)],bZ,dw,i<=l.length/\J.le dw/\gy 34 3 eu i d bZ/\lO 3 (fun _=>hj dw) d (l.take i),l.length -i⟩) ⟨0,.slice none 0 0,[],[],J⟩ ?ag ?bD
 case ag=>exact⟨ep _,an.le.refl _,.inl ⟨.nil,BS,Bb⟩,⟨by rw[fh];rfl,fun i x ab=>by rw[fh] at ab;cases ab⟩⟩
 case bD=>
  rintro⟨i,eu,bZ,d,dw⟩ hinv;try simp only at hinv
  obtain⟨ar,c2,CS,jY⟩:=hinv;refine rg ?_;refine al ?_;refine U V.bb ?_;refine aA ?_;refine If (fun jU=>?_) fun jU=>?_
  ·obtain⟨a,off,cells,b3,rfl,iZ,kv⟩:=g' I;obtain⟨x,cs,ab,h4,pu,v1,v2,rfl,c0⟩:=kv i I I;rw[jy] at ab;have iZ:=c2 _ _ iZ;have jt:=c0.mono c2;obtain⟨bQ,bH,rfl⟩:=c0.n.form;obtain⟨bL,bM,rfl⟩:=c0.d.form;refine dW ?_;refine ao ?_;refine ae.block ?_;refine rg ?_;refine al ?_;refine U V.bh ?_;refine U V.hT ?_;refine bN (G:=amt jt) (h:=?_);rintro v' m' bK hle ⟨aK,rfl,bm,bW,rfl,u9⟩;have ahb:=u9;obtain⟨cZ,db,rfl⟩:=u9.n.form;obtain⟨dE,dZ,rfl⟩:=u9.d.form;refine ll (Zr Q g0) fun aq7=>?_;refine' W.step rfl (.of (LY rfl rfl rfl rfl rfl rfl (Zr Q g0) (apk Q g0) (fun i q=>by cases q) ?eW ?hm ?ab ?ei ?eh ?bf ?aD fun Ig akZ ahy=>?_));case eW=>exact CS
   case hm=>exact(zL _ bZ).symm
   case ab=>exact zf
   case ei=>first|rfl|(simp;done)|(simp;omega)
   case eh=>first|rfl|exact A0 _
   case bf=>exact Nat.one_pos
   case aD=>exact(show i+1<=1000000 by omega)
   refine U V.au ?_;refine a3 ?_;have Av:lO 3 (fun _=>hj bK) (d++[.bool x.neg,.slice cZ x.num.length db,.slice dE x.den.length dZ]) (l.take (i+1)):=by
    rw[oz,ab];exact(jY.mono fun _ _ _ q=>q.mono aK).app ⟨_,_,rfl,ahb⟩ rfl
   refine rg ?_;refine U V.ay ?_;refine U V.aY ?_;refine U V.au ?_;refine a3 ?_;refine fl ⟨i+1,Ig,akZ,d++[.bool x.neg,.slice cZ x.num.length db,.slice dE x.den.length dZ],bK⟩ ?_ (hm:=zM _ _);exact⟨I,c2.trans aK,ahy,Av⟩
  ·obtain rfl:i=l.length:=I
   rw[uH] at jY;refine ao ?_;refine ae.exit ?_;refine gy.pO (dc:=[]) CS (by rw[iU]) fun B3 jF ax=>?_;refine rg ?_;refine al ?_;refine aA ?_;refine ae.ret ?_;refine'⟨.inr rfl,rfl,_,[],.tmp rfl .nil,br _,?_⟩;obtain⟨iN,fp,rfl⟩:=CS.U0;exact⟨c2.trans jF,rfl,iN,fp,rfl,⟨⟨d,ax,fun i x ab=>(jY.2 i x ab).mono jF⟩⟩⟩
end
end
end Go.Opn
