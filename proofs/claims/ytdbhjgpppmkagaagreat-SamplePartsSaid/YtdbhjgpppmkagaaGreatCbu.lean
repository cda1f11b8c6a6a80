/- A part of the proof of SampleParts. -/
import Derived.Test.YtdbhjgpppmkagaaGreatCbt
set_option maxRecDepth 100000
set_option maxHeartbeats 8000000
set_option linter.unusedVariables false
set_option linter.unusedSimpArgs false
namespace Go.Opn
noncomputable section
open Go.Cre Go.RowKit Go.Proofs
theorem ahB{α:Type}{R lP dE H1 cu me P:List α}{s c a n e x h u:α}(gB:R.Perm (x::lP))(gA:dE.Perm (h::H1))(k7:cu.Perm (u::me)):([s,u,h]++([c,x]++([a,n,e]++(lP++(H1++(me++P)))))).Perm ([s,c,a,n,e]++(R++(dE++(cu++P)))):=by
 open Classical in
 rw[CY];intro z;have aD:=gB.count_eq z;have a5:=gA.count_eq z;have cC:=k7.count_eq z;simp only[CP,CQ,CR] at*;omega
theorem ahC{α:Type}{X:List α}{s c x h u:α}:([c,x,h]++([s,u]++X)).Perm ([s,u,h]++([c,x]++X)):=by open Classical in exact iu
theorem ahD{α:Type}{R lP dE H1 cu me P:List α}{s c a n e x h u:α}(gB:R.Perm (x::lP))(gA:dE.Perm (h::H1))(k7:cu.Perm (u::me)):([s,c,a,n,e]++(R++(dE++(cu++P)))).Perm ([x,h,c]++([s,u]++([a,n,e]++(lP++(H1++(me++P)))))):=by
 open Classical in
 rw[CY];intro z;have aD:=gB.count_eq z;have a5:=gA.count_eq z;have cC:=k7.count_eq z;simp only[CP,CQ,CR] at*;omega
theorem Vf{α:Type}{R X:List α}{s c a n e:α}:(([s,c,n]++R)++([a,e]++X)).Perm ([s,c,a,n,e]++(R++X)):=by open Classical in exact iu
theorem Vg{α:Type}{A B C D P:List α}:(A++(B++(C++(D++P)))).Perm ((A++(B++(C++D)))++P):=by open Classical in exact iu
theorem Vh{α:Type}{A R dE H1 cu P j3:List α}{h q:α}(gA:dE.Perm (h::H1))(dC:P.Perm (q::j3)):([q,h]++(A++(R++(H1++(cu++j3))))).Perm (A++(R++(dE++(cu++P)))):=by
 open Classical in
 rw[CY];intro z;have aD:=gA.count_eq z;have a5:=dC.count_eq z;simp only[CP,CQ,CR] at*;omega
theorem ahF{α:Type}{A R dE H1 cu P j3:List α}{h aZ aR:α}(cn:aZ=aR)(gA:dE.Perm (h::H1))(dC:P.Perm (aR::j3)):(A++(R++(dE++(cu++P)))).Perm ([aZ,h]++(A++(R++(H1++(cu++j3))))):=by subst cn;exact(Vh gA dC).symm
theorem ahE{α:Type}{A R dE H1 cu P j3:List α}{d h q:α}(gA:dE.Perm (h::H1))(dC:P.Perm (q::j3)):(([q,h]++(A++(R++(H1++(cu++j3)))))++[d]).Perm (d::(A++(R++(dE++(cu++P))))):=(Ka _ _).trans ((Vh gA dC).cons _)
theorem Vi{α:Type}{R dE cu P:List α}{s c a n e:α}:((s::(cu++P))++([c,a,n,e]++(R++dE))).Perm ([s,c,a,n,e]++(R++(dE++(cu++P)))):=by open Classical in exact iu
theorem II{α:Type}{A B:List α}{i:Nat}(h:i<=A.length):(A.take i++B.drop i)[i]?=B[i]?:=by
 rw[rY (by rw[fc];omega),fc,k4 h,ta,o2];rfl
theorem IJ{α:Type}{A B:List α}{i:Nat}(h:A.length=i)(ab:B.length=i):A.take i++B.drop i=A:=by
 rw[fZ (by omega),wv (by omega),fb]
theorem Zs{eX:List Bool}{n:Nat}(h:eX.length=n):gE 0 (eX.map Value.bool) ((List.replicate n false).map Value.bool)=some ((List.replicate n false).map Value.bool):=by
 rw[z7 _ _ _ (by rw[ig,ig,kJ];omega)];rw[Gw,mB,ig,kJ,wv (by rw[ig];omega),fb]
theorem Zr{n:Nat}(h:n≠0):(List.replicate n false).map Value.bool≠[]:=by
 obtain⟨k,rfl⟩:∃k,n=k+1:=⟨n -1,by omega⟩;rw[List.replicate_succ,k2];exact List.cons_ne_nil _ _
theorem Zt{n:Nat}:((List.replicate n false).map Value.bool).all eT=true:=by
 rw[qK];intro x I;obtain⟨b,_,rfl⟩:=m8.1 I;rfl
theorem aiZ{α:Type}{L:List α}{i:Nat}{x:α}(h:L[i]?=some x):L.set i x=L:=by
 apply mb
 intro j;rw[j1];by_cases e:i=j
 ·subst e
  rw[aF rfl,aF (dv.1 h).1,h]
 ·rw[aq e]
section
variable {Q:db Tryz.prog}{g0:Nat}{J:aA}
variable {g:bp}{aT bi:Option Addr}{aP ci:Nat}{t:kM}
open Classical in
theorem aiD{N ck:Nat}{m:aI}(hw:hV g)(aw:uJ g)(ar:hB J g aT aP bi ci)(ai:ht g t.sum t.pl N)(jR:N+228<=60000)(h6:1<=t.s)(iM:t.s<2147483647)(xp:0<=t.r)(sC:t.r<=1000000)(aC:GD g aT aP bi ci J ck t m):
 Fn (a2 Q g0) 21 [.pointer (some ⟨ck,0,none⟩)] m J (fun v m' ag=>v=.bool true/\J.le ag/\GD g aT aP bi ci ag ck (xV g t) m'):=by
 obtain⟨ac,cj,a1,cb,bK,bv,eY,cells,e,pU,wO,lr,cT,c3,lo,k6,dd,c8,p,XS,cG,cy,eX,C4,CK,XW,Xx,GF,GA,rfl,acf,Es,vk,A9,bB,gi,sm,sq,Em,LV,Sh,LM,k7,kd⟩:=aC;have dS:=hw.dS;have hp:=hw.hp;have b5:=hw.b5;have dr:=hw.dr;have i2:=hw.i2;obtain⟨P,dC⟩:∃P:Nat,g.pl=(P:Int):=⟨g.pl.toNat,by omega⟩;have kZ:addrEq bi bi=true:=ar.i.addr;have lj:addrEq aT aT=true:=ar.n.addr;have Vx:addrEq (some ⟨cb,0,none⟩) (some ⟨cb,0,none⟩)=true:=by simp[addrEq]
 obtain⟨_,nk⟩:=ar.i.at;have tO:=Wb hw ai.1;obtain⟨S,LX⟩:∃S,S=t.sum.map jW:=⟨_,rfl⟩;rw[<-LX] at tO;have xc:S.length=g.is.length:=tO.1.1;have Sq:(S.map hF).length=g.is.length:=by rw[ig];exact xc
 have M6:=ai.1.1;have anO:=ai.2.1;have acm:=LV.1;have ab6:=LM.1;have So:∀(i:Nat) (l:List Int),t.sum[i]?=some l->S[i]?=some (jW l):=fun i l h=>by rw[LX,gG,h];rfl
 refine Fn.dw (dB Tryz.func21) rfl rfl fun H=>?_;refine rg ?_;refine U V.a7 ?_;refine bP ?_;refine aV ?_;refine U V.bL ?_;refine aV ?_;refine ns ?_;refine ae.block ?_;refine' ae.fy (l':=[(17,.int .i64 ((0):Int)),(0,_),(15,_),(16,_)]) ⟨?O1,rfl,rfl,rfl,trivial⟩ (bV _) ?_;case O1=>exact ec
 refine aJ ?_;refine' ae.cf (fun(cU:Nat×(List Int)×aI×aI×aA)=>match cU with|(i,cS,R,dE,eW)=>⟨[(17,.int .i64 (i:Int))],[(ck,.row (ed ac (.slice wO g.pl.toNat lr) t.r t.s cT g.is.length c3 (.slice lo g.is.length k6) dd g.is.length c8 bK g.ns.length g.ns.length cS) 73),(ac,.row (c6 g aT aP bi ci (.slice bv (gr g g.ns.length).length eY) p cj (g.ns.length+g.is.length) (g.ns.length+g.is.length) a1 (g.ns.length+g.is.length) (g.ns.length+g.is.length) (.slice (some ⟨cb,0,none⟩) g.is.length g.is.length)) 80),bM bK cG,bM a1 cy,eU cb eX]++(R++(dE++(GF++GA))),eW,i<=g.is.length/\J.le eW/\cS.length=10/\fk k1 eW 22 (.slice (some ⟨cj,g.ns.length,none⟩) g.is.length pU) ((S.map hF).take i++C4.drop i) R/\fk k1 eW 22 (.slice dd g.is.length c8) (S.take i++CK.drop i) dE,g.is.length -i⟩) ⟨0,XS,XW,Xx,J⟩ ?al ?cp
 case al=>exact⟨dV _,aA.le.refl _,acf,Em,Sh⟩
 case cp=>
  rintro⟨i,cS,R,dE,eW⟩ hinv;try simp only at hinv
  obtain⟨ak,ev,za,gB,gA⟩:=hinv;refine rg ?_;refine U V.bm ?_;refine ns ?_;refine If (fun uX=>?_) fun uX=>?_
  ·obtain⟨r3,rG,u3,yR,jb,l,cw,rfl,jA,hS,lh,Ca,_⟩:=k7.Fg (i:=i) (by omega);obtain⟨mJ,mv,wX,AR,ja,MD,rfl,ep,gl,kY,pA,Jh⟩:=gA.BQ (i:=i) (by rw[er,fc,jJ];omega);obtain⟨Qb,agl,Zp,K5,kN,FT,qG,oY,rR,s6,uD,alt⟩:=gB.BQ (i:=i) (by rw[er,fc,jJ];omega);injection qG with qG
   injection qG with Pe Pf
   subst Pe;subst Pf;rw[ev _ _ sm] at oY;injection oY with oY
   injection oY with Pg als
   subst Pg;have jA:=ev _ _ jA;have ah:=du (l:=g.is) (i:=i) (by omega);generalize g.is[i]=y at ah;have E5:=hw.tj y (cV ah);rw[II (by omega)] at gl rR;have rf:=(ai.1.2 i l y hS ah).1;have anh:=LM.2 i MD y gl ah;have vE:=LV.2 i FT y rR ah;have adE:∀x∈l,-1000000000<=x/\x<=1000000000:=fun x I=>by
    have:=(ai.1.2 i l y hS ah).2 x I;omega
   obtain⟨s1,s2,h2⟩:=Wa (l:=l) (by omega) (by omega);have BF:∀k,k<=(jW l).length->-1000000000000<=((jW l).take k).sum/\((jW l).take k).sum<=1000000000000:=fun k aH=>by
    have a':=z9 (l:=(jW l).take k) fun v ap=>(h2 v (uM ap)).1;have bd:=Wo (l:=(jW l).take k) (b:=65536) fun v ap=>(h2 v (uM ap)).2;rw[fc] at bd;omega
   have Sm:=alt (hF (jW l)) (by rw[tv];omega);have Sf:=Jh (jW l) (by omega);rw[Ab (by omega) (by rw[gG,So i l hS];rfl)] at Sm;rw[Ab (by omega) (So i l hS)] at Sf;have ag4:nth u3 (rG+((i:Nat):Int).toNat*1)=some (.slice (some ⟨jb,0,none⟩) l.length cR):=lh;have N':nth wX (mv+((i:Nat):Int).toNat*1)=some (.slice (some ⟨ja,0,none⟩) l.length l.length):=by rw[show MD.length=l.length by omega] at kY;exact kY
   rw[show FT.length=(jW l).length by omega,s'] at s6;refine gn ?_;refine aJ ?_;refine ae.block ?_;refine rg ?_;refine U V.az ?_;refine U V.bf ?_;refine U V.bL ?_;refine aV ?_;refine bP ?_;refine aV ?_;refine U V.bL ?_;refine U V.az ?_;refine U V.bf ?_;refine U V.bL ?_;refine' W.step rfl (Exec.call rfl rfl rfl rfl rfl rfl rfl (a4:=[_,iv jb l cw,bM ja MD]) (b2:=[_,bM kN FT]++([_,_,_]++(R.eraseIdx i++(dE.eraseIdx i++(GF.eraseIdx i++GA))))) (ahB (uo uD) (uo pA) (uo Ca)) trivial (ai9 (pre:=Wh ac (.slice wO g.pl.toNat lr) t.r t.s (some ⟨r3,rG,none⟩) g.is.length c3 (.slice lo g.is.length k6) (some ⟨mJ,mv,none⟩) g.is.length c8 bK g.ns.length g.ns.length) (n:=l.length) rfl za rfl (by omega) (by omega) (by omega) adE) ?_);rintro v' m' cN eL ⟨_,XT,acg,rfl⟩;rw[<-s1] at N';have Hy:=eL _ _ (ev _ _ sm);have ep:=eL _ _ ep;refine ns ?_;refine ae.draw rfl (by kernel_rfl) (a8:=[.val 0,.val 1,.val 2,.val 3,.val 4,.val 5,.val 6,.val 7,.val 8,.val 9,.val 10,.val 11,.cv 12]) (by kernel_rfl) ?_;refine cm ?_;refine aB rfl V.bL ?_;refine cm ?_;refine aB rfl V.bL ?_;refine aB rfl V.az ?_;refine aB rfl V.bf ?_;refine aB rfl V.bL ?_;refine' a3.call rfl rfl rfl rfl rfl rfl rfl rfl rfl rfl (a4:=[_,bM kN FT,bM ja (jW l)]) (b2:=[_,iv jb l cw]++([_,_,_]++(R.eraseIdx i++(dE.eraseIdx i++(GF.eraseIdx i++GA))))) ahC trivial (ak8 Hy (by omega) s6 (by omega) (by omega) BF lj (by omega) (by omega)) ?_;rintro v' m' ag hle ⟨rfl,rfl⟩;refine a3.nil ?_;refine ae.gZ (ahD (I8 uD) (I8 pA) (uo Ca)) ?_;refine rg ?_;refine U V.va ?_;refine U V.az ?_;refine bu ?_;refine e2 ⟨i+1,XT,R.set i (bM kN (hF (jW l))),dE.set i (bM ja (jW l)),cN⟩ ?_
   exact⟨by omega,ev.trans eL,acg,Sm.mono eL,Sf.mono eL⟩
  ·obtain rfl:i=g.is.length:=by omega
   rw[IJ Sq acm] at gB;rw[IJ xc ab6] at gA;have k7:=k7.mono ev;have kd:=kd.mono ev;have bB:=fX.mono (R':=k3 eW) ev (fun _ _ r=>r.mono ev) bB;have ar:=ar.mono ev;have sm:=ev _ _ sm;have sq:∀(i:Nat) (x:cH),g.ns[i]?=some x->x.k=1->∃b c,nth cells i=some (.slice b x.ws.length c)/\ew eW (.slice b x.ws.length c) (hF x.ws):=fun i x I aH=>by
    obtain⟨b,c,a',bd⟩:=sq i x I aH;exact⟨b,c,a',bd.mono ev⟩
   have Sr:∀(i:Nat) (y:Int×Int),g.is[i]?=some y->∃r,S[i]?=some r/\(r.length:Int)=y.2/\r.sum=65536/\∀v∈r,0<=v/\v<=65536:=fun i y ah=>by
    obtain⟨r,ax,BB,_⟩:=tO.1.get ah;exact⟨r,ax,BB,tO.2 r (cV ax),(tO.1.2 i r y ax ah).2⟩
   have adV:∀(p q:Int),q∈fi g p->0<=q/\q<((g.ns.length+g.is.length:Nat):Int)/\q<((g.ns.length+g.is.length:Nat):Int)/\1<=(gb g S q).length/\(gb g S q).length<=1000/\1<=(gb g S q).sum/\(gb g S q).sum<=1000000/\∃b c,nth cells q.toNat=some (.slice b (gb g S q).length c)/\addrEq b b=true/\iH R eW b (hF (gb g S q)):=fun p q cn=>by
    rcases Vk cn with⟨i,x,rfl,I,aH⟩|⟨i,y,rfl,ah,au⟩
    ·rw[ak2 I]
     have ak:=(dv.1 I).1;obtain⟨d',gS,_⟩:=hw.ws I aH;have BE:(x.ws.length:Int)<=x.ws.sum/\x.ws.sum<=3*x.ws.length:=ak' (by
      rcases hw.kind x (cV I) with⟨h,_⟩|⟨_,_,_,_,h⟩|⟨h,_⟩
      ·omega
      ·exact h
      ·omega)
     obtain⟨b,c,a',bd⟩:=sq i x I aH;exact⟨by omega,by omega,by omega,by omega,by omega,by omega,by omega,b,c,a',bd.addr,bd.l6 _⟩
    ·have ak:=(dv.1 ah).1
     have E5:=hw.tj y (cV ah);obtain⟨r,ax,BB,EU,_⟩:=Sr i y ah;rw[ak3 ax];obtain⟨Qb,agl,Zp,K5,kN,FT,qG,oY,rR,s6,uD,_⟩:=gB.BQ (i:=i) (by omega);injection qG with qG
     injection qG with Pe Pf
     subst Pe;subst Pf;rw[sm] at oY;injection oY with oY
     injection oY with Pg als
     subst Pg;rw[gG,ax] at rR;injection rR with rR
     subst rR;rw[tv,s'] at s6;exact⟨by omega,by omega,by omega,by omega,by omega,by omega,by omega,_,_,(by rw[show((g.ns.length:Int)+(i:Int)).toNat=g.ns.length+i by omega];exact s6),by simp[addrEq],iH.own (cV uD)⟩
   obtain⟨es,TB,_⟩:=aw.walk;have ach:=NX (σ:=⟨t.s,t.sum,t.pl⟩) hw tO aw ai h6 iM;refine aJ ?_;refine ae.exit ?_;refine rg ?_;refine aV ?_;refine U V.bL ?_;refine aV ?_;refine U V.bL ?_;refine U V.az ?_;refine ns ?_;refine ae.block ?_;refine' ae.fy (l':=[(54,.int .i64 ((0):Int)),(0,_),(53,_)]) ⟨?akW,rfl,rfl,trivial⟩ (bV _) ?_;case akW=>exact ec
   refine aJ ?_;refine' ae.cf (fun(cU:Nat×Int×(List Int)×(List Int)×(List Bool)×aI×aI)=>match cU with|(k,p,cG,cy,eX,cu,lO)=>⟨[(54,.int .i64 (k:Int))],[(ck,.row (ed ac (.slice wO g.pl.toNat lr) t.r (eh g S k ⟨t.s,t.sum,t.pl⟩).fL cT g.is.length c3 (.slice lo g.is.length k6) dd g.is.length c8 bK g.ns.length g.ns.length cS) 73),(ac,.row (c6 g aT aP bi ci (.slice bv (gr g g.ns.length).length eY) p cj (g.ns.length+g.is.length) (g.ns.length+g.is.length) a1 (g.ns.length+g.is.length) (g.ns.length+g.is.length) (.slice (some ⟨cb,0,none⟩) g.is.length g.is.length)) 80),bM bK cG,bM a1 cy,eU cb eX]++(R++(dE++(cu++lO))),eW,k<=g.pl.toNat/\cG.length=g.ns.length/\cy.length=g.ns.length+g.is.length/\eX.length=g.is.length/\fk nA eW 22 (.slice cT g.is.length c3) (eh g S k ⟨t.s,t.sum,t.pl⟩).sum cu/\fk nA eW 22 (.slice lo g.is.length k6) (eh g S k ⟨t.s,t.sum,t.pl⟩).pl lO,g.pl.toNat -k⟩) ⟨0,p,cG,cy,eX,GF,GA⟩ ?al ?cp
   case al=>exact⟨dV _,Es,vk,A9,k7,kd⟩
   case cp=>
    rintro⟨k,p,cG,cy,eX,cu,lO⟩ hinv;try simp only at hinv
    obtain⟨aH,Es,vk,A9,k7,kd⟩:=hinv;obtain⟨bE,bS,cJ⟩:=ach k (by omega);refine rg ?_;refine U V.bm ?_;refine ns ?_;refine If (fun oo=>?_) fun oo=>?_
    ·obtain⟨GN,IV,amj,amJ,sR,r7,pV,rfl,mY,IC,an5,afl⟩:=Oh bB (i:=(k:Int)) (by omega) (by rw[Vm dC];omega);rw[ea,Vl dC (by omega)] at IC;injection IC with IC
     subst IC;have Bw:=ahQ (g:=g) (p:=(k:Int));have anG:=Jt (l:=(fT (gb g S) (fi g (k:Int)) (eh g S k ⟨t.s,t.sum,t.pl⟩).fL).1) (cy:=cy);have HA:∀(i:Nat) (x:cH),g.ns[i]?=some x->x.k=1->(m4 cy (fT (gb g S) (fi g (k:Int)) (eh g S k ⟨t.s,t.sum,t.pl⟩).fL).1)[i]?=some (kC (fT (gb g S) (fi g (k:Int)) (eh g S k ⟨t.s,t.sum,t.pl⟩).fL).1 i):=fun i x I aH=>Rs (q:=(i:Int)) vk (ahP I aH);have HB:∀(j:Nat) (y:Int×Int),g.is[j]?=some y->y.1≠(k:Int)->(m4 cy (fT (gb g S) (fi g (k:Int)) (eh g S k ⟨t.s,t.sum,t.pl⟩).fL).1)[g.ns.length+j]?=some (kC (fT (gb g S) (fi g (k:Int)) (eh g S k ⟨t.s,t.sum,t.pl⟩).fL).1 (g.ns.length+j)):=fun j y ah au=>by
        have:=Rs (W:=gb g S) (s:=(eh g S k ⟨t.s,t.sum,t.pl⟩).fL) vk (ahS ah au);rw[show((g.ns.length:Int)+(j:Int)).toNat=g.ns.length+j by omega] at this;exact this
     obtain⟨_,bd,bz⟩:=JH (fA:=kC (fT (gb g S) (fi g (k:Int)) (eh g S k ⟨t.s,t.sum,t.pl⟩).fL).1) hw tO (p:=(k:Int)) (by omega) (by omega) _ _ _ _ _ _ TB ⟨List.replicate g.is.length false,(eh g S k ⟨t.s,t.sum,t.pl⟩).sum⟩ _ bE;have Ig:(g4 g S (k:Int) (kC (fT (gb g S) (fi g (k:Int)) (eh g S k ⟨t.s,t.sum,t.pl⟩).fL).1) (g.ns.length+1) 0 ⟨List.replicate g.is.length false,(eh g S k ⟨t.s,t.sum,t.pl⟩).sum⟩).2.seen.length=g.is.length:=by rw[bz,kJ]
     refine gn ?_;refine aJ ?_;refine ae.block ?_;refine rg ?_;refine aV ?_;refine bP ?_;refine aV ?_;refine U V.bL ?_;refine aV ?_;refine fF ?_;refine bP ?_;refine aV ?_;refine U V.bL ?_;refine U V.az ?_;refine U V.bf ?_;refine U V.bL ?_;refine' W.step rfl (Exec.call rfl rfl rfl rfl rfl rfl rfl (a4:=[_,_,bM a1 cy]++R) (b2:=[bM bK cG,eU cb eX]++(dE++(cu++lO))) Vf trivial (aad (eu:=gb g S) (h5:=fi g (k:Int)) sm bS cJ afl (by omega) vk (adV _)) ?_);rintro v' m' ag hle ⟨rfl,rfl⟩;refine bu ?_;refine ae.gZ Vf.symm ?_;refine rg ?_;refine aV ?_;refine U V.bL ?_;refine aV ?_;refine U V.bL ?_;refine' W.step rfl (.of (ale rfl rfl rfl rfl rfl (VW Q g0) ?bC ?MQ ?_));case MQ=>exact(fun bt=>⟨by rw[JO];exact Zr bt,by rw[JO];exact Zt,by rw[JO];exact Zs A9,by repeat first|exact .head _ _ _ _|apply dc.tail|apply dc.app⟩)
     case bC=>exact(fun bt=>by obtain rfl:eX=[]:=qL.1 (A9.trans bt);rw[bt];rfl)
     refine bP ?_;refine aV ?_;refine U V.bL ?_;refine U V.az ?_;refine U V.TV ?_;refine' W.step rfl (Exec.call rfl rfl rfl rfl rfl rfl rfl (a4:=(fun cG eX cu=>[(ck,.row (ed ac (.slice (some ⟨GN,IV,none⟩) g.pl.toNat lr) t.r (fT (gb g S) (fi g (k:Int)) (eh g S k ⟨t.s,t.sum,t.pl⟩).fL).2 cT g.is.length c3 (.slice lo g.is.length k6) dd g.is.length c8 bK g.ns.length g.ns.length cS) 73),(ac,.row (c6 g aT aP bi ci (.slice bv (gr g g.ns.length).length eY) (k:Int) cj (g.ns.length+g.is.length) (g.ns.length+g.is.length) a1 (g.ns.length+g.is.length) (g.ns.length+g.is.length) (.slice (some ⟨cb,0,none⟩) g.is.length g.is.length)) 80),bM bK cG,bM a1 (m4 cy (fT (gb g S) (fi g (k:Int)) (eh g S k ⟨t.s,t.sum,t.pl⟩).fL).1),eU cb eX]++(R++(dE++cu))) cG (List.replicate g.is.length false) cu) (b2:=lO) Vg.symm trivial (W1 (pl:=(eh g S k ⟨t.s,t.sum,t.pl⟩).pl) (S:=S) (p:=(k:Int)) (fA:=kC (fT (gb g S) (fi g (k:Int)) (eh g S k ⟨t.s,t.sum,t.pl⟩).fL).1) (cy:=m4 cy (fT (gb g S) (fi g (k:Int)) (eh g S k ⟨t.s,t.sum,t.pl⟩).fL).1) (pU:=pU) hw aw ar tO (by omega) (by omega) rfl rfl rfl rfl rfl rfl sm sq gB gA HA HB _ _ _ _ _ _ TB (dH _) ⟨List.replicate g.is.length false,(eh g S k ⟨t.s,t.sum,t.pl⟩).sum⟩ _ bE (by omega) (kJ) cG cu Es k7) ?_);rintro v' m' ag hle ⟨rfl,hY,j5,rfl,lU,oA,ub,sB⟩;refine bu ?_;refine ae.gZ Vg ?_;refine aJ ?_;refine ae.draw rfl (by kernel_rfl) (a8:=[.val 0,.val 1,.val 2,.val 3,.val 4,.val 5,.val 6,.val 7,.val 8,.val 9,.val 10,.val 11,.val 12,.val 13,.val 14,.val 15,.val 16,.val 17,.val 18,.val 19,.val 20]) (by kernel_rfl) ?_;refine cm ?_;refine aB rfl V.bL ?_;refine cm ?_;refine aB rfl V.bL ?_;refine aB rfl V.va ?_;refine aB rfl V.va ?_;refine cm ?_
     refine aB rfl V.bL ?_;refine cm ?_;refine aB rfl V.bL ?_;refine aB rfl V.tz ?_;refine aB rfl V.a7 ?_;refine a3.nil ?_;refine rg ?_;refine aV ?_;refine U V.bL ?_;refine aV ?_;refine U V.bL ?_;refine aV ?_;refine ns ?_;refine ae.block ?_;refine' ae.fy (l':=[(116,.int .i64 ((0):Int)),(0,_),(6,_),(53,_),(54,_),(114,_),(115,_)]) ⟨?akJ,rfl,rfl,rfl,rfl,rfl,rfl,trivial⟩ (bV _) ?_;case akJ=>exact ec
     refine aJ ?_;refine' ae.cf (fun(cU:Nat×aI)=>match cU with|(i,td)=>⟨[(116,.int .i64 (i:Int))],[(ck,.row (ed ac (.slice (some ⟨GN,IV,none⟩) g.pl.toNat lr) t.r (fT (gb g S) (fi g (k:Int)) (eh g S k ⟨t.s,t.sum,t.pl⟩).fL).2 cT g.is.length c3 (.slice lo g.is.length k6) dd g.is.length c8 bK g.ns.length g.ns.length cS) 73),(ac,.row (c6 g aT aP bi ci (.slice bv (gr g g.ns.length).length eY) (k:Int) cj (g.ns.length+g.is.length) (g.ns.length+g.is.length) a1 (g.ns.length+g.is.length) (g.ns.length+g.is.length) (.slice (some ⟨cb,0,none⟩) g.is.length g.is.length)) 80),bM bK hY,bM a1 (m4 cy (fT (gb g S) (fi g (k:Int)) (eh g S k ⟨t.s,t.sum,t.pl⟩).fL).1),eU cb (g4 g S (k:Int) (kC (fT (gb g S) (fi g (k:Int)) (eh g S k ⟨t.s,t.sum,t.pl⟩).fL).1) (g.ns.length+1) 0 ⟨List.replicate g.is.length false,(eh g S k ⟨t.s,t.sum,t.pl⟩).sum⟩).2.seen]++(R++(dE++(j5++td))),eW,i<=g.is.length/\fk nA eW 22 (.slice lo g.is.length k6) ((n6 (tn g (k:Int)) g.is (g4 g S (k:Int) (kC (fT (gb g S) (fi g (k:Int)) (eh g S k ⟨t.s,t.sum,t.pl⟩).fL).1) (g.ns.length+1) 0 ⟨List.replicate g.is.length false,(eh g S k ⟨t.s,t.sum,t.pl⟩).sum⟩).2.seen S (eh g S k ⟨t.s,t.sum,t.pl⟩).pl).take i++(eh g S k ⟨t.s,t.sum,t.pl⟩).pl.drop i) td,g.is.length -i⟩) ⟨0,lO⟩ ?al ?cp
     case al=>exact⟨dV _,kd⟩
     case cp=>
      rintro⟨i,td⟩ hinv;try simp only at hinv
      obtain⟨ak,HC⟩:=hinv;refine rg ?_;refine U V.bm ?_;refine ns ?_;refine If (fun YI=>?_) fun YI=>?_
      ·
        obtain⟨j6,n4,yI,yS,rfl,nM,oy⟩:=nk (by omega);obtain⟨y,yK,ah,xf,rc,rfl⟩:=oy i (by omega) (by omega);have S2:=rc 0 _ (by decide) rfl;rw[ea] at ah;have nM:=ev _ _ nM;have E5:=hw.tj y (cV ah);obtain⟨GO,B6,KT,aak,yw,q,Oj,rfl,iT,jC,m3,jD,Oc⟩:=HC.Fg (i:=i) (by rw[er,fc,jJ,FJ,bE.2.1];omega);obtain⟨mJ,mv,wX,AR,ja,l7,rfl,ep,gl,kY,pA,_⟩:=gA.BQ (i:=i) (by omega);have EN:(n6 (tn g (k:Int)) g.is (g4 g S (k:Int) (kC (fT (gb g S) (fi g (k:Int)) (eh g S k ⟨t.s,t.sum,t.pl⟩).fL).1) (g.ns.length+1) 0 ⟨List.replicate g.is.length false,(eh g S k ⟨t.s,t.sum,t.pl⟩).sum⟩).2.seen S (eh g S k ⟨t.s,t.sum,t.pl⟩).pl).length=g.is.length:=FJ.trans bE.2.1;have anP:=bE.2.1;rw[II (by omega)] at jC;obtain⟨qw,H7,EP,H8⟩:=bE.2.get ah;rw[jC] at H7;injection H7 with H7
        subst H7;obtain⟨VS,BC,anT,_,aeh⟩:=Sr i y ah;rw[gl] at BC;injection BC with BC
        subst BC;obtain⟨b,ou⟩:∃b,(g4 g S (k:Int) (kC (fT (gb g S) (fi g (k:Int)) (eh g S k ⟨t.s,t.sum,t.pl⟩).fL).1) (g.ns.length+1) 0 ⟨List.replicate g.is.length false,(eh g S k ⟨t.s,t.sum,t.pl⟩).sum⟩).2.seen[i]?=some b:=⟨_,du (by omega)⟩;have zt:nth ((g4 g S (k:Int) (kC (fT (gb g S) (fi g (k:Int)) (eh g S k ⟨t.s,t.sum,t.pl⟩).fL).1) (g.ns.length+1) 0 ⟨List.replicate g.is.length false,(eh g S k ⟨t.s,t.sum,t.pl⟩).sum⟩).2.seen.map Value.bool) (0+((i:Nat):Int).toNat*1)=some (.bool b):=n3 i (by rw[gG,ou];rfl) (by omega);have nV:=N4 (r6:=tn g (k:Int)) ah ou gl jC;have aoQ:nth KT (B6+((i:Nat):Int).toNat*1)=some (.slice (some ⟨yw,0,none⟩) q.length cR):=m3;have N':nth wX (mv+((i:Nat):Int).toNat*1)=some (.slice (some ⟨ja,0,none⟩) l7.length l7.length):=kY;have gj:¬(y.1=tn g (k:Int)/\b=true)->fk nA eW 22 (.slice (some ⟨GO,B6,none⟩) g.is.length k6) ((n6 (tn g (k:Int)) g.is (g4 g S (k:Int) (kC (fT (gb g S) (fi g (k:Int)) (eh g S k ⟨t.s,t.sum,t.pl⟩).fL).1) (g.ns.length+1) 0 ⟨List.replicate g.is.length false,(eh g S k ⟨t.s,t.sum,t.pl⟩).sum⟩).2.seen S (eh g S k ⟨t.s,t.sum,t.pl⟩).pl).take (i+1)++(eh g S k ⟨t.s,t.sum,t.pl⟩).pl.drop (i+1)) td:=fun dR=>by
         have h:=HC;rw[aq dR] at nV;have aD:=Ab (vs:=(n6 (tn g (k:Int)) g.is (g4 g S (k:Int) (kC (fT (gb g S) (fi g (k:Int)) (eh g S k ⟨t.s,t.sum,t.pl⟩).fL).1) (g.ns.length+1) 0 ⟨List.replicate g.is.length false,(eh g S k ⟨t.s,t.sum,t.pl⟩).sum⟩).2.seen S (eh g S k ⟨t.s,t.sum,t.pl⟩).pl)) (Z:=(eh g S k ⟨t.s,t.sum,t.pl⟩).pl) (i:=i) (v:=q) (by omega) nV;rw[<-aD];have a5:((n6 (tn g (k:Int)) g.is (g4 g S (k:Int) (kC (fT (gb g S) (fi g (k:Int)) (eh g S k ⟨t.s,t.sum,t.pl⟩).fL).1) (g.ns.length+1) 0 ⟨List.replicate g.is.length false,(eh g S k ⟨t.s,t.sum,t.pl⟩).sum⟩).2.seen S (eh g S k ⟨t.s,t.sum,t.pl⟩).pl).take i++(eh g S k ⟨t.s,t.sum,t.pl⟩).pl.drop i).set i q=(n6 (tn g (k:Int)) g.is (g4 g S (k:Int) (kC (fT (gb g S) (fi g (k:Int)) (eh g S k ⟨t.s,t.sum,t.pl⟩).fL).1) (g.ns.length+1) 0 ⟨List.replicate g.is.length false,(eh g S k ⟨t.s,t.sum,t.pl⟩).sum⟩).2.seen S (eh g S k ⟨t.s,t.sum,t.pl⟩).pl).take i++(eh g S k ⟨t.s,t.sum,t.pl⟩).pl.drop i:=aiZ (by rw[II (by omega)];exact jC);rw[a5];exact h
        refine gn ?_;refine aJ ?_;refine ae.block ?_;refine rg ?_;refine U V.az ?_;refine U V.bf ?_;refine U V.qk ?_;refine' W.step rfl (.of (ic rfl rfl rfl (Gf Q g0) rfl rfl rfl fun g6=>?_));refine U V.a7 ?_;refine fF ?_;refine bP ?_;refine U V.bU ?_;refine U V.bL ?_;refine U V.az ?_;refine U V.bm ?_;refine U V.az ?_;refine eu 125 (fun LD=>?_) fun LD=>?_
        ·refine bg V.az ?_;refine bg V.l2 ?_;refine bg V.bU ?_;refine bg V.bL ?_;refine bg V.l2 ?_;refine bg V.bU ?_;refine bg V.bL ?_;refine bg V.az ?_;refine bg V.bf ?_;refine bg V.bL ?_;refine U V.bc ?_;refine ns ?_;refine If (fun KD=>?_) fun KD=>?_
         ·rw[aF ⟨LD,KD⟩] at nV;have E9:(List.zipWith (·+·) q l7).length=l7.length:=by rw[PK];omega
          refine rg ?_;refine aV ?_;refine U V.bL ?_;refine U V.az ?_;refine U V.bf ?_;refine U V.bL ?_;refine aV ?_;refine ns ?_;refine ae.block ?_;refine aJ ?_;refine ae.e7 (m':=[iv yw q Oj,bM ja l7]++([(ck,.row (ed ac (.slice (some ⟨GN,IV,none⟩) g.pl.toNat lr) t.r (fT (gb g S) (fi g (k:Int)) (eh g S k ⟨t.s,t.sum,t.pl⟩).fL).2 cT g.is.length c3 (.slice (some ⟨GO,B6,none⟩) g.is.length k6) (some ⟨mJ,mv,none⟩) g.is.length c8 bK g.ns.length g.ns.length cS) 73),(ac,.row (c6 g aT aP (some ⟨j6,n4,none⟩) ci (.slice bv (gr g g.ns.length).length eY) (k:Int) cj (g.ns.length+g.is.length) (g.ns.length+g.is.length) a1 (g.ns.length+g.is.length) (g.ns.length+g.is.length) (.slice (some ⟨cb,0,none⟩) g.is.length g.is.length)) 80),bM bK hY,bM a1 (m4 cy (fT (gb g S) (fi g (k:Int)) (eh g S k ⟨t.s,t.sum,t.pl⟩).fL).1),eU cb (g4 g S (k:Int) (kC (fT (gb g S) (fi g (k:Int)) (eh g S k ⟨t.s,t.sum,t.pl⟩).fL).1) (g.ns.length+1) 0 ⟨List.replicate g.is.length false,(eh g S k ⟨t.s,t.sum,t.pl⟩).sum⟩).2.seen]++(R++(dE.eraseIdx i++(j5++td.eraseIdx i))))) (ahE (uo pA) (uo jD)) ?_;refine' ae.fy (l':=[(145,.int .i64 ((0):Int)),(0,_),(6,_),(7,_),(53,_),(54,_),(114,_),(115,_),(116,_),(143,_),(144,_)]) ⟨?akK,rfl,rfl,rfl,rfl,rfl,rfl,rfl,rfl,rfl,rfl,trivial⟩ (bV _) ?_;case akK=>exact ec
          refine aJ ?_;refine' ae.cf (fun(cU:Nat×(List Nat))=>match cU with|(a,g1)=>⟨[(145,.int .i64 (a:Int))],[iv yw ((List.zipWith (·+·) q l7).take a++q.drop a) g1,bM ja l7]++([(ck,.row (ed ac (.slice (some ⟨GN,IV,none⟩) g.pl.toNat lr) t.r (fT (gb g S) (fi g (k:Int)) (eh g S k ⟨t.s,t.sum,t.pl⟩).fL).2 cT g.is.length c3 (.slice (some ⟨GO,B6,none⟩) g.is.length k6) (some ⟨mJ,mv,none⟩) g.is.length c8 bK g.ns.length g.ns.length cS) 73),(ac,.row (c6 g aT aP (some ⟨j6,n4,none⟩) ci (.slice bv (gr g g.ns.length).length eY) (k:Int) cj (g.ns.length+g.is.length) (g.ns.length+g.is.length) a1 (g.ns.length+g.is.length) (g.ns.length+g.is.length) (.slice (some ⟨cb,0,none⟩) g.is.length g.is.length)) 80),bM bK hY,bM a1 (m4 cy (fT (gb g S) (fi g (k:Int)) (eh g S k ⟨t.s,t.sum,t.pl⟩).fL).1),eU cb (g4 g S (k:Int) (kC (fT (gb g S) (fi g (k:Int)) (eh g S k ⟨t.s,t.sum,t.pl⟩).fL).1) (g.ns.length+1) 0 ⟨List.replicate g.is.length false,(eh g S k ⟨t.s,t.sum,t.pl⟩).sum⟩).2.seen]++(R++(dE.eraseIdx i++(j5++td.eraseIdx i)))),eW,a<=l7.length,l7.length -a⟩) ⟨0,Oj⟩ ?al ?cp
          case al=>exact dV _
          case cp=>
           rintro⟨a,g1⟩ hinv;try simp only at hinv
           have aW:=hinv;refine rg ?_;refine U V.bm ?_;refine ns ?_;refine If (fun YL=>?_) fun YL=>?_
           ·obtain⟨x,I⟩:∃w,l7[a]?=some w:=⟨_,du (by omega)⟩;obtain⟨u,hu⟩:∃w,q[a]?=some w:=⟨_,du (by omega)⟩;have Nc:=aeh x (cV I);have aeA:=H8 a u hu;have qi:(List.zipWith (·+·) q l7)[a]?=some (u+x):=by rw[J8,hu,I]
            have gk:nth (l7.map (Value.int .i64)) (0+((a:Nat):Int).toNat*1)=some (.int .i64 x):=n3 a (by rw[gG,I];rfl) (by omega);have zu:nth (((List.zipWith (·+·) q l7).take a++q.drop a).map (Value.int .i64)) (0+((a:Nat):Int).toNat*1)=some (.int .i64 u):=n3 a (by rw[gG,II (by omega),hu];rfl) (by omega);refine gn ?_;refine aJ ?_;refine ae.block ?_;refine rg ?_;refine U V.az ?_;refine U V.bf ?_;refine U V.bL ?_;refine aV ?_;refine bP ?_;refine aV ?_;refine U V.bL ?_;refine U V.az ?_;refine U V.bf ?_;refine U V.bL ?_;refine U V.az ?_;refine U V.bf ?_;refine U V.bL ?_;refine U V.az ?_;refine U V.va ?_;refine U V.bf ?_;refine' W.step rfl (.of (CD rfl rfl rfl rfl (h' rfl) rfl rfl rfl ?aa ?al ?bC ?au ?_));case au=>exact .refl _
            case al=>exact pC a (by rw[er,fc,jJ];omega)
            case aa=>first|rfl|assumption
            case bC=>exact dV _
            refine bu ?_;rw[Ab (by omega) qi];refine rg ?_;refine U V.va ?_;refine U V.az ?_;refine bu ?_;refine e2 ⟨a+1,[]⟩ ?_;exact(by omega)
           ·obtain rfl:a=l7.length:=by omega
            have vv:(List.zipWith (·+·) q l7).take l7.length++q.drop l7.length=List.zipWith (·+·) q l7:=IJ E9 (by omega);have zc:=Oc (List.zipWith (·+·) q l7) g1 (by omega);rw[Ab (by omega) nV] at zc;refine ae.gZ (ahF (fl (fun l=>iv yw l g1) vv) (uo pA) (I8 jD)) ?_;refine aJ ?_;refine ae.exit ?_;refine rg ?_;refine U V.va ?_;refine U V.az ?_;refine bu ?_;refine e2 ⟨i+1,td.set i (iv yw (List.zipWith (·+·) q l7) g1)⟩ ?_ (hm:=.refl _);exact⟨by omega,zc⟩
         ·have zc:=gj (fun h=>absurd (KD.symm.trans h.2) (by decide));refine n0 ?_;refine U V.va ?_;refine U V.az ?_;refine bu ?_;refine e2 ⟨i+1,td⟩ ?_ (hm:=.cons _ (.refl _));exact⟨by omega,zc⟩
        ·have zc:=gj (fun h=>LD h.1);refine a0 ?_;refine a0 ?_;refine a0 ?_;refine a0 ?_;refine a0 ?_;refine a0 ?_;refine a0 ?_;refine a0 ?_;refine a0 ?_;refine a0 ?_;refine U V.bc ?_;refine ns ?_;refine ae.u4 rfl ?_;refine n0 ?_;refine U V.va ?_;refine U V.az ?_;refine bu ?_;refine e2 ⟨i+1,td⟩ ?_ (hm:=.cons _ (.refl _));exact⟨by omega,zc⟩
      ·
        obtain rfl:i=g.is.length:=by omega
        rw[IJ (FJ.trans bE.2.1) bE.2.1] at HC;refine aJ ?_;refine ae.exit ?_;refine rg ?_;refine U V.va ?_;refine U V.az ?_;refine bu ?_;refine e2 ⟨k+1,(k:Int),hY,m4 cy (fT (gb g S) (fi g (k:Int)) (eh g S k ⟨t.s,t.sum,t.pl⟩).fL).1,(g4 g S (k:Int) (kC (fT (gb g S) (fi g (k:Int)) (eh g S k ⟨t.s,t.sum,t.pl⟩).fL).1) (g.ns.length+1) 0 ⟨List.replicate g.is.length false,(eh g S k ⟨t.s,t.sum,t.pl⟩).sum⟩).2.seen,j5,td⟩ ?_;exact⟨by omega,oA,by rw[Jt];exact vk,Ig,lU,HC⟩
    ·obtain rfl:k=g.pl.toNat:=by omega
     refine aJ ?_;refine ae.exit ?_;refine rg ?_;refine aV ?_;refine U V.bL ?_;refine U V.va ?_;refine aV ?_;refine fF ?_;refine bP ?_;refine U V.az ?_;refine' W.step rfl (Exec.call rfl rfl rfl rfl rfl rfl rfl (a4:=_::(cu++lO)) (b2:=[_,_,_,_]++(R++dE)) Vi trivial (ae0 hw k7 kd bE (by omega)) ?_);rintro v' m' ag hle ⟨rfl,rfl,rfl⟩;refine U V.a7 ?_;refine bu ?_;refine ae.gZ Vi.symm ?_;refine aJ ?_;refine ae.ret ?_;refine'⟨.inr rfl,rfl,_,_,.tmp rfl .nil,bV _,?_⟩;subst LX;refine⟨rfl,ev,ac,cj,a1,cb,bK,bv,eY,cells,e,pU,wO,lr,cT,c3,lo,k6,dd,c8,p,cS,cG,cy,eX,_,_,R,dE,cu,lO,rfl,za,Es,vk,A9,bB,gi.mono ev,sm,sq,gB,⟨Sq,fun i r y ax ah=>?_⟩,gA,⟨xc,fun i r y ax ah=>?_⟩,k7,kd⟩
     ·rw[gG] at ax
      obtain⟨VS,BC,rfl⟩:=P2.1 ax;rw[tv];exact(tO.1.2 i VS y BC ah).1
     ·exact(tO.1.2 i r y ax ah).1
end
end
end Go.Opn
