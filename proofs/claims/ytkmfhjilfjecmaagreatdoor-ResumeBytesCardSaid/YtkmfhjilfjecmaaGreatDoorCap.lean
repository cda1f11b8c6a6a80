/- A part of the proof of ResumeBytes. -/
import Derived.Test.YtkmfhjilfjecmaaGreatDoorCao
import Derived.Lib.LaidTab
set_option linter.unusedVariables false
set_option linter.unusedSimpArgs false
namespace Go.Cre
noncomputable section
open Go.RowKit
section
variable {P:Program}{B:Nat->Prop}{w0 w br:World}{μ:bY}{H H0:aA}
theorem b9.grow(h:b9 P B w0 μ H w)(ap:Below w.heap.size w br):b9 P B w0 μ H br:=by
 have cV:∀x bN,μ x=some bN->bN.r<w.heap.size:=fun x bN U=>by
  obtain⟨b',o',_,ar,_⟩:=h.fT x bN U;rcases ji bN.r w.heap.size with dZ|dZ
  ·exact dZ
  ·rw[tg dZ] at ar;cases ar
 refine⟨h.below.trans (.alL ap h.n3),fun k aO=>yD (h.n3 k aO) ap.size,fun x L U=>?_,h.sep,h.lt,h.own,h.new,h.tO,h.kO,h.rm,h.lb,h.vA⟩;obtain⟨b,o,aa,ae,aF⟩:=h.fT x L U;exact⟨b,o,aa,by rw[ap.block _ (cV x L U)];exact ae,aF⟩
def JD(H0:aA)(B:Nat->Prop):Prop:=∀g b,H0.mem.get g=some b->b≠.dead->B g
theorem Laid.eC{B:Nat->Prop}(h:Laid P w0 H0)(dd:JD H0 B)(aO:Kept B w0 w):Laid P w H0:=by
 refine⟨h.bI,h.ak,fun g b aq=>?_⟩;rcases h.rows g b aq with q|⟨cells,e,f,bb,a7,b8,fl,jb⟩
 ·exact .inl q
 ·exact .inr ⟨cells,e,f,bb,a7,by rw[aO.block g (dd g b aq (by rw[bb];intro q;cases q))];exact b8,fl,jb⟩
theorem Laid.ll(h:Laid P w0 H0):JD H0 (fun k=>k<w0.heap.size):=fun g b aq ap=>by
 rcases h.rows g b aq with q|⟨cells,e,f,bb,a7,b8,fl,jb⟩
 ·exact absurd q ap
 ·exact(Sk.1 b8).1
end
end
end Go.Cre
namespace Go.Cre
noncomputable section
end
end Go.Cre
namespace Go.Cre
noncomputable section
open Go.RowKit
open Classical
structure dD (P:Program) where
 ok:(Nat->Prop)->World->Prop
 up:∀B w0 h4 iI,ok B w0->(∀k,B k->h4 k)->Kept B w0 iI->ok h4 iI
def lG (c:Code)(S:bh)(H:aA)(r:Exit×bh×aA):Code->bh->aA->Option (Exit×bh×aA):=fun cd aS H'=>if cd=c/\aS=S/\H'=H then some r else none
def k8 (f:FuncId)(args:List Value)(H:aA)(r:Ending×aA):eH:=fun cP cz H'=>if cP=f/\cz=args/\H'=H then some r else none
def eg{P:Program}(Q:dD P)(c:Code)(S:bh)(H:aA)(e:Exit)(aS:bh)(H':aA):Prop:=∀B w0,Q.ok B w0->sa P B w0 (lG c S H (e,aS,H'))
def ly{P:Program}(Q:dD P)(f:FuncId)(args:List Value)(H:aA)(e:Ending)(H':aA):Prop:=∀B w0,Q.ok B w0->qV P B w0 (k8 f args H (e,H'))
def tE {P:Program}(Q:dD P)(pick:Code->bh->aA->Option (Exit×bh×aA)):Code->bh->aA->Option (Exit×bh×aA):=fun c S H=>match pick c S H with
 |some (e,aS,H')=>if eg Q c S H e aS H' then some (e,aS,H') else none
 |none=>none
def hM {P:Program}(Q:dD P)(pick:eH):eH:=fun f args H=>match pick f args H with
 |some (e,H')=>if ly Q f args H e H' then some (e,H') else none
 |none=>none
section
variable {P:Program}{Q:dD P}{B:Nat->Prop}{w0:World}
theorem Du(pick:Code->bh->aA->Option (Exit×bh×aA))(fU:Q.ok B w0):sa P B w0 (tE Q pick):=by
 intro c S H e aS H' he;unfold tE at he;split at he
 ·split at he
  ·rename_i ei;simp only[cp,dB] at he;obtain⟨rfl,rfl,rfl⟩:=he;exact ei B w0 fU c S H _ _ _ (by unfold lG;rw[aE ⟨rfl,rfl,rfl⟩])
  ·cases he
 ·cases he
theorem Nv(pick:eH)(fU:Q.ok B w0):qV P B w0 (hM Q pick):=by
 intro f args H e H' he;unfold hM at he;split at he
 ·split at he
  ·rename_i ei;simp only[cp,dB] at he;obtain⟨rfl,rfl⟩:=he;exact ei B w0 fU f args H _ _ (by unfold k8;rw[aE ⟨rfl,rfl,rfl⟩])
  ·cases he
 ·cases he
def gH {P:Program}(Q:dD P)(fu:Code->bh->aA->Option (Exit×bh×aA))(aU:eH):gZ:=
 ⟨tE Q fu,fun f args b5 bF H=>if b5=true then none else match hM Q aU f args H with|some (e,H')=>some (e,bF,H')|none=>none⟩
theorem Jy(fu:Code->bh->aA->Option (Exit×bh×aA))(aU:eH):(gH Q fu aU).call=hM Q aU:=by
 funext f args H
 unfold gZ.call gH;simp only[Fx,EA];cases hM Q aU f args H with
 |none=>rfl
 |some p=>rfl
theorem eg.yb(o3:P.follows .mixedOrders=true){c:Code}{S aS:bh}{H H':aA}{e:Exit}(fu:Code->bh->aA->Option (Exit×bh×aA))(aU:eH)(h:Kp P (gH Q fu aU) c S H=some (e,aS,H')):eg Q c S H e aS H':=by
 intro B w0 fU;have lc:∀(h4:Nat->Prop) (iI:World),(∀k,B k->h4 k)->Kept B w0 iI->Q.ok h4 iI:=fun h4 iI a b=>Q.up B w0 h4 iI fU a b;have aC:∀(h4:Nat->Prop) (iI:World),Q.ok h4 iI->sa P h4 iI (gH Q fu aU).code:=fun h4 iI q=>Du fu q;have aO:∀(h4:Nat->Prop) (iI:World),Q.ok h4 iI->qV P h4 iI (gH Q fu aU).call:=fun h4 iI q=>by rw[Jy];exact Nv aU q
 have hs:=UO (P:=P) (B:=B) (w0:=w0) (E:=gH Q fu aU) o3 (aC B w0 fU) (fun h4 iI a b=>aO h4 iI (lc h4 iI a b)) (fun h4 iI a b=>MH (aC h4 iI (lc h4 iI a b)));intro c1 bn H1 aL SX Jz he;unfold lG at he;split at he
 ·rename_i q;obtain⟨rfl,rfl,rfl⟩:=q;simp only[cp,dB] at he;obtain⟨rfl,rfl,rfl⟩:=he;exact hs _ _ _ _ _ _ h
 ·cases he
theorem adg{c:Code}{S aS:bh}{H H':aA}{e:Exit}(h:eg Q c S H e aS H'){fu:Code->bh->aA->Option (Exit×bh×aA)}(au:fu c S H=some (e,aS,H')):tE Q fu c S H=some (e,aS,H'):=by
 unfold tE;rw[au];simp only;rw[aE h]
theorem Dm{f:FuncId}{args:List Value}{H H':aA}{e:Ending}(h:ly Q f args H e H'){aU:eH}(au:aU f args H=some (e,H')):hM Q aU f args H=some (e,H'):=by
 unfold hM;rw[au];simp only;rw[aE h]
def gW:Code->bh->aA->Option (Exit×bh×aA):=fun _ _ _=>none
def lq:eH:=fun _ _ _=>none
theorem eg.skip(o3:P.follows .mixedOrders=true){S:bh}{H:aA}:eg Q .skip S H .normal S H:=eg.yb o3 gW lq rfl
theorem eg.ret(o3:P.follows .mixedOrders=true){S:bh}{H:aA}:eg Q .ret S H .ret S H:=eg.yb o3 gW lq rfl
theorem eg.exit(o3:P.follows .mixedOrders=true){S:bh}{H:aA}{id:Nat}:eg Q (.exit id) S H (.exit id) S H:=eg.yb o3 gW lq rfl
theorem eg.mk{c:Code}{S aS:bh}{H H':aA}{e:Exit}(h:∀B w0,Q.ok B w0->∀μ w fr tmps ds cs k it,b9 P B w0 μ H w->iS μ S fr tmps ds cs->yG c it->mP P B w0 μ H S fr cs (lone (ck fr tmps ds (it::k)) cs w) k aS H' e):eg Q c S H e aS H':=by
 intro B w0 fU c1 bn H1 aL SX Jz he;unfold lG at he;split at he
 ·rename_i q;obtain⟨rfl,rfl,rfl⟩:=q;simp only[cp,dB] at he;obtain⟨rfl,rfl,rfl⟩:=he;exact h B w0 fU
 ·cases he
theorem eg.use{c:Code}{S aS:bh}{H H':aA}{e:Exit}(h:eg Q c S H e aS H')(fU:Q.ok B w0){μ:bY}{w:World}{fr:Frame}{tmps:Array Value}{ds:List Deferred}{cs:List Frame}{k:List Item}{it:Item}(pz:b9 P B w0 μ H w)(fJ:iS μ S fr tmps ds cs)(hs:yG c it):
 mP P B w0 μ H S fr cs (lone (ck fr tmps ds (it::k)) cs w) k aS H' e:=h B w0 fU c S H e aS H' (by unfold lG;rw[aE ⟨rfl,rfl,rfl⟩]) μ w fr tmps ds cs k it pz fJ hs
theorem yG.plain{c:Code}{it:Item}(h:yG c it)(aP:∀cd,c≠.loop cd):it=.code c:=by
 rcases h with q|⟨cd,q,_⟩
 ·exact q
 ·exact absurd q (aP cd)
theorem eg.seq{a b:Code}{S bn gx:bh}{H H1 cv:aA}{e:Exit}(aa:eg Q a S H .normal bn H1)(ae:eg Q b bn H1 e gx cv):eg Q (.seq a b) S H e gx cv:=by
 refine .mk fun B w0 fU μ w fr tmps ds cs k it pz fJ hs=>?_;obtain rfl:=hs.plain (fun _ q=>by cases q);exact((aa.use (k:=.code b::k) fU pz fJ (.inl rfl)).bind fun f' eK t1 d1 gl lQ=>ae.use fU lQ.h lQ.f (.inl rfl)).steps (.one RI)
theorem eg.I4{a b:Code}{S bn:bh}{H H1:aA}{e:Exit}(aa:eg Q a S H e bn H1)(aP:e≠.normal):eg Q (.seq a b) S H e bn H1:=by
 refine .mk fun B w0 fU μ w fr tmps ds cs k it pz fJ hs=>?_;obtain rfl:=hs.plain (fun _ q=>by cases q);exact((aa.use (k:=.code b::k) fU pz fJ (.inl rfl)).steps (.one RI)).pass (fun id _=>rfl) aP
theorem yG.loop{c:Code}{it:Item}(h:yG (.loop c) it){fr:Frame}{tmps:Array Value}{ds:List Deferred}{cs:List Frame}{k:List Item}{w:World}:step P (lone (ck fr tmps ds (it::k)) cs w)=.next (lone (ck fr tmps ds (.code c::.inLoop c::k)) cs w):=by
 rcases h with rfl|⟨cd,q,rfl⟩
 ·exact ZE
 ·injection q with q;subst q;exact ZD
theorem eg.ak0{c:Code}{S bn gx:bh}{H H1 cv:aA}{e:Exit}(aa:eg Q c S H .normal bn H1)(ae:eg Q (.loop c) bn H1 e gx cv):eg Q (.loop c) S H e gx cv:=by
 refine .mk fun B w0 fU μ w fr tmps ds cs k it pz fJ hs=>?_;exact((aa.use (k:=.inLoop c::k) fU pz fJ (.inl rfl)).bind fun f' eK t1 d1 gl lQ=>ae.use fU lQ.h lQ.f (.inr ⟨c,rfl,rfl⟩)).steps (.one hs.loop)
theorem eg.Ip{c:Code}{S bn:bh}{H H1:aA}{e:Exit}(aa:eg Q c S H e bn H1)(aP:e≠.normal):eg Q (.loop c) S H e bn H1:=by
 refine .mk fun B w0 fU μ w fr tmps ds cs k it pz fJ hs=>?_;exact((aa.use (k:=.inLoop c::k) fU pz fJ (.inl rfl)).steps (.one hs.loop)).pass (fun id _=>rfl) aP
theorem Dt{c:Code}{S aS:bh}{H H':aA}{e:Exit}(h:eg Q c S H e aS H'):tE Q (lG c S H (e,aS,H')) c S H=some (e,aS,H'):=adg h (by unfold lG;rw[aE ⟨rfl,rfl,rfl⟩])
theorem eg.cond(o3:P.follows .mixedOrders=true){x:Operand}{a b:Code}{t:Bool}{S aS:bh}{H H':aA}{e:Exit}(U:bj S.T H x=some (.bool t))(h:eg Q (if t=true then a else b) S H e aS H'):eg Q (.cond x a b) S H e aS H':=by
 cases t with
 |true=>
  refine eg.yb o3 (lG a S H (e,aS,H')) lq ?_;show Kf _ S H a b (bj S.T H x)=_;rw[U];exact Dt h
 |false=>
  refine eg.yb o3 (lG b S H (e,aS,H')) lq ?_;show Kf _ S H a b (bj S.T H x)=_;rw[U];exact Dt h
theorem eg.block(o3:P.follows .mixedOrders=true){id:Nat}{c:Code}{S aS:bh}{H H':aA}{e:Exit}(h:eg Q c S H e aS H'):eg Q (.block id c) S H (match e with|.exit j=>if j=id then .normal else .exit j|e=>e) aS H':=by
 refine eg.yb o3 (lG c S H (e,aS,H')) lq ?_;show Nu id (tE Q (lG c S H (e,aS,H')) c S H)=_;rw[Dt h];cases e with
 |exit j=>
  show(bif Nat.beq j id then some (Exit.normal,aS,H') else some (Exit.exit j,aS,H'))=_;by_cases a':j=id
  ·subst a';simp
  ·have:Nat.beq j id=false:=by
    cases q:Nat.beq j id
    ·rfl
    ·exact absurd (eO q) a'
   rw[this,dT];simp[a']
 |_=>rfl
theorem aaU(fu:Code->bh->aA->Option (Exit×bh×aA))(aU:eH):uV P B w0 (gH Q fu aU).body:=by
 intro f args bF H e gh H' he;unfold gH at he;simp at he
theorem ly.cH{fq:bg Func}(dt:to P fq){f:FuncId}{args:List Value}{H H':aA}{e:Ending}{bF:FrameMode}(fu:Code->bh->aA->Option (Exit×bh×aA))(aU:eH)(h:sB P fq (gH Q fu aU) f args false .run H=some (e,bF,H')):ly Q f args H e H':=by
 intro B w0 fU f1 vd H1 aL Jz he;unfold k8 at he;split at he
 ·rename_i q;obtain⟨rfl,rfl,rfl⟩:=q;simp only[cp,dB] at he;obtain⟨rfl,rfl⟩:=he;exact N1 (E:=gH Q fu aU) dt (Du fu fU) (aaU fu aU) f1 vd H1 _ _ (by unfold gZ.call;simp only;rw[h])
 ·cases he
theorem ly.run{fq:bg Func}(dt:to P fq){f:FuncId}{fn:Func}{c:Code}{args:List Value}{T:bg Value}{H H1 H':aA}{bn:bh}{x:Exit}{e:Ending}{bF:FrameMode}(aD:fq.get f=some fn)(ap:fn.body=some c)(a1:n2 args 0 (blank fn.ntmps)=some T)
 (aC:eg Q c ⟨T,fn.ntmps,[],false,.run,none⟩ H x bn H1)(he:w2 P (gH Q (lG c ⟨T,fn.ntmps,[],false,.run,none⟩ H (x,bn,H1)) lq) fn (some (x,bn,H1))=some (e,bF,H')):ly Q f args H e H':=by
 refine ly.cH dt (lG c ⟨T,fn.ntmps,[],false,.run,none⟩ H (x,bn,H1)) lq (bF:=bF) ?_;unfold sB;rw[aD];show F' P _ f fn args false .run H fn.body=_;rw[ap];show Ga P _ fn c false .run H (n2 args 0 (blank fn.ntmps))=_;rw[a1];show w2 P _ fn (tE Q _ c ⟨T,fn.ntmps,[],false,.run,none⟩ H)=_;rw[Dt aC];exact he
end
end
end Go.Cre
namespace Go.Cre
noncomputable section
open Go.RowKit
def bg.has{α:Type}(T:bg α)(n:Nat):Prop:=∀t,t<n->∃v,T.get t=some v
end
end Go.Cre
namespace Go.Opn
noncomputable section
open Go.Cre
open Go.RowKit
theorem bg.E4{α:Type}(a:α):∀(T:bg α) (n:Nat),(∀m,m<n->∃v,T.get m=some v)->∃eR,bg.put a T n=some eR:=by
 intro T;induction T with
 |leaf=>
  intro n h;cases n with
  |zero=>exact⟨_,rfl⟩
  |succ n=>obtain⟨v,ay⟩:=h 0 (by omega);cases ay
 |node v l r xY xZ=>
  intro n h;cases n with
  |zero=>exact⟨_,rfl⟩
  |succ n=>
   rw[bg.L4];by_cases aP:n % 2=0
   ·rw[aE aP];obtain⟨l',av⟩:=xY (n / 2) fun m hm=>by
     obtain⟨v',ay⟩:=h (2*m+1) (by omega);rw[bg.rq,aE (by omega),show 2*m / 2=m by omega] at ay;exact⟨v',ay⟩
    rw[av];exact⟨_,rfl⟩
   ·rw[an aP];obtain⟨dx,aw⟩:=xZ (n / 2) fun m hm=>by
     obtain⟨v',ay⟩:=h (2*m+1+1) (by omega);rw[bg.rq,an (by omega),show(2*m+1) / 2=m by omega] at ay;exact⟨v',ay⟩
    rw[aw];exact⟨_,rfl⟩
structure jk (H:aA):Prop where
 here:∀a,a<H.ak->∃b,H.mem.get a=some b
 gone:∀a,H.ak<=a->H.mem.get a=none
 DQ:∀f,f<H.cn->∃l,H.bI.get f=some l
 GU:∀f,H.cn<=f->H.bI.get f=none
 kO:H.bW<=H.ak
theorem jk.lt{H:aA}(h:jk H){a:Nat}{b:fg}(g:H.mem.get a=some b):a<H.ak:=by
 rcases ji a H.ak with q|q
 ·exact q
 ·rw[h.gone a q] at g;cases g
theorem jk.DS{H:aA}(h:jk H){f:Nat}{l:List Nat}(g:H.bI.get f=some l):f<H.cn:=by
 rcases ji f H.cn with q|q
 ·exact q
 ·rw[h.GU f q] at g;cases g
theorem jk.new{H:aA}(h:jk H)(b:fg):∃H1,H.new b=some (H.ak,H1):=by
 obtain⟨mem,ak,bI,cn,bW⟩:=H;obtain⟨T,dn⟩:=bg.E4 b mem ak h.here;refine⟨⟨T,ak+1,bI,cn,bW⟩,?_⟩;show aA.QM ak bI cn bW (bg.put b mem ak)=_;rw[dn];rfl
theorem jk.QP{H H1:aA}{b:fg}{id:Nat}(h:jk H)(e:H.new b=some (id,H1)):jk H1:=by
 obtain⟨_,bk,cG,eL,cu,jr⟩:=aA.pM e;refine⟨fun a a1=>?_,fun a a1=>?_,by rw[cG,eL];exact h.DQ,by rw[cG,eL];exact h.GU,by have:=h.kO;omega⟩
 ·rw[jr];split
  ·exact⟨_,rfl⟩
  ·exact h.here a (by omega)
 ·rw[jr,an (by omega)];exact h.gone a (by omega)
theorem jk.upd{H:aA}(h:jk H){a:Nat}(b:fg)(a1:a<H.ak):∃H1,H.upd a b=some H1:=by
 obtain⟨mem,ak,bI,cn,bW⟩:=H;obtain⟨x,U⟩:=h.here a a1;obtain⟨T,dn⟩:=bg.IX (a:=b) U;refine⟨⟨T,ak,bI,cn,bW⟩,?_⟩;show aA.Z1 ak bI cn bW (bg.put b mem a)=_;rw[dn];rfl
theorem jk.Mw{H H1:aA}{b:fg}{a:Nat}(h:jk H)(a1:a<H.ak)(e:H.upd a b=some H1):jk H1:=by
 obtain⟨aL,bk,cG,eL,cu⟩:=aA.wB e;refine⟨fun x U=>?_,fun x U=>?_,by rw[bk,cG];exact h.DQ,by rw[bk,cG];exact h.GU,by have:=h.kO;omega⟩
 ·rw[cu];split
  ·exact⟨_,rfl⟩
  ·exact h.here x (by omega)
 ·rw[cu,an (by omega)];exact h.gone x (by omega)
theorem jk.wi{H:aA}(h:jk H):∃H1,H.wi=some (H.cn,H1):=by
 obtain⟨mem,ak,bI,cn,bW⟩:=H;obtain⟨T,dn⟩:=bg.E4 [ak] bI cn h.DQ;refine⟨⟨mem,ak,T,cn+1,bW⟩,?_⟩;show aA.QN mem ak cn bW (bg.put [ak] bI cn)=_;rw[dn];rfl
theorem jk.als{H H1:aA}{f:Nat}(h:jk H)(e:H.wi=some (f,H1)):jk H1:=by
 obtain⟨aL,bk,cG,eL,cu,jr⟩:=aA.LG e;refine⟨by rw[bk,cG];exact h.here,by rw[bk,cG];exact h.gone,fun x U=>?_,fun x U=>?_,by have:=h.kO;omega⟩
 ·rw[jr];split
  ·exact⟨_,rfl⟩
  ·exact h.DQ x (by omega)
 ·rw[jr,an (by omega)];exact h.GU x (by omega)
theorem jk.qK{H:aA}(h:jk H){f:Nat}(l:List Nat)(aD:f<H.cn):∃H1,H.qK f l=some H1:=by
 obtain⟨mem,ak,bI,cn,bW⟩:=H;obtain⟨x,U⟩:=h.DQ f aD;obtain⟨T,dn⟩:=bg.IX (a:=l) U;refine⟨⟨mem,ak,T,cn,bW⟩,?_⟩;show aA.Zk mem ak cn bW (bg.put l bI f)=_;rw[dn];rfl
theorem jk.Me{H H1:aA}{f:Nat}{l:List Nat}(h:jk H)(aD:f<H.cn)(e:H.qK f l=some H1):jk H1:=by
 obtain⟨aL,bk,cG,eL,cu⟩:=aA.Cu e;refine⟨by rw[aL,bk];exact h.here,by rw[aL,bk];exact h.gone,fun x U=>?_,fun x U=>?_,by have:=h.kO;omega⟩
 ·rw[cu];split
  ·exact⟨_,rfl⟩
  ·exact h.DQ x (by omega)
 ·rw[cu,an (by omega)];exact h.GU x (by omega)
structure e7 where
 ds:List Deferred
 cK:Option Nat
 b5:Bool
 bF:FrameMode
def Km:e7:=⟨[],none,false,.run⟩
structure cf where
 n:Nat
 ds:e7
 l:List (Nat×Value)
def look:List (Nat×Value)->Nat->Option Value
 |[],_=>none
 |(u,v)::l,t=>bif Nat.beq t u then some v else look l t
structure Sat (E:cf) (S:bh):Prop where
 n:S.n=E.n
 ds:S.ds=E.ds.ds
 b5:S.b5=E.ds.b5
 bF:S.bF=E.ds.bF
 cK:S.cK=E.ds.cK
 has:S.T.has E.n
 get:∀t v,look E.l t=some v->S.T.get t=some v
def cf.put (E:cf):Option Tmp->Value->cf
 |none,_=>E
 |some d,v=>⟨E.n,E.ds,(d,v)::E.l⟩
def UB (n:Nat):Option Tmp->Bool
 |none=>true
 |some d=>Nat.blt d n
theorem Sat.put{E:cf}{S:bh}(h:Sat E S){dst:Option Tmp}(aV:UB E.n dst=true)(v:Value):∃bn,S.put dst v=some bn/\Sat (E.put dst v) bn:=by
 cases dst with
 |none=>exact⟨S,rfl,h⟩
 |some d=>
  obtain⟨T,n,ds,b5,bF,cK⟩:=S;have aP:n=E.n:=h.n;have cV:d<E.n:=by simpa[UB] using aV
  obtain⟨x,U⟩:=h.has d cV;obtain⟨eR,dn⟩:=bg.IX (a:=v) U;refine⟨⟨eR,n,ds,b5,bF,cK⟩,?_,h.n,h.ds,h.b5,h.bF,h.cK,fun t aB=>?_,fun t u hu=>?_⟩
  ·show Bool.rec (motive:=fun _=>Option bh) none (bh.uE n ds b5 bF cK (bg.put v T d)) (Nat.ble (Nat.succ d) n)=_;have ap:Nat.ble (Nat.succ d) n=true:=j8 (by rw[aP];exact cV);rw[ap,dn];rfl
  ·show ∃v,eR.get t=some v;rw[bg.get_put dn];split
   ·exact⟨_,rfl⟩
   ·exact h.has t aB
  ·show eR.get t=some u;rw[bg.get_put dn];have hu:(bif Nat.beq t d then some v else look E.l t)=some u:=hu;by_cases e:t=d
   ·subst e;rw[aE rfl];simpa using hu
   ·rw[an e];have ap:Nat.beq t d=false:=by
     cases q:Nat.beq t d
     ·rfl
     ·exact absurd (eO q) e
    rw[ap,dT] at hu;exact h.get t u hu
theorem Sat.c0{E:cf}{S:bh}(h:Sat E S){l:List (Nat×Value)}(av:∀t v,look l t=some v->look E.l t=some v):Sat ⟨E.n,E.ds,l⟩ S:=
 ⟨h.n,h.ds,h.b5,h.bF,h.cK,h.has,fun t v q=>h.get t v (av t v q)⟩
abbrev aH:=Nat->Option (List Value×TypeId)
def aH.le(J af:aH):Prop:=∀a x,J a=some x->af a=some x
theorem aH.le.refl(J:aH):J.le J:=fun _ _ h=>h
theorem aH.le.trans{J dO e2:aH}(h:J.le dO)(k:dO.le e2):J.le e2:=fun a x q=>k a x (h a x q)
inductive cC where
 |row (cells:List Value) (e:TypeId)
 |opn (cells:List Value) (e:TypeId) (rest:List Nat) (z:Nat)
 |h6 (cells:List Value) (e:TypeId)
 |map (es:List MapEntry) (clock:Nat)
 |loop (r:Sf)
 |iW
def cC.at(F:Nat->Prop)(H:aA)(a:Nat):cC->Prop
 |.row cells e=>H.mem.get a=some (.row cells e false 0 0 false)
 |.opn cells e rest z=>∃f,F f/\H.mem.get a=some (.row cells e true f z false)/\H.bI.get f=some (a::rest)
 |.h6 cells e=>∃f,F f/\H.mem.get a=some (.row cells e true f 0 true)/\H.bI.get f=some [a]
 |.map es clock=>H.mem.get a=some (.map es clock)
 |.loop r=>H.mem.get a=some (.loop r)
 |.iW=>H.mem.get a=some (.iW (some []))
def cC.rest:cC->List Nat
 |.opn _ _ r _=>r
 |_=>[]
def ids:List (Nat×cC)->List Nat
 |[]=>[]
 |(a,b)::m=>a::(b.rest++ids m)
theorem Lh:∀(m m':List (Nat×cC)),ids (m++m')=ids m++ids m':=by
 intro m m';induction m with
 |nil=>rfl
 |cons x m aI=>show x.1::(x.2.rest++ids (m++m'))=_;rw[aI];simp[ids]
theorem BR{a:Nat}:∀{m:List (Nat×cC)},a∈ids m↔∃x∈m,a=x.1\/a∈x.2.rest:=by
 intro m;induction m with
 |nil=>simp[ids]
 |cons x m aI=>
  show a∈x.1::(x.2.rest++ids m)↔_;rw[e3,ko,aI];constructor
  ·rintro(h|h|⟨y,aa,ae⟩)
   ·exact⟨x,.head _,.inl h⟩
   ·exact⟨x,.head _,.inr h⟩
   ·exact⟨y,.tail _ aa,ae⟩
  ·rintro⟨y,aa,ae⟩;rcases e3.1 aa with q|q
   ·subst q;rcases ae with ae|ae
    ·exact .inl ae
    ·exact .inr (.inl ae)
   ·exact .inr (.inr ⟨y,q,ae⟩)
theorem xW{a:Nat}{b:cC}{m:List (Nat×cC)}(h:(a,b)∈m):a∈ids m:=BR.2 ⟨_,h,.inl rfl⟩
theorem akh{m m':List (Nat×cC)}(h:m'.Sublist m):(ids m').Sublist (ids m):=by
 induction h with
 |slnil=>exact bu _
 |cons x _ aI=>exact .cons _ (aI.trans (JM _ _))
 |cons_cons x _ aI=>exact .cons_cons _ ((bu _).append aI)
theorem Li{m m':List (Nat×cC)}(h:m.Perm m'):(ids m).Perm (ids m'):=by
 induction h with
 |nil=>exact .nil
 |cons x _ aI=>exact .cons _ (aI.append_left _)
 |swap x y l=>
  show(y.1::(y.2.rest++(x.1::(x.2.rest++ids l)))).Perm (x.1::(x.2.rest++(y.1::(y.2.rest++ids l))));have h:=hU (l₁:=y.1::y.2.rest) (l₂:=x.1::x.2.rest);have:=h.append_right (ids l);simpa using this
 |trans _ _ i1 i2=>exact i1.trans i2
theorem akg{m:List (Nat×cC)}(h:(ids m).Nodup):(m.map Prod.fst).Nodup:=by
 refine List.Sublist.nodup ?_ h;clear h
 induction m with
 |nil=>exact bu _
 |cons x m aI=>exact .cons_cons _ (aI.trans (JM _ _))
structure dV where
 X:Nat->Prop
 Y:Nat->Prop
 H0:aA
 FC:aH
def dV.zb(B:dV)(f:Nat):Prop:=B.H0.cn<=f\/∃a r c e z s,B.H0.bI.get f=some (a::r)/\B.H0.mem.get a=some (.row c e true f z s)/\B.Y a
theorem dV.afg{B:dV}{f:Nat}(h:¬B.zb f):f<B.H0.cn:=Nat.lt_of_not_le fun q=>h (.inl q)
structure Inv (g0:Nat) (B:dV) (J:aH) (m:List (Nat×cC)) (H:aA):Prop where
 wf:jk H
 bW:H.bW=g0
 ak:B.H0.ak<=H.ak
 cn:B.H0.cn<=H.cn
 eC:∀a,a<B.H0.ak->¬B.X a->H.mem.get a=B.H0.mem.get a
 nQ:∀f,¬B.zb f->H.bI.get f=B.H0.bI.get f
 fw:∀a c e,J a=some (c,e)->∃o f z s,H.mem.get a=some (.row c e o f z s)
 le:B.FC.le J
 fresh:∀a x,B.FC a=none->J a=some x->B.H0.ak<=a\/B.X a
 own:∀a b,(a,b)∈m->b.at B.zb H a/\(B.H0.ak<=a\/B.X a)/\J a=none/\g0<=a
 opn:∀a b,(a,b)∈m->∀x∈b.rest,x<H.ak/\(B.H0.ak<=x\/B.X x)/\J x=none
 gd:(ids m).Nodup
theorem cC.Tq{F:Nat->Prop}{H:aA}(w:jk H){a:Nat}{b:cC}(h:b.at F H a):a<H.ak:=by
 cases b with
 |row c e=>exact w.lt h
 |opn c e r z=>obtain⟨f,_,h,_⟩:=h;exact w.lt h
 |h6 c e=>obtain⟨f,_,h,_⟩:=h;exact w.lt h
 |map es k=>exact w.lt h
 |loop r=>exact w.lt h
 |iW=>exact w.lt h
theorem cC.wZ{F:Nat->Prop}{H H1:aA}{a:Nat}{b:cC}(h:b.at F H a)(hm:H1.mem.get a=H.mem.get a)(aD:∀f r,H.bI.get f=some (a::r)->H1.bI.get f=some (a::r)):b.at F H1 a:=by
 cases b with
 |row c e=>exact hm.trans h
 |opn c e r z=>obtain⟨f,bw,aa,ae⟩:=h;exact⟨f,bw,hm.trans aa,aD _ _ ae⟩
 |h6 c e=>obtain⟨f,bw,aa,ae⟩:=h;exact⟨f,bw,hm.trans aa,aD _ _ ae⟩
 |map es k=>exact hm.trans h
 |loop r=>exact hm.trans h
 |iW=>exact hm.trans h
section
variable {g0:Nat}{B:dV}{H:aA}{J:aH}{m m':List (Nat×cC)}
theorem Inv.lt(h:Inv g0 B J m H){a:Nat}{b:cC}(hm:(a,b)∈m):a<H.ak:=cC.Tq h.wf (h.own a b hm).1
theorem Inv.ak1(h:Inv g0 B J m H){a:Nat}{x:List Value×TypeId}(a':J a=some x):a<H.ak:=by
 obtain⟨c,e⟩:=x;obtain⟨o,f,z,s,q⟩:=h.fw a c e a';exact h.wf.lt q
theorem Inv.QU(h:Inv g0 B J m H):J H.ak=none:=by
 cases q:J H.ak with
 |none=>rfl
 |some x=>exact absurd (h.ak1 q) (FL _)
theorem Inv.Lw(h:Inv g0 B J m H){x:Nat}(U:x∈ids m):x<H.ak:=by
 obtain⟨⟨a,b⟩,aa,ae⟩:=BR.1 U;rcases ae with ae|ae
 ·subst ae;exact h.lt aa
 ·exact(h.opn a b aa x ae).1
theorem Inv.Yl(h:Inv g0 B J m H){x:Nat}(U:x∈ids m):B.H0.ak<=x\/B.X x:=by
 obtain⟨⟨a,b⟩,aa,ae⟩:=BR.1 U;rcases ae with ae|ae
 ·subst ae;exact(h.own _ b aa).2.1
 ·exact(h.opn a b aa x ae).2.1
theorem Inv.aly(h:Inv g0 B J m H){x:Nat}(U:x∈ids m):J x=none:=by
 obtain⟨⟨a,b⟩,aa,ae⟩:=BR.1 U;rcases ae with ae|ae
 ·subst ae;exact(h.own _ b aa).2.2.1
 ·exact(h.opn a b aa x ae).2.2
theorem Inv.Oh(h:Inv g0 B J m H):g0<=H.ak:=by have:=h.wf.kO;have:=h.bW;omega
theorem Inv.new(h:Inv g0 B J m H){H1:aA}{b:fg}{p:cC}(aL:H.new b=some (H.ak,H1))(au:p.at B.zb H1 H.ak)(aw:p.rest=[]:=by rfl):Inv g0 B J ((H.ak,p)::m) H1:=by
 obtain⟨_,de,kC,s3,pL,lp⟩:=aA.pM aL;refine⟨h.wf.QP aL,pL.trans h.bW,by have:=h.ak;omega,by rw[s3];exact h.cn,fun a a1 U=>?_,fun f aD=>by rw[kC];exact h.nQ f aD,fun a c e a'=>?_,h.le,h.fresh,fun a b ap=>?_,fun a b ap x U=>?_,?_⟩
 ·rw[lp,an (by have:=h.ak;omega)];exact h.eC a a1 U
 ·obtain⟨o,f,z,s,q⟩:=h.fw a c e a';exact⟨o,f,z,s,by rw[lp,an (by have:=h.wf.lt q;omega)];exact q⟩
 ·rcases e3.1 ap with q|q
  ·injection q with bb a7;subst bb;subst a7
   exact⟨au,.inl h.ak,h.QU,h.Oh⟩
  ·obtain⟨bl,bp,bQ,cU⟩:=h.own a b q;exact⟨cC.wZ bl (by rw[lp,an (by have:=h.lt q;omega)]) (fun f l aD=>by rw[kC];exact aD),bp,bQ,cU⟩
 ·rcases e3.1 ap with q|q
  ·injection q with bb a7;subst bb;subst a7;rw[aw] at U;cases U
  ·obtain⟨bl,bp,bQ⟩:=h.opn a b q x U;exact⟨by omega,bp,bQ⟩
 ·show(H.ak::(p.rest++ids m)).Nodup;rw[aw,k2,se];exact⟨fun q=>absurd (h.Lw q) (FL _),h.gd⟩
theorem Inv.alloc(h:Inv g0 B J m H)(cells:List Value)(e:TypeId):
 ∃H1,H.new (.row cells e false 0 0 false)=some (H.ak,H1)/\Inv g0 B J ((H.ak,.row cells e)::m) H1:=by
 obtain⟨H1,aL⟩:=h.wf.new (.row cells e false 0 0 false);obtain⟨_,de,kC,s3,pL,lp⟩:=aA.pM aL;exact⟨H1,aL,h.new aL (by show H1.mem.get H.ak=_;rw[lp,aE rfl])⟩
theorem Inv.bI(h:Inv g0 B J m H):∃H1,H.wi=some (H.cn,H1)/\Inv g0 B J m H1/\H1.ak=H.ak/\H1.bI.get H.cn=some [H.ak]/\B.H0.cn<=H.cn:=by
 obtain⟨H1,aL⟩:=h.wf.wi;obtain⟨_,de,kC,s3,pL,lp⟩:=aA.LG aL;refine⟨H1,aL,⟨h.wf.als aL,pL.trans h.bW,by rw[de];exact h.ak,by have:=h.cn;omega,fun a a1 U=>by rw[kC];exact h.eC a a1 U,fun f aD=>?_,fun a c e a'=>by rw[kC];exact h.fw a c e a',h.le,h.fresh,fun a b ap=>?_,fun a b ap x U=>by rw[de];exact h.opn a b ap x U,h.gd⟩,de,by rw[lp,aE rfl],h.cn⟩
 ·rw[lp,an (by have:=h.cn;have:=dV.afg aD;omega)];exact h.nQ f aD
 ·obtain⟨bl,bp,bQ,cU⟩:=h.own a b ap;exact⟨cC.wZ bl (by rw[kC]) (fun f l aD=>by rw[lp,an (by have:=h.wf.DS aD;omega)];exact aD),bp,bQ,cU⟩
theorem Inv.nl(h:Inv g0 B J m H)(cells:List Value)(e:TypeId):
 ∃H1,H.nl cells e false=some (H.ak,H1)/\Inv g0 B J ((H.ak,.opn cells e [] 0)::m) H1:=by
 obtain⟨H1,aL,aa,gF,f1,QR⟩:=h.bI;obtain⟨cv,bk⟩:=aa.wf.new (.row cells e true H.cn 0 false);obtain⟨_,de,kC,s3,pL,lp⟩:=aA.pM bk;refine⟨cv,?_,?_⟩
 ·unfold aA.nl;rw[aL];simp only;rw[bk,gF]
 ·have:=aa.new (p:=.opn cells e [] 0) bk ⟨H.cn,.inl QR,by rw[lp,aE rfl],by rw[kC,f1,gF]⟩;rwa [gF] at this
inductive cQ:List (Nat×cC)->Nat->cC->cC->List (Nat×cC)->Prop
 |head (a:Nat) (b b':cC) (m:List (Nat×cC)):cQ ((a,b)::m) a b b' ((a,b')::m)
 |tail (x:Nat×cC) {m m':List (Nat×cC)} {a:Nat} {b b':cC}:cQ m a b b' m'->cQ (x::m) a b b' (x::m')
theorem cQ.mem{m m':List (Nat×cC)}{a:Nat}{b b':cC}(h:cQ m a b b' m'):(a,b)∈m:=by
 induction h with
 |head=>exact .head _
 |tail _ _ aI=>exact .tail _ aI
theorem cQ.XF{m m':List (Nat×cC)}{a:Nat}{b b':cC}(h:cQ m a b b' m')(aP:(m.map Prod.fst).Nodup):∀x c,(x,c)∈m'->(x=a/\c=b')\/(x≠a/\(x,c)∈m):=by
 induction h with
 |head a b b' m=>
  intro x c U;rw[nz,se] at aP;rcases e3.1 U with q|q
  ·injection q with bb a7;exact .inl ⟨bb,a7⟩
  ·refine .inr ⟨fun e=>aP.1 ?_,.tail _ q⟩;subst e;exact uZ.2 ⟨_,q,rfl⟩
 |tail y au aI=>
  intro x c U;rw[nz,se] at aP;rcases e3.1 U with q|q
  ·refine .inr ⟨fun e=>aP.1 ?_,by rw[q];exact .head _⟩;have:y.1=x:=by rw[<-q]
   rw[this,e];exact uZ.2 ⟨_,au.mem,rfl⟩
  ·rcases aI aP.2 x c q with r|⟨cO,ed⟩
   ·exact .inl r
   ·exact .inr ⟨cO,.tail _ ed⟩
theorem cQ.ids{m m':List (Nat×cC)}{a:Nat}{b b':cC}(h:cQ m a b b' m')(aw:b'.rest=[]):(ids m').Sublist (ids m):=by
 induction h with
 |head a b b' m=>show(a::(b'.rest++Opn.ids m)).Sublist (a::(b.rest++Opn.ids m));rw[aw];exact .cons_cons _ (JM _ _)
 |tail x _ aI=>exact .cons_cons _ ((bu _).append (aI aw))
theorem Inv.upd(h:Inv g0 B J m H){a:Nat}{b p:cC}{c:fg}{H1:aA}(au:cQ m a b p m')(aL:H.upd a c=some H1)(aC:p.at B.zb H1 a)(aw:p.rest=[]:=by rfl):Inv g0 B J m' H1:=by
 obtain⟨bl,bp,bQ,cU⟩:=h.own a _ au.mem;have dM:=akg h.gd;have cV:=h.lt au.mem;obtain⟨bX,de,kC,s3,pL⟩:=aA.wB aL;refine⟨h.wf.Mw cV aL,s3.trans h.bW,by rw[bX];exact h.ak,by rw[kC];exact h.cn,fun x U hC=>?_,fun f aD=>by rw[de];exact h.nQ f aD,fun x c e a'=>?_,h.le,h.fresh,fun x b ap=>?_,fun x b ap y ai=>?_,(au.ids aw).nodup h.gd⟩
 ·rw[pL,an (fun q=>by subst q;rcases bp with q|q;·omega
                      ·exact hC q)]
  exact h.eC x U hC
 ·obtain⟨o,f,z,s,q⟩:=h.fw x c e a'
  exact⟨o,f,z,s,by rw[pL,an (fun r=>by subst r;rw[bQ] at a';cases a')];exact q⟩
 ·rcases au.XF dM x b ap with⟨rfl,rfl⟩|⟨bb,a7⟩
  ·exact⟨aC,bp,bQ,cU⟩
  ·obtain⟨cN,dW,lT,pK⟩:=h.own x b a7
   exact⟨cC.wZ cN (by rw[pL,an bb]) (fun f l aD=>by rw[de];exact aD),dW,lT,pK⟩
 ·rcases au.XF dM x b ap with⟨rfl,rfl⟩|⟨bb,a7⟩
  ·rw[aw] at ai;cases ai
  ·rw[bX];exact h.opn x b a7 y ai
theorem Inv.store{a:Nat}{cells cells':List Value}{e:TypeId}(h:Inv g0 B J m H)(au:cQ m a (.row cells e) (.row cells' e) m'):
 ∃H1,H.upd a (.row cells' e false 0 0 false)=some H1/\Inv g0 B J m' H1:=by
 obtain⟨H1,aL⟩:=h.wf.upd (.row cells' e false 0 0 false) (h.lt au.mem);exact⟨H1,aL,h.upd au aL (by show H1.mem.get a=_;rw[(aA.wB aL).2.2.2.2,aE rfl])⟩
theorem Inv.sub(h:Inv g0 B J m H)(hs:m'.Sublist m):Inv g0 B J m' H:=
 ⟨h.wf,h.bW,h.ak,h.cn,h.eC,h.nQ,h.fw,h.le,h.fresh,fun a b q=>h.own a b (hs.subset q),fun a b q=>h.opn a b (hs.subset q),(akh hs).nodup h.gd⟩
def aH.add(J:aH)(a:Nat)(x:List Value×TypeId):aH:=fun i=>if i=a then some x else J i
theorem aH.oL(J:aH)(a:Nat)(x:List Value×TypeId):(J.add a x) a=some x:=aE rfl
theorem aH.abn{J:aH}{a:Nat}{x:List Value×TypeId}(h:J a=none):J.le (J.add a x):=fun i y q=>by
 unfold aH.add;split
 ·rename_i e;subst e;rw[h] at q;cases q
 ·exact q
def cC.rowOf:cC->Option (List Value×TypeId)
 |.row c e=>some (c,e)
 |.opn c e _ _=>some (c,e)
 |.h6 c e=>some (c,e)
 |.map _ _=>none
 |.loop _=>none
 |.iW=>none
theorem Inv.mJ{a:Nat}{b:cC}{x:List Value×TypeId}(h:Inv g0 B J ((a,b)::m) H)(U:b.rowOf=some x):Inv g0 B (J.add a x) m H/\J.le (J.add a x):=by
 obtain⟨bl,bp,bQ,cU⟩:=h.own a b (.head _);have dM:=h.gd;rw[show ids ((a,b)::m)=a::(b.rest++ids m) from rfl,se,ko] at dM;have hle:=aH.abn (x:=x) bQ;refine⟨⟨h.wf,h.bW,h.ak,h.cn,h.eC,h.nQ,fun i c e a'=>?_,h.le.trans hle,fun i y q ai=>?_,fun i p au=>?_,fun i p au y ai=>?_,(JM _ _).nodup dM.2⟩,hle⟩
 ·unfold aH.add at a';split at a'
  ·rename_i q;subst q;injection a' with a';subst a'
   cases b with
   |row cd bz=>injection U with U;injection U with aa ae;subst aa;subst ae;exact⟨_,_,_,_,bl⟩
   |opn cd bz r z=>injection U with U;injection U with aa ae;subst aa;subst ae;obtain⟨f,_,k,_⟩:=bl;exact⟨_,_,_,_,k⟩
   |h6 cd bz=>injection U with U;injection U with aa ae;subst aa;subst ae;obtain⟨f,_,k,_⟩:=bl;exact⟨_,_,_,_,k⟩
   |map es k=>cases U
   |loop r=>cases U
   |iW=>cases U
  ·exact h.fw i c e a'
 ·unfold aH.add at ai;split at ai
  ·rename_i e;subst e;exact bp
  ·exact h.fresh i y q ai
 ·obtain⟨cN,dW,lT,pK⟩:=h.own i p (.tail _ au);refine⟨cN,dW,?_,pK⟩;unfold aH.add;rw[an]
  ·exact lT
  ·intro e;subst e;exact dM.1 (.inr (xW au))
 ·obtain⟨cN,dW,lT⟩:=h.opn i p (.tail _ au) y ai;refine⟨cN,dW,?_⟩;unfold aH.add;rw[an]
  ·exact lT
  ·intro e;subst e;exact dM.1 (.inr (BR.2 ⟨_,au,.inr ai⟩))
end
end
end Go.Opn
