/- A part of the proof of ResumeBytes. -/
import Derived.Test.YtkmfhjilfjecmaaGreatDoorCar
import Derived.Laws.Strings2
set_option linter.unusedVariables false
set_option linter.unusedSimpArgs false
namespace Go.Opn
noncomputable section
open Go.Cre Go.RowKit
inductive hL (J:aH) (e:TypeId) (sz:Nat):Value->Nat->List Value->Prop
 |nil:hL J e sz (.slice none 0 0) 0 []
 |kt (a off cap:Nat):cap<cZ->hL J e sz (.slice (some ⟨a,off,none⟩) 0 cap) 0 []
 |y6:hL J e sz (.slice (some ⟨0,0,some 0⟩) 0 0) 0 []
 |row {a off len cap:Nat} {cells cs:List Value} {bz:TypeId}:J a=some (cells,bz)->(cells.drop off).take (len*sz)=cs->cs.length=len*sz->(cap≠cZ->len<=cap/\cap<cZ)->(cap=cZ->bz=e)->hL J e sz (.slice (some ⟨a,off,none⟩) len cap) len cs
theorem hL.mono{J af:aH}(hle:J.le af){e:TypeId}{sz n:Nat}{v:Value}{cs:List Value}(h:hL J e sz v n cs):hL af e sz v n cs:=by
 cases h with
 |nil=>exact .nil
 |kt a off cap h=>exact .kt a off cap h
 |y6=>exact .y6
 |row aa ae aF bo eB=>exact .row (hle _ _ aa) ae aF bo eB
theorem hL.inv{J:aH}{e:TypeId}{sz n:Nat}{v:Value}{cs:List Value}(h:hL J e sz v n cs):∃b c,v=.slice b n c/\cs.length=n*sz/\(b=none->n=0)/\(0<n->∃a off cells bz,b=some ⟨a,off,none⟩/\J a=some (cells,bz)/\∀k,k<n*sz->nth cells (off+k)=cs[k]?):=by
 cases h with
 |nil=>exact⟨_,_,rfl,by simp,fun _=>rfl,fun q=>absurd q (by omega)⟩
 |kt a off cap h=>exact⟨_,_,rfl,by simp,fun _=>rfl,fun q=>absurd q (by omega)⟩
 |y6=>exact⟨_,_,rfl,by simp,fun _=>rfl,fun q=>absurd q (by omega)⟩
 |@row a off len cap cells cs bz aa ae aF bo eB=>
  refine⟨_,_,rfl,aF,(fun q=>by cases q),fun _=>⟨a,off,cells,bz,rfl,aa,fun k aO=>?_⟩⟩;rw[kE,<-ae,kK,aE aO,q4]
theorem hL.len{J:aH}{e:TypeId}{sz n:Nat}{v:Value}{cs:List Value}(h:hL J e sz v n cs):cs.length=n*sz:=by
 obtain⟨_,_,_,h,_⟩:=h.inv;exact h
theorem wA{α:Type}{n:Nat}{l:List α}(h:n<=l.length):takeN n l=some (l.take n):=by
 induction n generalizing l with
 |zero=>rfl
 |succ n aI=>
  cases l with
  |nil=>simp at h
  |cons a l=>
   simp only[takeN];rw[aI (by simpa using h)];rfl
def mR(g0:Nat)(B:dV)(J:aH)(m:aN)(sz:Nat)(v:Value)(n:Nat)(cs:List Value):Prop:=∀H,Inv g0 B J m H->rS v=some n/\js H sz n v=some cs
theorem hL.rd{g0:Nat}{B:dV}{J:aH}{m:aN}{e:TypeId}{sz n:Nat}{v:Value}{cs:List Value}(h:hL J e sz v n cs):mR g0 B J m sz v n cs:=by
 intro H aJ;cases h with
 |nil=>exact⟨rfl,rfl⟩
 |kt a off cap h=>exact⟨rfl,rfl⟩
 |y6=>exact⟨rfl,rfl⟩
 |@row a off len cap cells cs bz aa ae aF bo eB=>
  refine⟨rfl,?_⟩;obtain⟨o,f,z,s,q⟩:=aJ.fw _ _ _ aa;unfold js;cases n with
  |zero=>simp only;rw[<-ae];simp
  |succ n=>
   simp only[q];rw[tJ,wA,ae];have:((cells.drop off).take ((n+1)*sz)).length=(n+1)*sz:=by rw[ae];exact aF
   rw[iu] at this;omega
section
variable {K:eE}{B:dV}{o:Oper}{n:Nat}{ds:e7}{l:List (Nat×Value)}{m m':aN}{J:aH}{ey:cf->aN->aH->Prop}{d:Nat}
def j2 (P:Program)(t:TypeId):Option (TypeId×Nat×List Value):=match P.underlying t with
 |some (.slice e)=>(match ef P e,vh P e,fy P e with
  |some sz,some fO,some z=>bif Nat.ble fO 1000000&&Nat.beq z.cells.toList.length sz&&z.cells.toList.all eM&&plain z then some (e,sz,z.cells.toList) else none
  |_,_,_=>none)
 |_=>none
theorem yj{P:Program}{t e:TypeId}{sz:Nat}{gi:List Value}(h:j2 P t=some (e,sz,gi)):P.underlying t=some (.slice e)/\ef P e=some sz/\∃fO z,vh P e=some fO/\fy P e=some z/\Nat.ble fO 1000000=true/\gi=z.cells.toList/\gi.length=sz/\gi.all eM=true/\plain z=true:=by
 unfold j2 at h;split at h
 ·rename_i bz aa;split at h
  ·rename_i aoK fO z ae aF bo;cases ap:(Nat.ble fO 1000000&&Nat.beq z.cells.toList.length aoK&&z.cells.toList.all eM&&plain z) with
   |true=>
    rw[ap,b7] at h;simp only[cp,dB] at h;obtain⟨rfl,rfl,rfl⟩:=h;simp only[fS] at ap;obtain⟨⟨⟨b1,b2⟩,b3⟩,b4⟩:=ap;exact⟨aa,ae,fO,z,aF,bo,b1,rfl,eO b2,b3,b4⟩
   |false=>rw[ap,dT] at h;cases h
  ·cases h
 ·cases h
theorem aqf{t e:TypeId}{k sz:Nat}{gi cells:List Value}{ew:Array (Nat×Operand)}{vs:List (Nat×Value)}(ar:o.op=.buildSlice t k ew)(aV:o.dst=some d)(aP:Nat.blt d n=true)(au:tK l ew.toList=some vs)(aB:j2 K.P t=some (e,sz,gi))(aO:(Nat.ble k 100000&&Nat.ble (k*sz) 100000)=true)(aD:nK (fun i=>some (i*sz,sz)) (gG gi k) vs=some cells)(aa:cells.all eM=true)
 (h:∀a,ey ⟨n,ds,(d,.slice (some ⟨a,0,none⟩) k k)::l⟩ ((a,.row cells e)::m) J):hq K B o ⟨n,ds,l⟩ m J ey:=by
 obtain⟨hu,eV,fO,z,ia,bE,b1,rfl,b2,b3,b4⟩:=yj aB;refine hq.wD aV aP fun S H ax aJ=>?_;obtain⟨H1,aL,bk⟩:=aJ.alloc cells e;refine⟨_,H1,_,J,fun call aR=>?_,bk,h H.ak⟩;unfold cJ fe;simp only[ar];show IN K.P _ t k (ls S.T H ew.toList)=_;rw[UI ax H au];show mq (GL K.P H t k vs)=_;unfold GL uB;simp only[hu,eV,bE];rw[aO,b4,show Nat.beq z.cells.toList.length sz=true by rw[b2];exact hz _];simp only[wG,b7,aD,aa,aL];rfl
theorem Ii{i:Int}{len:Nat}(bw:0<=i)(aa:i<=len):qw i len=some i.toNat:=by
 cases i with
 |ofNat n=>
  unfold qw;have:Nat.ble n len=true:=j8 (by simpa using aa);simp only[this,b7];rfl
 |negSucc n=>exact absurd bw (by simp)
theorem p4{t e:TypeId}{x y:Operand}{sz:Nat}{gi:List Value}{i j:Int}{zC Lt:IntKind}(ar:o.op=.makeSlice t x y)(aV:o.dst=some d)(aP:Nat.blt d n=true)(U:b6 l x=some (.int zC i))(ai:b6 l y=some (.int Lt j))(aB:j2 K.P t=some (e,sz,gi))(bw:0<=i)(aa:i<=j)(ae:j<=1000000)
 (h:∀a,ey ⟨n,ds,(d,.slice (some ⟨a,0,none⟩) i.toNat j.toNat)::l⟩ ((a,.row (gG gi j.toNat) e)::m) J):hq K B o ⟨n,ds,l⟩ m J ey:=by
 obtain⟨hu,eV,fO,z,ia,bE,b1,rfl,b2,b3,b4⟩:=yj aB;refine hq.wD aV aP fun S H ax aJ=>?_;obtain⟨H1,aL,bk⟩:=aJ.alloc (gG z.cells.toList j.toNat) e;refine⟨_,H1,_,J,fun call aR=>?_,bk,h H.ak⟩;unfold cJ fe;simp only[ar];show IP K.P _ t (bj S.T H x) (bj S.T H y)=_;rw[dy ax H U,dy ax H ai];show mq (GP K.P H t (.int zC i) (.int Lt j))=_;unfold GP uB;simp only[hu,bE,ia,eV];rw[Ii (by omega) (by omega),Ii (by omega) (by omega)];simp only[b1,b3,b4,wH];rw[show Nat.beq z.cells.toList.length sz=true by rw[b2];exact hz _,show Nat.ble i.toNat j.toNat=true from j8 (by omega)];simp only[wH,b7,aL];rfl
inductive Acc (e:TypeId) (sz:Nat):Value->Nat->List Value->aN->Prop
 |nil:Acc e sz (.slice none 0 0) 0 [] []
 |kt (a:Nat):Acc e sz (.slice (some ⟨a,0,none⟩) 0 0) 0 [] []
 |opn {a k:Nat} {cells:List Value} {rest:List Nat} {z:Nat}:cells.length=k*sz->z<=cells.length->Acc e sz (.slice (some ⟨a,0,none⟩) k cZ) k cells [(a,.opn cells e rest z)]
 |cap {a k C:Nat} {cells full:List Value} {el:TypeId}:full.length=C*sz->full.take (k*sz)=cells->k<=C->C<cZ->Acc e sz (.slice (some ⟨a,0,none⟩) k C) k cells [(a,.row full el)]
theorem Cy{α:Type}:∀(off:Nat) (l vs:List α),off+vs.length<=l.length->gg off l vs=some (l.take off++vs++l.drop (off+vs.length)):=by
 intro off;induction off with
 |zero=>
  intro l vs h;induction vs generalizing l with
  |nil=>cases l<;>simp[gg]
  |cons v vs aI=>
   cases l with
   |nil=>simp at h
   |cons a l=>
    have:=aI l (by simp only[jh] at h;omega);simp only[gg,this];simp
 |succ n aI=>
  intro l vs h;cases l with
  |nil=>simp at h
  |cons a l=>
   have:=aI l vs (by simp only[jh] at h;omega);simp only[gg,this];simp[Nat.add_right_comm n 1 vs.length]
theorem Inv.perm{g0:Nat}{H:aA}(h:Inv g0 B J m H)(au:m.Perm m'):Inv g0 B J m' H:=
 ⟨h.wf,h.bW,h.ak,h.cn,h.eC,h.nQ,h.fw,h.le,h.fresh,fun a b q=>h.own a b (au.symm.subset q),fun a b q=>h.opn a b (au.symm.subset q),(Li au).nodup_iff.1 h.gd⟩
theorem Inv.grow{g0 a z:Nat}{H:aA}{cells:List Value}{e:TypeId}{rest:List Nat}(h:Inv g0 B J ((a,.opn cells e rest z)::m) H)(cells':List Value):∃f H1 cv,H.mem.get a=some (.row cells e true f z false)/\H.bI.get f=some (a::rest)/\H.qK f (H.ak::a::rest)=some H1/\H1.ak=H.ak/\H1.new (.row cells' e true f z false)=some (H.ak,cv)/\Inv g0 B J ((H.ak,.opn cells' e (a::rest) z)::m) cv:=by
 obtain⟨bl,bp,bQ,cU⟩:=h.own a _ (.head _);obtain⟨f,f1,f2,f3⟩:=bl;have O':=h.wf.DS f3;have dM:=h.gd;rw[show ids ((a,cC.opn cells e rest z)::m)=a::(rest++ids m) from rfl,se,ko] at dM;obtain⟨H1,aL⟩:=h.wf.qK (H.ak::a::rest) O';obtain⟨s2,s1,wv,zY,pU⟩:=aA.Cu aL;have hm:Inv g0 B J m H1:=by
  refine⟨h.wf.Me O' aL,zY.trans h.bW,by rw[s2];exact h.ak,by rw[wv];exact h.cn,fun x U hC=>by rw[s1];exact h.eC x U hC,fun g aq=>?_,fun x c e a'=>by rw[s1];exact h.fw x c e a',h.le,h.fresh,fun x b ap=>?_,fun x b ap y ai=>by rw[s2];exact h.opn x b (.tail _ ap) y ai,(JM _ _).nodup dM.2⟩
  ·rw[pU,an (fun q=>aq (by rw[q];exact f1))];exact h.nQ g aq
  ·obtain⟨cN,dW,lT,pK⟩:=h.own x b (.tail _ ap);refine⟨?_,dW,lT,pK⟩;cases b with
   |row c e=>show H1.mem.get x=_;rw[s1];exact cN
   |map es k=>show H1.mem.get x=_;rw[s1];exact cN
   |loop r=>show H1.mem.get x=_;rw[s1];exact cN
   |iW=>show H1.mem.get x=_;rw[s1];exact cN
   |opn c bz r hS=>
    obtain⟨g,g1,g2,g3⟩:=cN;refine⟨g,g1,by rw[s1];exact g2,?_⟩;rw[pU,an]
    ·exact g3
    ·intro q;subst q;rw[f3] at g3;injection g3 with g3;injection g3 with g3
     subst g3;exact dM.1 (.inr (xW ap))
   |h6 c bz=>
    obtain⟨g,g1,g2,g3⟩:=cN;refine⟨g,g1,by rw[s1];exact g2,?_⟩;rw[pU,an]
    ·exact g3
    ·intro q;subst q;rw[f3] at g3;injection g3 with g3;injection g3 with g3
     subst g3;exact dM.1 (.inr (xW ap))
 obtain⟨cv,bk⟩:=hm.wf.new (.row cells' e true f z false);obtain⟨_,de,kC,s3,pL,lp⟩:=aA.pM bk;refine⟨f,H1,cv,f2,f3,aL,s2,by rw[<-s2];exact bk,?_⟩;have ae:Inv g0 B J m cv:=by
  refine⟨hm.wf.QP bk,pL.trans hm.bW,by have:=hm.ak;omega,by rw[s3];exact hm.cn,fun x U hC=>?_,fun g aq=>by rw[kC];exact hm.nQ g aq,fun x c e a'=>?_,hm.le,hm.fresh,fun x b ap=>?_,fun x b ap y ai=>?_,hm.gd⟩
  ·rw[lp,an (by have:=hm.ak;omega)];exact hm.eC x U hC
  ·obtain⟨o,f,z,s,q⟩:=hm.fw x c e a';exact⟨o,f,z,s,by rw[lp,an (by have:=hm.wf.lt q;omega)];exact q⟩
  ·obtain⟨cN,dW,lT,pK⟩:=hm.own x b ap;exact⟨cC.wZ cN (by rw[lp,an (by have:=hm.lt ap;omega)]) (fun f l aD=>by rw[kC];exact aD),dW,lT,pK⟩
  ·obtain⟨cN,dW,lT⟩:=hm.opn x b ap y ai;exact⟨by omega,dW,lT⟩
 refine⟨ae.wf,ae.bW,ae.ak,ae.cn,ae.eC,ae.nQ,ae.fw,ae.le,ae.fresh,fun x b ap=>?_,fun x b ap y ai=>?_,?_⟩
 ·rcases e3.1 ap with q|q
  ·injection q with bb a7;subst bb;subst a7
   exact⟨⟨f,f1,by rw[lp,s2,aE rfl],by rw[kC,pU,aE rfl]⟩,.inl h.ak,h.QU,h.Oh⟩
  ·exact ae.own x b q
 ·rcases e3.1 ap with q|q
  ·injection q with bb a7;subst bb;subst a7
   have cV:y<H.ak/\(B.H0.ak<=y\/B.X y)/\J y=none:=by
    rcases e3.1 (show y∈a::rest from ai) with q|q
    ·subst q;exact⟨h.lt (.head _),bp,bQ⟩
    ·exact h.opn a _ (.head _) y q
   exact⟨by have:=cV.1;omega,cV.2⟩
  ·exact ae.opn x b q y ai
 ·show(H.ak::(a::(rest++ids m))).Nodup;rw[se];refine⟨fun q=>?_,h.gd⟩;have:=h.Lw (show H.ak∈ids ((a,cC.opn cells e rest z)::m) from q);omega
theorem Ty{j:Nat}(h:j≠0):Nat.ble (0+j) 0=false:=by
 cases q:Nat.ble (0+j) 0
 ·rfl
 ·have:=hV q;omega
def z0(aY:aN):Prop:=∀a c e r z,(a,cC.opn c e r z)∈aY->z=0
theorem CQ{a:Nat}{c:List Value}{e:TypeId}{r:List Nat}:z0 [(a,.opn c e r 0)]:=fun a c e r z q=>by
 rcases e3.1 q with q|q
 ·injection q with _ q;injection q
 ·cases q
theorem aqr{a:Nat}{c:List Value}{e:TypeId}:z0 [(a,.row c e)]:=fun a c e r z q=>by
 rcases e3.1 q with q|q
 ·cases q
 ·cases q
theorem aqq{a bV:Nat}{c cd:List Value}{e bz:TypeId}{r dx:List Nat}{z:Nat}(h:z0 [(a,.opn c e r z)]):z0 [(bV,.opn cd bz dx z)]:=fun b x y u w q=>by
 rcases e3.1 q with q|q
 ·injection q with _ q;injection q with _ _ _ q
  subst q;exact h _ _ _ _ _ (.head _)
 ·cases q
def mH(aY:aN):Prop:=∀a c e,(a,cC.row c e)∉aY
theorem x8{a:Nat}{c:List Value}{e:TypeId}{r:List Nat}{z:Nat}:mH [(a,.opn c e r z)]:=fun a c e q=>by
 rcases e3.1 q with q|q
 ·cases q
 ·cases q
theorem aaA{c:Call}{t hx e:TypeId}{sz k j:Nat}{gi cells new:List Value}{v x:Value}{aY m0:aN}{hn:TypeDesc}(ar:o.op=.call c)(aC:c.callee=.builtin .append)(aV:o.dst=some d)(aP:Nat.blt d n=true)(a1:hY l c.args.toList=some [v,x])(o6:c.argTypes.toList=[t,hx])(aB:j2 K.P t=some (e,sz,gi))(jO:K.P.underlying hx=some hn)(vW:∀i,hn≠.int i)
 (ay:Acc e sz v k cells aY)(hm:m=aY++m0)(U:mR K.g0 B J m sz x j new)(cr:new.length=j*sz)(ca:new.all eM=true)(av:k+j<=1000000)
 (h:∀w hF,Acc e sz w (k+j) (cells++new) hF->(z0 aY->z0 hF)/\(mH aY->mH hF)->ey ⟨n,ds,(d,w)::l⟩ (hF++m0) J):hq K B o ⟨n,ds,l⟩ m J ey:=by
 obtain⟨hu,eV,fO,z,ia,bE,b1,rfl,b2,b3,b4⟩:=yj aB;refine hq.wD aV aP fun S H ax aJ=>?_;obtain⟨gF,iP⟩:=U H aJ;have h0:∀call aR,cJ K.P call aR S H o=mq (qc K.P H t v x):=fun call aR=>by
  rw[y7 ar aC];unfold pw;rw[n8 ax H a1,o6];simp only[jO]
 have mc:(!(Nat.ble (k+j) 1000000&&Nat.ble fO 1000000&&Nat.beq z.cells.toList.length sz))=false:=by
  rw[b1,b2,hz,show Nat.ble (k+j) 1000000=true from j8 av];rfl
 have qq:(!(new.all eM&&Nat.beq new.length (j*sz)))=false:=by
  rw[ca,cr,hz];rfl
 subst hm;cases ay with
 |nil=>
  by_cases a':j=0
  ·subst a';have qp:new=[]:=by apply yA;rw[cr];simp
   subst qp;refine⟨.slice none 0 0,H,_,J,fun call aR=>?_,aJ,h _ [] .nil ⟨id,id⟩⟩;rw[h0];unfold qc;simp only[hu,eV,ia,bE,gF,mc,dT,iP,qq];rfl
  ·obtain⟨H1,aL,bk⟩:=aJ.nl new e;refine⟨.slice (some ⟨H.ak,0,none⟩) j cZ,H1,(H.ak,.opn new e [] 0)::m0,J,fun call aR=>?_,bk,?_⟩
   ·rw[h0];unfold qc;simp only[hu,eV,ia,bE,gF,mc,dT,iP,qq];rw[show Nat.beq 0 cZ=false from rfl,dT,Ty a',dT];simp only[js,Ax,JR,hz,b7,k2,fresh,aL,lC];rfl
   ·have:=h (.slice (some ⟨H.ak,0,none⟩) j cZ) [(H.ak,.opn new e [] 0)] (by rw[lC,k2];exact .opn cr (cy _)) ⟨fun _=>CQ,fun _=>x8⟩;exact this
 |kt a=>
  by_cases a':j=0
  ·subst a';have qp:new=[]:=by apply yA;rw[cr];simp
   subst qp;refine⟨.slice (some ⟨a,0,none⟩) 0 0,H,_,J,fun call aR=>?_,aJ,h _ [] (.kt a) ⟨id,id⟩⟩;rw[h0];unfold qc;simp only[hu,eV,ia,bE,gF,mc,dT,iP,qq];rfl
  ·obtain⟨H1,aL,bk⟩:=aJ.nl new e;refine⟨.slice (some ⟨H.ak,0,none⟩) j cZ,H1,(H.ak,.opn new e [] 0)::m0,J,fun call aR=>?_,bk,?_⟩
   ·rw[h0];unfold qc;simp only[hu,eV,ia,bE,gF,mc,dT,iP,qq];rw[show Nat.beq 0 cZ=false from rfl,dT,Ty a',dT];simp only[js,Ax,JR,hz,b7,k2,fresh,aL,lC];rfl
   ·have:=h (.slice (some ⟨H.ak,0,none⟩) j cZ) [(H.ak,.opn new e [] 0)] (by rw[lC,k2];exact .opn cr (cy _)) ⟨fun _=>CQ,fun _=>x8⟩;exact this
 |@opn a k cells rest z hlen BN=>
  have Lf:Nat.ble z (0+k*sz)=true:=j8 (by omega);by_cases a':j=0
  ·subst a';have qp:new=[]:=by apply yA;rw[cr];simp
   subst qp;obtain⟨f,H1,cv,g1,g2,g5,g6,g7,g8⟩:=Inv.grow (m:=m0) aJ cells;have rC:Nat.blt a H.bW=false:=by
    cases q:Nat.blt a H.bW
    ·rfl
    ·have:a<H.bW:=by simpa[Nat.blt,u0] using q
     have:=(aJ.own _ _ (.head _)).2.2.2;have:=aJ.bW;omega
   refine⟨.slice (some ⟨a,0,none⟩) k cZ,H,_,J,fun call aR=>?_,aJ,h _ [(a,.opn cells e rest z)] (by rw[tn,gj];exact .opn hlen BN) ⟨id,id⟩⟩;rw[h0];unfold qc;simp only[hu,eV,ia,bE,gF,mc,dT,iP,qq,hz,b7,g1,rC,MP,wG,Lf,lY];rfl
  ·obtain⟨f,H1,cv,g1,g2,g5,g6,g7,g8⟩:=Inv.grow (m:=m0) aJ (cells++new);have rC:Nat.blt a H.bW=false:=by
    cases q:Nat.blt a H.bW
    ·rfl
    ·have:a<H.bW:=by simpa[Nat.blt,u0] using q
     have:=(aJ.own _ _ (.head _)).2.2.2;have:=aJ.bW;omega
   refine⟨.slice (some ⟨H.ak,0,none⟩) (k+j) cZ,cv,(H.ak,.opn (cells++new) e (a::rest) z)::m0,J,fun call aR=>?_,g8,?_⟩
   ·rw[h0];have Pq:Nat.beq j 0=false:=by
     cases q:Nat.beq j 0
     ·rfl
     ·exact absurd (eO q) a'
    have Qe:takeN (k*sz) cells=some cells:=by rw[wA (by omega),eo (by omega)]
    unfold qc;simp only[hu,eV,ia,bE,gF,mc,dT,iP,qq,hz,b7,g1,rC,MP,wG,Lf,lY,Pq,Qe,g2,y1,hlen,Gy,g5,g6,g7];rfl
   ·exact h (.slice (some ⟨H.ak,0,none⟩) (k+j) cZ) [(H.ak,.opn (cells++new) e (a::rest) z)] (.opn (by rw[dP,hlen,cr,nA]) (by rw[dP];omega)) ⟨aqq,fun _=>x8⟩
 |@cap a k C cells full el h1 qm V9 lJ=>
  have Wo:Nat.beq C cZ=false:=by
   cases q:Nat.beq C cZ
   ·rfl
   ·have:=eO q;omega
  have fV:H.mem.get a=some (.row full el false 0 0 false):=(aJ.own a (.row full el) (.head _)).1;have Hr:cells.length=k*sz:=by rw[<-qm,iu,h1,mu (nB _ V9)]
  have Bw:Nat.blt a H.bW=false:=by
   cases q:Nat.blt a H.bW
   ·rfl
   ·have:a<H.bW:=by simpa[Nat.blt,u0] using q
    have:=(aJ.own _ _ (.head _)).2.2.2;have:=aJ.bW;omega
  by_cases nM:k+j<=C
  ·have BF:k*sz+new.length<=full.length:=by rw[cr,h1,<-nA];exact nB _ nM
   have om:=Cy (k*sz) full new BF;have dw:∃H1,rl H a (0+k*sz) new=some H1/\∃DV,Inv K.g0 B J ((a,.row DV el)::m0) H1/\DV.length=C*sz/\DV.take ((k+j)*sz)=cells++new:=by
    cases o4:new with
    |nil=>
     have bw:j*sz=0:=by rw[<-cr,o4];rfl
     exact⟨H,rfl,full,aJ,h1,by rw[nA,bw,tn,qm,gj]⟩
    |cons kI xs=>
     obtain⟨H1,aL,bk⟩:=aJ.store (cells':=full.take (k*sz)++new++full.drop (k*sz+new.length)) (.head _ _ _ _);refine⟨H1,?_,_,bk,?_,?_⟩
     ·rw[<-o4]
      have:rl H a (0+k*sz) new=(bif Nat.blt a H.bW then none else match H.mem.get a with
       |some (.row cells elem opn bI eA sh)=>bif Nat.ble eA (0+k*sz)&&new.all eM then(match gg (0+k*sz) cells new with
        |none=>none
        |some cells=>match H.upd a (.row cells elem opn bI eA sh) with
         |none=>none
         |some H=>bif opn then wb H a bI else some H) else none
       |_=>none):=by rw[o4];rfl
      rw[this];simp only[Bw,dT,fV,lC,om,aL,ca,wH,Nat.ble,b7]
     ·simp only[dP,iu,ms];omega
     ·rw[gw,SO,qm,eo (by rw[Hr,nA];omega),SO,eo (by rw[Hr,cr,nA];omega),Hr,cr,nA,show k*sz+j*sz -k*sz -j*sz=0 by omega,JP,gj];exact cD _ o4
   obtain⟨H1,aL,DV,bk,cG,eL⟩:=dw;refine⟨.slice (some ⟨a,0,none⟩) (k+j) C,H1,(a,.row DV el)::m0,J,fun call aR=>?_,bk,h _ [(a,.row DV el)] (.cap cG eL nM lJ) ⟨fun _=>aqr,fun q=>absurd (.head _) (q _ _ _)⟩⟩;rw[h0];unfold qc;simp only[hu,eV,ia,bE,gF,mc,dT,iP,qq,Wo,show Nat.ble (k+j) C=true from j8 nM,b7,aL];rfl
  ·obtain⟨H1,aL,bk⟩:=aJ.nl (cells++new) e;have tX:Nat.ble (k+j) C=false:=by
    cases q:Nat.ble (k+j) C
    ·rfl
    ·have:=hV q;omega
   have hold:js H sz k (.slice (some ⟨a,0,none⟩) k C)=some cells:=by
    cases k with
    |zero=>
     rw[JR,JP] at qm;subst qm;rfl
    |succ k=>
     simp only[js,fV];rw[tJ,mr,wA (by rw[h1];exact nB _ V9),qm]
   refine⟨.slice (some ⟨H.ak,0,none⟩) (k+j) cZ,H1,(H.ak,.opn (cells++new) e [] 0)::m0,J,fun call aR=>?_,bk.sub (.cons_cons _ (.cons _ (.refl _))),h _ [(H.ak,.opn (cells++new) e [] 0)] (.opn (by rw[dP,Hr,cr,nA]) (cy _)) ⟨fun _=>CQ,fun _=>x8⟩⟩;rw[h0];unfold qc;simp only[hu,eV,ia,bE,gF,mc,dT,iP,qq,Wo,tX,zI,hold,Hr,hz,b7,fresh,aL];rfl
theorem aqc{c:Call}{t hx e:TypeId}{sz k j:Nat}{gi cells new:List Value}{v x:Value}{aY m0:aN}{hn:TypeDesc}(ar:o.op=.call c)(aC:c.callee=.builtin .append)(aV:o.dst=some d)(aP:Nat.blt d n=true)(a1:hY l c.args.toList=some [v,x])(o6:c.argTypes.toList=[t,hx])(aB:j2 K.P t=some (e,sz,gi))(jO:K.P.underlying hx=some hn)(vW:∀i,hn≠.int i)
 (ay:Acc e sz v k cells aY)(hm:m=aY++m0)(U:mR K.g0 B J m sz x j new)(cr:new.length=j*sz)(ca:new.all eM=true)(av:k+j<=1000000)
 (h:∀w hF,Acc e sz w (k+j) (cells++new) hF->ey ⟨n,ds,(d,w)::l⟩ (hF++m0) J):hq K B o ⟨n,ds,l⟩ m J ey:=
 aaA ar aC aV aP a1 o6 aB jO vW ay hm U cr ca av fun w hF q _=>h w hF q
end
section
variable {K:eE}{B:dV}{o:Oper}{n:Nat}{ds:e7}{l:List (Nat×Value)}{m m':aN}{J:aH}{ey:cf->aN->aH->Prop}{d:Nat}
theorem ab.cut{c:Code}{E:cf}{L:List (Nat×Value)}{M:aN}{dO:aH}{cX:Exit->cf->aN->aH->Prop}(aa:ab K B c E m J fun e E' m' af=>match e with
 |.normal=>(∃l',E'=⟨n,ds,l'⟩/\pY l' L)/\M.Sublist m'/\af=dO
 |e=>cX e E' m' af)(ae:cX .normal ⟨n,ds,L⟩ M dO):ab K B c E m J cX:=by
 intro S H ax aJ;obtain⟨e,aS,H',E',m1,af,bl,bp,bQ,cU⟩:=aa S H ax aJ;cases e with
 |normal=>
  obtain⟨⟨l',rfl,gb⟩,ot,rfl⟩:=cU;exact⟨_,aS,H',_,M,_,bl,bp.sub gb,bQ.sub ot,ae⟩
 |exit i=>exact⟨_,aS,H',_,_,_,bl,bp,bQ,cU⟩
 |goto i=>exact⟨_,aS,H',_,_,_,bl,bp,bQ,cU⟩
 |ret=>exact⟨_,aS,H',_,_,_,bl,bp,bQ,cU⟩
 |panic c=>exact⟨_,aS,H',_,_,_,bl,bp,bQ,cU⟩
 |outgrown=>exact⟨_,aS,H',_,_,_,bl,bp,bQ,cU⟩
theorem iV{t:Nat}{p:Prop}[Decidable p](h:look l t=some (.bool true))(au:p):look l t=some (.bool (decide p)):=by rw[h,y4 au]
theorem iT{t:Nat}{p:Prop}[Decidable p](h:look l t=some (.bool false))(au:¬p):look l t=some (.bool (decide p)):=by rw[h,GA au]
theorem iU{t:Nat}{p q:Prop}[Decidable p][Decidable q](h:look l t=some (.bool (decide q)))(au:q↔p):look l t=some (.bool (decide p)):=by rw[h];simp[au]
def AK (l:List (Nat×Value))(d:Int):Option Operand->Option Int
 |none=>some d
 |some x=>match b6 l x with|some (.int _ i)=>some i|_=>none
theorem AL{S:bh}(ax:Sat ⟨n,ds,l⟩ S)(H:aA){dl i:Int}{x:Option Operand}(h:AK l dl x=some i):(x=none/\i=dl/\jQ S.T H x=some none)\/(∃k y,x=some y/\b6 l y=some (.int k i)/\jQ S.T H x=some (some (.int k i))):=by
 cases x with
 |none=>injection h with h;exact .inl ⟨rfl,h.symm,rfl⟩
 |some y=>
  right
  simp only[AK] at h;split at h
  ·rename_i k j a';injection h with h;subst h
   exact⟨k,y,rfl,a',by simp only[jQ];rw[dy ax H a']⟩
  ·cases h
theorem Ng{S:bh}(ax:Sat ⟨n,ds,l⟩ S)(H:aA){dl i:Int}{x:Option Operand}{oR top:Nat}(h:AK l dl x=some i)(bw:0<=i)(aa:i<=top)(aV:dl=oR):∃i',jQ S.T H x=some i'/\lE oR top i'=some i.toNat:=by
 rcases AL ax H h with⟨rfl,rfl,q⟩|⟨k,y,rfl,ai,q⟩
 ·refine⟨none,q,?_⟩;rw[aV];rfl
 ·exact⟨_,q,Ii bw aa⟩
theorem aqg{t e:TypeId}{x:Operand}{cm ao:Option Operand}{v:Value}{k sz:Nat}{gi cs:List Value}{a b:Int}(ar:o.op=.slice t x cm ao none)(aV:o.dst=some d)(aP:Nat.blt d n=true)(U:b6 l x=some v)(aB:j2 K.P t=some (e,sz,gi))(ay:hL J e sz v k cs)(aO:0<k)(lg:AK l 0 cm=some a)(nd:AK l k ao=some b)(bw:0<=a)(aa:a<=b)(ae:b<=k)
 (h:∀w,hL J e sz w (b -a).toNat ((cs.drop (a.toNat*sz)).take ((b -a).toNat*sz))->ey ⟨n,ds,(d,w)::l⟩ m J):hq K B o ⟨n,ds,l⟩ m J ey:=by
 obtain⟨hu,eV,fO,z,ia,bE,b1,rfl,b2,b3,b4⟩:=yj aB;refine hq.wD aV aP fun S H ax aJ=>?_;cases ay with
 |nil=>exact absurd aO (by omega)
 |kt a off cap h=>exact absurd aO (by omega)
 |y6=>exact absurd aO (by omega)
 |@row a0 off k cap cells cs bz cO ed gr iG mK=>
  obtain⟨ol,alP,Q3⟩:=Ng (oR:=0) (top:=b.toNat) ax H lg bw (by omega) rfl;have h0:∀w,oS K.P H t (.slice (some ⟨a0,off,none⟩) k cap) ol (match jQ S.T H ao with|some x=>x|none=>none)=some w->∀call aR,cJ K.P call aR S H o=some (.val w H):=fun w hw call aR=>by
   unfold cJ fe;simp only[ar];show qD K.P _ t (bj S.T H x) (jQ S.T H cm) (jQ S.T H ao)=_;rw[dy ax H U,alP];rcases AL ax H nd with⟨_,_,q⟩|⟨_,_,_,_,q⟩
   ·rw[q] at hw ⊢;unfold qD;simp only;rw[show oS K.P H t (.slice (some ⟨a0,off,none⟩) k cap) ol none=some w from hw];rfl
   ·rw[q] at hw ⊢;unfold qD;simp only;rw[show oS K.P H t (.slice (some ⟨a0,off,none⟩) k cap) ol _=some w from hw];rfl
  have hlen:k*sz<=(cells.drop off).length:=by
   have:((cells.drop off).take (k*sz)).length=k*sz:=by rw[ed];exact gr
   rw[iu] at this;omega
  have aL:(b -a).toNat=b.toNat -a.toNat:=by omega
  have hle:a.toNat*sz+(b -a).toNat*sz<=k*sz:=by
   rw[<-nA];exact nB _ (by omega)
  have gU:(cells.drop (off+a.toNat*sz)).take ((b -a).toNat*sz)=(cs.drop (a.toNat*sz)).take ((b -a).toNat*sz):=by
   rw[<-ed,FH,yC,yz,mu (by omega)]
  have lf:((cs.drop (a.toNat*sz)).take ((b -a).toNat*sz)).length=(b -a).toNat*sz:=by
   rw[iu,ms,gr];omega
  obtain⟨aus,of,aut,os,c8⟩:=aJ.fw _ _ _ cO;by_cases aC:cap=cZ
  ·subst aC;obtain⟨rY,LN,LO⟩:=Ng (oR:=k) (top:=k) ax H nd (by omega) (by omega) rfl;refine⟨.slice (some ⟨a0,off+a.toNat*sz,none⟩) (b -a).toNat cZ,H,m,J,h0 _ ?_,aJ,h _ (.row cO gU lf (fun q=>absurd rfl q) mK)⟩;rw[LN];unfold oS;simp only[hu,eV,hz,b7,c8,mK rfl,LO,Q3,lY,dT];rw[aL];rfl
  ·obtain⟨rY,LN,LO⟩:=Ng (oR:=k) (top:=cap) ax H nd (by omega) (by have:=(iG aC).1;omega) rfl;have xA:Nat.beq cap cZ=false:=by
    cases q:Nat.beq cap cZ
    ·rfl
    ·exact absurd (eO q) aC
   by_cases lL:cap=a.toNat
   ·have BN:(b -a).toNat=0:=by have:=(iG aC).1;omega
    refine⟨.slice (some ⟨a0,off,none⟩) (b -a).toNat (cap -a.toNat),H,m,J,h0 _ ?_,aJ,h _ ?_⟩
    ·rw[LN];unfold oS;simp only[hu,eV,xA,dT,LO,Q3];rw[show Nat.beq cap a.toNat=true by rw[lL];exact hz _,b7,aL];rfl
    ·have:(cs.drop (a.toNat*sz)).take ((b -a).toNat*sz)=[]:=by rw[BN];simp
     rw[this,BN,lL,sf];exact .kt _ _ _ (by decide)
   ·refine⟨.slice (some ⟨a0,off+a.toNat*sz,none⟩) (b -a).toNat (cap -a.toNat),H,m,J,h0 _ ?_,aJ,h _ (.row cO gU lf (fun _=>⟨by have:=(iG aC).1;omega,by have:=(iG aC).2;omega⟩) (fun q=>?_))⟩
    ·rw[LN];unfold oS;simp only[hu,eV,xA,dT,LO,Q3];have:Nat.beq cap a.toNat=false:=by
      cases q:Nat.beq cap a.toNat
      ·rfl
      ·exact absurd (eO q) lL
     rw[this,dT,aL];rfl
    ·have:=(iG aC).2;omega
theorem aab{t:TypeId}{x:Operand}{cm ao:Option Operand}{s:List UInt8}{a b:Int}(ar:o.op=.slice t x cm ao none)(U:b6 l x=some (.string ⟨⟨s⟩⟩))(aB:sW K.P t=true)(lg:AK l 0 cm=some a)(nd:AK l s.length ao=some b)(bw:0<=a)(aa:a<=b)(ae:b<=s.length):dm K B o n ds l m J (.string ⟨⟨(s.drop a.toNat).take (b.toNat -a.toNat)⟩⟩):=by
 intro call aR S H ax aJ;unfold sW at aB;split at aB
 ·rename_i hu;have au:gm K.P S.T H o=some (.val (.string ⟨⟨(s.drop a.toNat).take (b.toNat -a.toNat)⟩⟩) H):=by
   have hex:∀ol rY,(cm.map (pR S.T H)=ol)->(ao.map (pR S.T H)=rY)->(ol=none/\a=0\/∃k,ol=some (.int k a))->(rY=none/\b=s.length\/∃k,rY=some (.int k b))->eY K.P (execOp (pR S.T H) o)=some (.value (.string ⟨⟨(s.drop a.toNat).take (b.toNat -a.toNat)⟩⟩)):=by
    intro ol rY aL bk bb a7;unfold execOp;simp only[ar];rw[lH ax H U,aL,bk];rw[eb (a:=.string ⟨⟨(s.drop a.toNat).take (b.toNat -a.toNat)⟩⟩)]
    ·rfl
    show eY K.P (Instr.sliceAt t (.string ⟨⟨s⟩⟩) ol rY none)=_;unfold Instr.sliceAt;rw[eb (y9 hu)];show eY K.P (Instr.slice t (.string ⟨⟨s⟩⟩) ol rY none)=_;unfold Instr.slice;rw[eb (y9 hu)];have ap:eY K.P (Instr.sliceBounds false (⟨⟨s⟩⟩:ByteArray).size (⟨⟨s⟩⟩:ByteArray).size ol rY none)=some (a.toNat,b.toNat,s.length):=by
     unfold Instr.sliceBounds;have es:(⟨⟨s⟩⟩:ByteArray).size=s.length:=rfl;rw[es];have oy:∀(k:IntKind) (i:Int) (y:Nat) (T9:BoundsCode),0<=i->i<=y->eY K.P (Instr.sliceBound (.int k i) y T9)=some i.toNat:=fun k i y T9 i0 i1=>by
      unfold Instr.sliceBound;show eY K.P (if 0<=i/\i<=y then pure i.toNat else _)=_;rw[aE ⟨i0,i1⟩];rfl
     rcases a7 with⟨rfl,rfl⟩|⟨bp,rfl⟩
     ·rcases bb with⟨rfl,rfl⟩|⟨bl,rfl⟩
      ·rfl
      ·show eY K.P (do let l <-Instr.sliceBound (.int bl a) s.length .sliceB;pure (l,s.length,s.length))=_;rw[eb (oy _ _ _ _ bw aa)];rfl
     ·rcases bb with⟨rfl,rfl⟩|⟨bl,rfl⟩
      ·show eY K.P (do let h <-Instr.sliceBound (.int bp b) s.length .sliceAlen;pure (0,h,s.length))=_;rw[eb (oy _ _ _ _ (by omega) ae)];rfl
      ·show eY K.P (do let h <-Instr.sliceBound (.int bp b) s.length .sliceAlen;let l <-Instr.sliceBound (.int bl a) h .sliceB;pure (l,h,s.length))=_;rw[eb (oy _ _ _ _ (by omega) ae),eb (oy _ _ _ _ bw (by omega))];rfl
    show eY K.P (do let(l,h,_) <-Instr.sliceBounds false (⟨⟨s⟩⟩:ByteArray).size (⟨⟨s⟩⟩:ByteArray).size ol rY none;pure (Value.string ((⟨⟨s⟩⟩:ByteArray).extract l h)))=_;rw[eb ap];show some (Value.string ((⟨⟨s⟩⟩:ByteArray).extract a.toNat b.toNat))=_;have:=ByteArray.extract_mk s a.toNat b.toNat;rw[show(⟨⟨s⟩⟩:ByteArray)=ByteArray.mk s.toArray from rfl,this]
   unfold gm;rw[ar];rcases AL ax H lg with⟨rfl,rfl,bb⟩|⟨bl,jU,rfl,Ey,bb⟩
   ·rcases AL ax H nd with⟨rfl,rfl,a7⟩|⟨bp,jD,rfl,sV,a7⟩
    ·have:eI S.T H (Op.slice t x none none none).operands.toList=some [.string ⟨⟨s⟩⟩]:=by
      show eI S.T H [x]=_;simp only[eI];rw[dy ax H U]
     rw[this];simp only[sb,FG,wH,show plain (.string ⟨⟨s⟩⟩)=true from rfl,b7];rw[hex none none rfl rfl (.inl ⟨rfl,rfl⟩) (.inl ⟨rfl,rfl⟩)];rfl
    ·have:eI S.T H (Op.slice t x none (some jD) none).operands.toList=some [.string ⟨⟨s⟩⟩,.int bp b]:=by
      show eI S.T H [x,jD]=_;simp only[eI];rw[dy ax H U,dy ax H sV]
     rw[this];simp only[sb,FG,wH,show plain (.string ⟨⟨s⟩⟩)=true from rfl,show plain (.int bp b)=true from rfl,b7];rw[hex none (some (.int bp b)) rfl (by simp[lH ax H sV]) (.inl ⟨rfl,rfl⟩) (.inr ⟨bp,rfl⟩)];rfl
   ·rcases AL ax H nd with⟨rfl,rfl,a7⟩|⟨bp,jD,rfl,sV,a7⟩
    ·have:eI S.T H (Op.slice t x (some jU) none none).operands.toList=some [.string ⟨⟨s⟩⟩,.int bl a]:=by
      show eI S.T H [x,jU]=_;simp only[eI];rw[dy ax H U,dy ax H Ey]
     rw[this];simp only[sb,FG,wH,show plain (.string ⟨⟨s⟩⟩)=true from rfl,show plain (.int bl a)=true from rfl,b7];rw[hex (some (.int bl a)) none (by simp[lH ax H Ey]) rfl (.inr ⟨bl,rfl⟩) (.inl ⟨rfl,rfl⟩)];rfl
    ·have:eI S.T H (Op.slice t x (some jU) (some jD) none).operands.toList=some [.string ⟨⟨s⟩⟩,.int bl a,.int bp b]:=by
      show eI S.T H [x,jU,jD]=_;simp only[eI];rw[dy ax H U,dy ax H Ey,dy ax H sV]
     rw[this];simp only[sb,FG,wH,show plain (.string ⟨⟨s⟩⟩)=true from rfl,show plain (.int bl a)=true from rfl,show plain (.int bp b)=true from rfl,b7];rw[hex (some (.int bl a)) (some (.int bp b)) (by simp[lH ax H Ey]) (by simp[lH ax H sV]) (.inr ⟨bl,rfl⟩) (.inr ⟨bp,rfl⟩)];rfl
  unfold cJ fe;simp only[ar];show qD K.P _ t (bj S.T H x) (jQ S.T H cm) (jQ S.T H ao)=_;rw[dy ax H U];have fB:∀ol rY,oS K.P H t (.string ⟨⟨s⟩⟩) ol rY=none:=fun ol rY=>by
   unfold oS;simp only[hu]
  rcases AL ax H lg with⟨_,_,bb⟩|⟨_,_,_,_,bb⟩<;>rcases AL ax H nd with⟨_,_,a7⟩|⟨_,_,_,_,a7⟩<;>rw[bb,a7]<;>unfold qD<;>simp only[fB]<;>exact au
 ·cases aB
end
open Classical
section
variable {K:eE}{B:dV}{o:Oper}{n:Nat}{ds:e7}{l:List (Nat×Value)}{m m':aN}{J:aH}{ey:cf->aN->aH->Prop}{d:Nat}{cX:Exit->cf->aN->aH->Prop}
end
end
end Go.Opn
