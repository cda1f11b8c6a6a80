/- A part of the proof of SampleParts. -/
import Derived.Test.YtdbhjgpppmkagaaGreatCat
import Derived.Laws.Strings2
set_option linter.unusedVariables false
set_option linter.unusedSimpArgs false
namespace Go.Opn
noncomputable section
open Go.Cre Go.RowKit
inductive hl (J:aA) (e:TypeId) (aj:Nat):Value->Nat->List Value->Prop
 |nil:hl J e aj (.slice none 0 0) 0 []
 |lu (a off cap:Nat):cap<cR->hl J e aj (.slice (some ⟨a,off,none⟩) 0 cap) 0 []
 |w2:hl J e aj (.slice (some ⟨0,0,some 0⟩) 0 0) 0 []
 |row {a off len cap:Nat} {cells cs:List Value} {bn:TypeId}:J a=some (cells,bn)->(cells.drop off).take (len*aj)=cs->cs.length=len*aj->(cap≠cR->len<=cap/\cap<cR)->(cap=cR->bn=e)->hl J e aj (.slice (some ⟨a,off,none⟩) len cap) len cs
theorem hl.mono{J ag:aA}(hle:J.le ag){e:TypeId}{aj n:Nat}{v:Value}{cs:List Value}(h:hl J e aj v n cs):hl ag e aj v n cs:=by
 cases h with
 |nil=>exact .nil
 |lu a off cap h=>exact .lu a off cap h
 |w2=>exact .w2
 |row aa ab aK bh ff=>exact .row (hle _ _ aa) ab aK bh ff
theorem hl.inv{J:aA}{e:TypeId}{aj n:Nat}{v:Value}{cs:List Value}(h:hl J e aj v n cs):∃b c,v=.slice b n c/\cs.length=n*aj/\(b=none->n=0)/\(0<n->∃a off cells bn,b=some ⟨a,off,none⟩/\J a=some (cells,bn)/\∀k,k<n*aj->nth cells (off+k)=cs[k]?):=by
 cases h with
 |nil=>exact⟨_,_,rfl,by simp,fun _=>rfl,fun q=>absurd q (by omega)⟩
 |lu a off cap h=>exact⟨_,_,rfl,by simp,fun _=>rfl,fun q=>absurd q (by omega)⟩
 |w2=>exact⟨_,_,rfl,by simp,fun _=>rfl,fun q=>absurd q (by omega)⟩
 |@row a off len cap cells cs bn aa ab aK bh ff=>
  refine⟨_,_,rfl,aK,(fun q=>by cases q),fun _=>⟨a,off,cells,bn,rfl,aa,fun k aH=>?_⟩⟩;rw[kk,<-ab,kr,aF aH,o2]
theorem hl.len{J:aA}{e:TypeId}{aj n:Nat}{v:Value}{cs:List Value}(h:hl J e aj v n cs):cs.length=n*aj:=by
 obtain⟨_,_,_,h,_⟩:=h.inv;exact h
theorem x7{α:Type}{n:Nat}{l:List α}(h:n<=l.length):takeN n l=some (l.take n):=by
 induction n generalizing l with
 |zero=>rfl
 |succ n aG=>
  cases l with
  |nil=>simp at h
  |cons a l=>
   simp only[takeN];rw[aG (by simpa using h)];rfl
def nb(g0:Nat)(B:dO)(J:aA)(m:aI)(aj:Nat)(v:Value)(n:Nat)(cs:List Value):Prop:=∀H,Inv g0 B J m H->ql v=some n/\jt H aj n v=some cs
theorem hl.rd{g0:Nat}{B:dO}{J:aA}{m:aI}{e:TypeId}{aj n:Nat}{v:Value}{cs:List Value}(h:hl J e aj v n cs):nb g0 B J m aj v n cs:=by
 intro H aE;cases h with
 |nil=>exact⟨rfl,rfl⟩
 |lu a off cap h=>exact⟨rfl,rfl⟩
 |w2=>exact⟨rfl,rfl⟩
 |@row a off len cap cells cs bn aa ab aK bh ff=>
  refine⟨rfl,?_⟩;obtain⟨o,f,z,s,q⟩:=aE.fj _ _ _ aa;unfold jt;cases n with
  |zero=>simp only;rw[<-ab];simp
  |succ n=>
   simp only[q];rw[vd,x7,ab];have:((cells.drop off).take ((n+1)*aj)).length=(n+1)*aj:=by rw[ab];exact aK
   rw[fc] at this;omega
section
variable {K:eN}{B:dO}{o:Oper}{n:Nat}{ds:eQ}{l:List (Nat×Value)}{m m':aI}{J:aA}{eF:b9->aI->aA->Prop}{d:Nat}
def kn (P:Program)(t:TypeId):Option (TypeId×Nat×List Value):=match P.underlying t with
 |some (.slice e)=>(match eB P e,tp P e,fO P e with
  |some aj,some hZ,some z=>bif Nat.ble hZ 1000000&&Nat.beq z.cells.toList.length aj&&z.cells.toList.all eT&&plain z then some (e,aj,z.cells.toList) else none
  |_,_,_=>none)
 |_=>none
theorem ux{P:Program}{t e:TypeId}{aj:Nat}{gd:List Value}(h:kn P t=some (e,aj,gd)):P.underlying t=some (.slice e)/\eB P e=some aj/\∃hZ z,tp P e=some hZ/\fO P e=some z/\Nat.ble hZ 1000000=true/\gd=z.cells.toList/\gd.length=aj/\gd.all eT=true/\plain z=true:=by
 unfold kn at h;split at h
 ·rename_i bn aa;split at h
  ·rename_i ajR hZ z ab aK bh;cases ai:(Nat.ble hZ 1000000&&Nat.beq z.cells.toList.length ajR&&z.cells.toList.all eT&&plain z) with
   |true=>
    rw[ai,cc] at h;simp only[b6,da] at h;obtain⟨rfl,rfl,rfl⟩:=h;simp only[fR] at ai;obtain⟨⟨⟨bE,bS⟩,cJ⟩,gy⟩:=ai;exact⟨aa,ab,hZ,z,aK,bh,bE,rfl,eK bS,cJ,gy⟩
   |false=>rw[ai,dN] at h;cases h
  ·cases h
 ·cases h
theorem ald{t e:TypeId}{k aj:Nat}{gd cells:List Value}{dx:Array (Nat×Operand)}{vs:List (Nat×Value)}(an:o.op=.buildSlice t k dx)(aS:o.dst=some d)(aM:Nat.blt d n=true)(au:sb l dx.toList=some vs)(aN:kn K.P t=some (e,aj,gd))(aH:(Nat.ble k 100000&&Nat.ble (k*aj) 100000)=true)(aw:mQ (fun i=>some (i*aj,aj)) (gp gd k) vs=some cells)(aa:cells.all eT=true)
 (h:∀a,eF ⟨n,ds,(d,.slice (some ⟨a,0,none⟩) k k)::l⟩ ((a,.row cells e)::m) J):iG K B o ⟨n,ds,l⟩ m J eF:=by
 obtain⟨hu,eI,hZ,z,h1,bC,bE,rfl,bS,cJ,gy⟩:=ux aN;refine iG.Ae aS aM fun S H aC aE=>?_;obtain⟨H1,aD,a5⟩:=aE.alloc cells e;refine⟨_,H1,_,J,fun call aL=>?_,a5,h H.af⟩;unfold cY fU;simp only[an];show FD K.P _ t k (kX S.T H dx.toList)=_;rw[Rx aC H au];show l8 (DM K.P H t k vs)=_;unfold DM sO;simp only[hu,eI,bC];rw[aH,gy,show Nat.beq z.cells.toList.length aj=true by rw[bS];exact hX _];simp only[wm,cc,aw,aa,aD];rfl
theorem Fb{i:Int}{len:Nat}(bt:0<=i)(aa:i<=len):pt i len=some i.toNat:=by
 cases i with
 |ofNat n=>
  unfold pt;have:Nat.ble n len=true:=kK (by simpa using aa);simp only[this,cc];rfl
 |negSucc n=>exact absurd bt (by simp)
theorem CC{t e:TypeId}{x y:Operand}{aj:Nat}{gd:List Value}{i j:Int}{ry IA:IntKind}(an:o.op=.makeSlice t x y)(aS:o.dst=some d)(aM:Nat.blt d n=true)(I:bW l x=some (.int ry i))(ah:bW l y=some (.int IA j))(aN:kn K.P t=some (e,aj,gd))(bt:0<=i)(aa:i<=j)(ab:j<=1000000)
 (h:∀a,eF ⟨n,ds,(d,.slice (some ⟨a,0,none⟩) i.toNat j.toNat)::l⟩ ((a,.row (gp gd j.toNat) e)::m) J):iG K B o ⟨n,ds,l⟩ m J eF:=by
 obtain⟨hu,eI,hZ,z,h1,bC,bE,rfl,bS,cJ,gy⟩:=ux aN;refine iG.Ae aS aM fun S H aC aE=>?_;obtain⟨H1,aD,a5⟩:=aE.alloc (gp z.cells.toList j.toNat) e;refine⟨_,H1,_,J,fun call aL=>?_,a5,h H.af⟩;unfold cY fU;simp only[an];show FE K.P _ t (a6 S.T H x) (a6 S.T H y)=_;rw[ey aC H I,ey aC H ah];show l8 (DP K.P H t (.int ry i) (.int IA j))=_;unfold DP sO;simp only[hu,bC,h1,eI];rw[Fb (by omega) (by omega),Fb (by omega) (by omega)];simp only[bE,cJ,gy,Gk];rw[show Nat.beq z.cells.toList.length aj=true by rw[bS];exact hX _,show Nat.ble i.toNat j.toNat=true from kK (by omega)];simp only[Gk,cc,aD];rfl
inductive Acc (e:TypeId) (aj:Nat):Value->Nat->List Value->aI->Prop
 |nil:Acc e aj (.slice none 0 0) 0 [] []
 |lu (a:Nat):Acc e aj (.slice (some ⟨a,0,none⟩) 0 0) 0 [] []
 |opn {a k:Nat} {cells:List Value} {rest:List Nat} {z:Nat}:cells.length=k*aj->z<=cells.length->Acc e aj (.slice (some ⟨a,0,none⟩) k cR) k cells [(a,.opn cells e rest z)]
 |cap {a k C:Nat} {cells full:List Value} {el:TypeId}:full.length=C*aj->full.take (k*aj)=cells->k<=C->C<cR->Acc e aj (.slice (some ⟨a,0,none⟩) k C) k cells [(a,.row full el)]
theorem z7{α:Type}:∀(off:Nat) (l vs:List α),off+vs.length<=l.length->gE off l vs=some (l.take off++vs++l.drop (off+vs.length)):=by
 intro off;induction off with
 |zero=>
  intro l vs h;induction vs generalizing l with
  |nil=>cases l<;>simp[gE]
  |cons v vs aG=>
   cases l with
   |nil=>simp at h
   |cons a l=>
    have:=aG l (by simp only[j2] at h;omega);simp only[gE,this];simp
 |succ n aG=>
  intro l vs h;cases l with
  |nil=>simp at h
  |cons a l=>
   have:=aG l vs (by simp only[j2] at h;omega);simp only[gE,this];simp[Nat.add_right_comm n 1 vs.length]
theorem Inv.perm{g0:Nat}{H:ao}(h:Inv g0 B J m H)(au:m.Perm m'):Inv g0 B J m' H:=
 ⟨h.wf,h.bq,h.af,h.cd,h.e7,h.lY,h.fj,h.le,h.fresh,fun a b q=>h.own a b (au.symm.subset q),fun a b q=>h.opn a b (au.symm.subset q),(Ir au).nodup_iff.1 h.gD⟩
theorem Inv.grow{g0 a z:Nat}{H:ao}{cells:List Value}{e:TypeId}{rest:List Nat}(h:Inv g0 B J ((a,.opn cells e rest z)::m) H)(cells':List Value):∃f H1 bZ,H.mem.get a=some (.row cells e true f z false)/\H.br.get f=some (a::rest)/\H.qx f (H.af::a::rest)=some H1/\H1.af=H.af/\H1.new (.row cells' e true f z false)=some (H.af,bZ)/\Inv g0 B J ((H.af,.opn cells' e (a::rest) z)::m) bZ:=by
 obtain⟨a',bd,bz,cM⟩:=h.own a _ (.head _);obtain⟨f,f1,f2,f3⟩:=a';have SP:=h.wf.DV f3;have dL:=h.gD;rw[show ids ((a,cI.opn cells e rest z)::m)=a::(rest++ids m) from rfl,r0,lL] at dL;obtain⟨H1,aD⟩:=h.wf.qx (H.af::a::rest) SP;obtain⟨s2,s1,h2,xY,sW⟩:=ao.Cn aD;have hm:Inv g0 B J m H1:=by
  refine⟨h.wf.Ov SP aD,xY.trans h.bq,by rw[s2];exact h.af,by rw[h2];exact h.cd,fun x I jS=>by rw[s1];exact h.e7 x I jS,fun g ar=>?_,fun x c e aU=>by rw[s1];exact h.fj x c e aU,h.le,h.fresh,fun x b ai=>?_,fun x b ai y ah=>by rw[s2];exact h.opn x b (.tail _ ai) y ah,(CZ _ _).nodup dL.2⟩
  ·rw[sW,aq (fun q=>ar (by rw[q];exact f1))];exact h.lY g ar
  ·obtain⟨dZ,eJ,kV,mY⟩:=h.own x b (.tail _ ai);refine⟨?_,eJ,kV,mY⟩;cases b with
   |row c e=>show H1.mem.get x=_;rw[s1];exact dZ
   |map es k=>show H1.mem.get x=_;rw[s1];exact dZ
   |loop r=>show H1.mem.get x=_;rw[s1];exact dZ
   |gh=>show H1.mem.get x=_;rw[s1];exact dZ
   |opn c bn r hT=>
    obtain⟨g,b4,bX,cg⟩:=dZ;refine⟨g,b4,by rw[s1];exact bX,?_⟩;rw[sW,aq]
    ·exact cg
    ·intro q;subst q;rw[f3] at cg;injection cg with cg;injection cg with cg
     subst cg;exact dL.1 (.inr (xz ai))
 obtain⟨bZ,a5⟩:=hm.wf.new (.row cells' e true f z false);obtain⟨_,dr,ki,qo,m0,lG⟩:=ao.n1 a5;refine⟨f,H1,bZ,f2,f3,aD,s2,by rw[<-s2];exact a5,?_⟩;have ab:Inv g0 B J m bZ:=by
  refine⟨hm.wf.NH a5,m0.trans hm.bq,by have:=hm.af;omega,by rw[qo];exact hm.cd,fun x I jS=>?_,fun g ar=>by rw[ki];exact hm.lY g ar,fun x c e aU=>?_,hm.le,hm.fresh,fun x b ai=>?_,fun x b ai y ah=>?_,hm.gD⟩
  ·rw[lG,aq (by have:=hm.af;omega)];exact hm.e7 x I jS
  ·obtain⟨o,f,z,s,q⟩:=hm.fj x c e aU;exact⟨o,f,z,s,by rw[lG,aq (by have:=hm.wf.lt q;omega)];exact q⟩
  ·obtain⟨dZ,eJ,kV,mY⟩:=hm.own x b ai;exact⟨cI.uT dZ (by rw[lG,aq (by have:=hm.lt ai;omega)]) (fun f l aw=>by rw[ki];exact aw),eJ,kV,mY⟩
  ·obtain⟨dZ,eJ,kV⟩:=hm.opn x b ai y ah;exact⟨by omega,eJ,kV⟩
 refine⟨ab.wf,ab.bq,ab.af,ab.cd,ab.e7,ab.lY,ab.fj,ab.le,ab.fresh,fun x b ai=>?_,fun x b ai y ah=>?_,?_⟩
 ·rcases ft.1 ai with q|q
  ·injection q with aZ aR;subst aZ;subst aR
   exact⟨⟨f,f1,by rw[lG,s2,aF rfl],by rw[ki,sW,aF rfl]⟩,.inl h.af,h.NK,h.Lu⟩
  ·exact ab.own x b q
 ·rcases ft.1 ai with q|q
  ·injection q with aZ aR;subst aZ;subst aR
   have cP:y<H.af/\(B.H0.af<=y\/B.X y)/\J y=none:=by
    rcases ft.1 (show y∈a::rest from ah) with q|q
    ·subst q;exact⟨h.lt (.head _),bd,bz⟩
    ·exact h.opn a _ (.head _) y q
   exact⟨by have:=cP.1;omega,cP.2⟩
  ·exact ab.opn x b q y ah
 ·show(H.af::(a::(rest++ids m))).Nodup;rw[r0];refine⟨fun q=>?_,h.gD⟩;have:=h.IE (show H.af∈ids ((a,cI.opn cells e rest z)::m) from q);omega
theorem QJ{j:Nat}(h:j≠0):Nat.ble (0+j) 0=false:=by
 cases q:Nat.ble (0+j) 0
 ·rfl
 ·have:=hC q;omega
def lI(aY:aI):Prop:=∀a c e r z,(a,cI.opn c e r z)∈aY->z=0
theorem Pd{a:Nat}{c:List Value}{e:TypeId}{r:List Nat}:lI [(a,.opn c e r 0)]:=fun a c e r z q=>by
 rcases ft.1 q with q|q
 ·injection q with _ q;injection q
 ·cases q
theorem alr{a:Nat}{c:List Value}{e:TypeId}:lI [(a,.row c e)]:=fun a c e r z q=>by
 rcases ft.1 q with q|q
 ·cases q
 ·cases q
theorem alp{a bA:Nat}{c b1:List Value}{e bn:TypeId}{r b7:List Nat}{z:Nat}(h:lI [(a,.opn c e r z)]):lI [(bA,.opn b1 bn b7 z)]:=fun b x y u w q=>by
 rcases ft.1 q with q|q
 ·injection q with _ q;injection q with _ _ _ q
  subst q;exact h _ _ _ _ _ (.head _)
 ·cases q
def cE(aY:aI):Prop:=∀a c e,(a,cI.row c e)∉aY
theorem IN{a:Nat}{c:List Value}{e:TypeId}{r:List Nat}{z:Nat}:cE [(a,.opn c e r z)]:=fun a c e q=>by
 rcases ft.1 q with q|q
 ·cases q
 ·cases q
theorem Xd{c:Call}{t hq e:TypeId}{aj k j:Nat}{gd cells new:List Value}{v x:Value}{aY eA:aI}{eZ:TypeDesc}(an:o.op=.call c)(av:c.callee=.builtin .append)(aS:o.dst=some d)(aM:Nat.blt d n=true)(aW:il l c.args.toList=some [v,x])(nn:c.argTypes.toList=[t,hq])(aN:kn K.P t=some (e,aj,gd))(kg:K.P.underlying hq=some eZ)(tZ:∀i,eZ≠.int i)
 (ap:Acc e aj v k cells aY)(hm:m=aY++eA)(I:nb K.g0 B J m aj x j new)(df:new.length=j*aj)(dR:new.all eT=true)(ay:k+j<=1000000)
 (h:∀w hy,Acc e aj w (k+j) (cells++new) hy->(lI aY->lI hy)/\(cE aY->cE hy)->eF ⟨n,ds,(d,w)::l⟩ (hy++eA) J):iG K B o ⟨n,ds,l⟩ m J eF:=by
 obtain⟨hu,eI,hZ,z,h1,bC,bE,rfl,bS,cJ,gy⟩:=ux aN;refine iG.Ae aS aM fun S H aC aE=>?_;obtain⟨h4,hd⟩:=I H aE;have gN:∀call aL,cY K.P call aL S H o=l8 (pa K.P H t v x):=fun call aL=>by
  rw[AV an av];unfold q4;rw[o9 aC H aW,nn];simp only[kg]
 have ke:(!(Nat.ble (k+j) 1000000&&Nat.ble hZ 1000000&&Nat.beq z.cells.toList.length aj))=false:=by
  rw[bE,bS,hX,show Nat.ble (k+j) 1000000=true from kK ay];rfl
 have nT:(!(new.all eT&&Nat.beq new.length (j*aj)))=false:=by
  rw[dR,df,hX];rfl
 subst hm;cases ap with
 |nil=>
  by_cases aU:j=0
  ·subst aU;have mV:new=[]:=by apply wx;rw[df];simp
   subst mV;refine⟨.slice none 0 0,H,_,J,fun call aL=>?_,aE,h _ [] .nil ⟨id,id⟩⟩;rw[gN];unfold pa;simp only[hu,eI,h1,bC,h4,ke,dN,hd,nT];rfl
  ·obtain⟨H1,aD,a5⟩:=aE.nq new e;refine⟨.slice (some ⟨H.af,0,none⟩) j cR,H1,(H.af,.opn new e [] 0)::eA,J,fun call aL=>?_,a5,?_⟩
   ·rw[gN];unfold pa;simp only[hu,eI,h1,bC,h4,ke,dN,hd,nT];rw[show Nat.beq 0 cR=false from rfl,dN,QJ aU,dN];simp only[jt,CT,Gy,hX,cc,mB,fresh,aD,lN];rfl
   ·have:=h (.slice (some ⟨H.af,0,none⟩) j cR) [(H.af,.opn new e [] 0)] (by rw[lN,mB];exact .opn df (dV _)) ⟨fun _=>Pd,fun _=>IN⟩;exact this
 |lu a=>
  by_cases aU:j=0
  ·subst aU;have mV:new=[]:=by apply wx;rw[df];simp
   subst mV;refine⟨.slice (some ⟨a,0,none⟩) 0 0,H,_,J,fun call aL=>?_,aE,h _ [] (.lu a) ⟨id,id⟩⟩;rw[gN];unfold pa;simp only[hu,eI,h1,bC,h4,ke,dN,hd,nT];rfl
  ·obtain⟨H1,aD,a5⟩:=aE.nq new e;refine⟨.slice (some ⟨H.af,0,none⟩) j cR,H1,(H.af,.opn new e [] 0)::eA,J,fun call aL=>?_,a5,?_⟩
   ·rw[gN];unfold pa;simp only[hu,eI,h1,bC,h4,ke,dN,hd,nT];rw[show Nat.beq 0 cR=false from rfl,dN,QJ aU,dN];simp only[jt,CT,Gy,hX,cc,mB,fresh,aD,lN];rfl
   ·have:=h (.slice (some ⟨H.af,0,none⟩) j cR) [(H.af,.opn new e [] 0)] (by rw[lN,mB];exact .opn df (dV _)) ⟨fun _=>Pd,fun _=>IN⟩;exact this
 |@opn a k cells rest z hlen BJ=>
  have Ip:Nat.ble z (0+k*aj)=true:=kK (by omega);by_cases aU:j=0
  ·subst aU;have mV:new=[]:=by apply wx;rw[df];simp
   subst mV;obtain⟨f,H1,bZ,b4,bX,fV,gW,gJ,pc⟩:=Inv.grow (m:=eA) aE cells;have ow:Nat.blt a H.bq=false:=by
    cases q:Nat.blt a H.bq
    ·rfl
    ·have:a<H.bq:=by simpa[Nat.blt,tb] using q
     have:=(aE.own _ _ (.head _)).2.2.2;have:=aE.bq;omega
   refine⟨.slice (some ⟨a,0,none⟩) k cR,H,_,J,fun call aL=>?_,aE,h _ [(a,.opn cells e rest z)] (by rw[s9,fb];exact .opn hlen BJ) ⟨id,id⟩⟩;rw[gN];unfold pa;simp only[hu,eI,h1,bC,h4,ke,dN,hd,nT,hX,cc,b4,ow,Pt,wm,Ip,lK];rfl
  ·obtain⟨f,H1,bZ,b4,bX,fV,gW,gJ,pc⟩:=Inv.grow (m:=eA) aE (cells++new);have ow:Nat.blt a H.bq=false:=by
    cases q:Nat.blt a H.bq
    ·rfl
    ·have:a<H.bq:=by simpa[Nat.blt,tb] using q
     have:=(aE.own _ _ (.head _)).2.2.2;have:=aE.bq;omega
   refine⟨.slice (some ⟨H.af,0,none⟩) (k+j) cR,bZ,(H.af,.opn (cells++new) e (a::rest) z)::eA,J,fun call aL=>?_,pc,?_⟩
   ·rw[gN];have My:Nat.beq j 0=false:=by
     cases q:Nat.beq j 0
     ·rfl
     ·exact absurd (eK q) aU
    have M5:takeN (k*aj) cells=some cells:=by rw[x7 (by omega),fZ (by omega)]
    unfold pa;simp only[hu,eI,h1,bC,h4,ke,dN,hd,nT,hX,cc,b4,ow,Pt,wm,Ip,lK,My,M5,bX,wY,hlen,DF,fV,gW,gJ];rfl
   ·exact h (.slice (some ⟨H.af,0,none⟩) (k+j) cR) [(H.af,.opn (cells++new) e (a::rest) z)] (.opn (by rw[er,hlen,df,mC]) (by rw[er];omega)) ⟨alp,fun _=>IN⟩
 |@cap a k C cells full el jx pj S0 mS=>
  have S9:Nat.beq C cR=false:=by
   cases q:Nat.beq C cR
   ·rfl
   ·have:=eK q;omega
  have hJ:H.mem.get a=some (.row full el false 0 0 false):=(aE.own a (.row full el) (.head _)).1;have Ey:cells.length=k*aj:=by rw[<-pj,fc,jx,k4 (mD _ S0)]
  have zk:Nat.blt a H.bq=false:=by
   cases q:Nat.blt a H.bq
   ·rfl
   ·have:a<H.bq:=by simpa[Nat.blt,tb] using q
    have:=(aE.own _ _ (.head _)).2.2.2;have:=aE.bq;omega
  by_cases mT:k+j<=C
  ·have zy:k*aj+new.length<=full.length:=by rw[df,jx,<-mC];exact mD _ mT
   have mr:=z7 (k*aj) full new zy;have c0:∃H1,pW H a (0+k*aj) new=some H1/\∃A4,Inv K.g0 B J ((a,.row A4 el)::eA) H1/\A4.length=C*aj/\A4.take ((k+j)*aj)=cells++new:=by
    cases sz:new with
    |nil=>
     have bt:j*aj=0:=by rw[<-df,sz];rfl
     exact⟨H,rfl,full,aE,jx,by rw[mC,bt,s9,pj,fb]⟩
    |cons CB xs=>
     obtain⟨H1,aD,a5⟩:=aE.store (cells':=full.take (k*aj)++new++full.drop (k*aj+new.length)) (.head _ _ _ _);refine⟨H1,?_,_,a5,?_,?_⟩
     ·rw[<-sz]
      have:pW H a (0+k*aj) new=(bif Nat.blt a H.bq then none else match H.mem.get a with
       |some (.row cells elem opn br eD sh)=>bif Nat.ble eD (0+k*aj)&&new.all eT then(match gE (0+k*aj) cells new with
        |none=>none
        |some cells=>match H.upd a (.row cells elem opn br eD sh) with
         |none=>none
         |some H=>bif opn then xE H a br else some H) else none
       |_=>none):=by rw[sz];rfl
      rw[this];simp only[zk,dN,hJ,lN,mr,aD,dR,Gk,Nat.ble,cc]
     ·simp only[er,fc,jJ];omega
     ·rw[j0,List.take_append,pj,fZ (by rw[Ey,mC];omega),List.take_append,fZ (by rw[Ey,df,mC];omega),Ey,df,mC,show k*aj+j*aj -k*aj -j*aj=0 by omega,Gw,fb];exact fl _ sz
   obtain⟨H1,aD,A4,a5,cC,e0⟩:=c0;refine⟨.slice (some ⟨a,0,none⟩) (k+j) C,H1,(a,.row A4 el)::eA,J,fun call aL=>?_,a5,h _ [(a,.row A4 el)] (.cap cC e0 mT mS) ⟨fun _=>alr,fun q=>absurd (.head _) (q _ _ _)⟩⟩;rw[gN];unfold pa;simp only[hu,eI,h1,bC,h4,ke,dN,hd,nT,S9,show Nat.ble (k+j) C=true from kK mT,cc,aD];rfl
  ·obtain⟨H1,aD,a5⟩:=aE.nq (cells++new) e;have zh:Nat.ble (k+j) C=false:=by
    cases q:Nat.ble (k+j) C
    ·rfl
    ·have:=hC q;omega
   have hold:jt H aj k (.slice (some ⟨a,0,none⟩) k C)=some cells:=by
    cases k with
    |zero=>
     rw[Gy,Gw] at pj;subst pj;rfl
    |succ k=>
     simp only[jt,hJ];rw[vd,m7,x7 (by rw[jx];exact mD _ S0),pj]
   refine⟨.slice (some ⟨H.af,0,none⟩) (k+j) cR,H1,(H.af,.opn (cells++new) e [] 0)::eA,J,fun call aL=>?_,a5.sub (.cons_cons _ (.cons _ (.refl _))),h _ [(H.af,.opn (cells++new) e [] 0)] (.opn (by rw[er,Ey,df,mC]) (dV _)) ⟨fun _=>Pd,fun _=>IN⟩⟩;rw[gN];unfold pa;simp only[hu,eI,h1,bC,h4,ke,dN,hd,nT,S9,zh,xJ,hold,Ey,hX,cc,fresh,aD];rfl
theorem ala{c:Call}{t hq e:TypeId}{aj k j:Nat}{gd cells new:List Value}{v x:Value}{aY eA:aI}{eZ:TypeDesc}(an:o.op=.call c)(av:c.callee=.builtin .append)(aS:o.dst=some d)(aM:Nat.blt d n=true)(aW:il l c.args.toList=some [v,x])(nn:c.argTypes.toList=[t,hq])(aN:kn K.P t=some (e,aj,gd))(kg:K.P.underlying hq=some eZ)(tZ:∀i,eZ≠.int i)
 (ap:Acc e aj v k cells aY)(hm:m=aY++eA)(I:nb K.g0 B J m aj x j new)(df:new.length=j*aj)(dR:new.all eT=true)(ay:k+j<=1000000)
 (h:∀w hy,Acc e aj w (k+j) (cells++new) hy->eF ⟨n,ds,(d,w)::l⟩ (hy++eA) J):iG K B o ⟨n,ds,l⟩ m J eF:=
 Xd an av aS aM aW nn aN kg tZ ap hm I df dR ay fun w hy q _=>h w hy q
end
section
variable {K:eN}{B:dO}{o:Oper}{n:Nat}{ds:eQ}{l:List (Nat×Value)}{m m':aI}{J:aA}{eF:b9->aI->aA->Prop}{d:Nat}
theorem ae.cut{c:Code}{E:b9}{L:List (Nat×Value)}{M:aI}{cN:aA}{cx:Exit->b9->aI->aA->Prop}(aa:ae K B c E m J fun e E' m' ag=>match e with
 |.normal=>(∃l',E'=⟨n,ds,l'⟩/\oT l' L)/\M.Sublist m'/\ag=cN
 |e=>cx e E' m' ag)(ab:cx .normal ⟨n,ds,L⟩ M cN):ae K B c E m J cx:=by
 intro S H aC aE;obtain⟨e,aO,H',E',ct,ag,a',bd,bz,cM⟩:=aa S H aC aE;cases e with
 |normal=>
  obtain⟨⟨l',rfl,ha⟩,ru,rfl⟩:=cM;exact⟨_,aO,H',_,M,_,a',bd.sub ha,bz.sub ru,ab⟩
 |exit i=>exact⟨_,aO,H',_,_,_,a',bd,bz,cM⟩
 |goto i=>exact⟨_,aO,H',_,_,_,a',bd,bz,cM⟩
 |ret=>exact⟨_,aO,H',_,_,_,a',bd,bz,cM⟩
 |panic c=>exact⟨_,aO,H',_,_,_,a',bd,bz,cM⟩
 |outgrown=>exact⟨_,aO,H',_,_,_,a',bd,bz,cM⟩
theorem u9{t:Nat}{p:Prop}[Decidable p](h:look l t=some (.bool true))(au:p):look l t=some (.bool (decide p)):=by rw[h,o8 au]
theorem u6{t:Nat}{p:Prop}[Decidable p](h:look l t=some (.bool false))(au:¬p):look l t=some (.bool (decide p)):=by rw[h,tx au]
theorem u7{t:Nat}{p q:Prop}[Decidable p][Decidable q](h:look l t=some (.bool (decide q)))(au:q↔p):look l t=some (.bool (decide p)):=by rw[h];simp[au]
theorem u5{t:Nat}{p:Prop}[Decidable p]{b:Bool}(h:look l t=some (.bool b))(au:b=true↔p):look l t=some (.bool (decide p)):=by rw[h];congr 2;rw[oc];simp[au]
def yy (l:List (Nat×Value))(d:Int):Option Operand->Option Int
 |none=>some d
 |some x=>match bW l x with|some (.int _ i)=>some i|_=>none
theorem QL{S:aQ}(aC:Sat ⟨n,ds,l⟩ S)(H:ao){dl i:Int}{x:Option Operand}(h:yy l dl x=some i):(x=none/\i=dl/\h7 S.T H x=some none)\/(∃k y,x=some y/\bW l y=some (.int k i)/\h7 S.T H x=some (some (.int k i))):=by
 cases x with
 |none=>injection h with h;exact .inl ⟨rfl,h.symm,rfl⟩
 |some y=>
  right
  simp only[yy] at h;split at h
  ·rename_i k j aU;injection h with h;subst h
   exact⟨k,y,rfl,aU,by simp only[h7];rw[ey aC H aU]⟩
  ·cases h
theorem Dh{S:aQ}(aC:Sat ⟨n,ds,l⟩ S)(H:ao){dl i:Int}{x:Option Operand}{mO top:Nat}(h:yy l dl x=some i)(bt:0<=i)(aa:i<=top)(aS:dl=mO):∃pz,h7 S.T H x=some pz/\kt mO top pz=some i.toNat:=by
 rcases QL aC H h with⟨rfl,rfl,q⟩|⟨k,y,rfl,ah,q⟩
 ·refine⟨none,q,?_⟩;rw[aS];rfl
 ·exact⟨_,q,Fb bt aa⟩
theorem alf{t e:TypeId}{x:Operand}{cL ak:Option Operand}{v:Value}{k aj:Nat}{gd cs:List Value}{a b:Int}(an:o.op=.slice t x cL ak none)(aS:o.dst=some d)(aM:Nat.blt d n=true)(I:bW l x=some v)(aN:kn K.P t=some (e,aj,gd))(ap:hl J e aj v k cs)(aH:0<k)(lE:yy l 0 cL=some a)(mn:yy l k ak=some b)(bt:0<=a)(aa:a<=b)(ab:b<=k)
 (h:∀w,hl J e aj w (b -a).toNat ((cs.drop (a.toNat*aj)).take ((b -a).toNat*aj))->eF ⟨n,ds,(d,w)::l⟩ m J):iG K B o ⟨n,ds,l⟩ m J eF:=by
 obtain⟨hu,eI,hZ,z,h1,bC,bE,rfl,bS,cJ,gy⟩:=ux aN;refine iG.Ae aS aM fun S H aC aE=>?_;cases ap with
 |nil=>exact absurd aH (by omega)
 |lu a off cap h=>exact absurd aH (by omega)
 |w2=>exact absurd aH (by omega)
 |@row lQ off k cap cells cs bn cO dI fK iT jC=>
  obtain⟨ol,agv,NP⟩:=Dh (mO:=0) (top:=b.toNat) aC H lE bt (by omega) rfl;have gN:∀w,mP K.P H t (.slice (some ⟨lQ,off,none⟩) k cap) ol (match h7 S.T H ak with|some x=>x|none=>none)=some w->∀call aL,cY K.P call aL S H o=some (.val w H):=fun w hw call aL=>by
   unfold cY fU;simp only[an];show n5 K.P _ t (a6 S.T H x) (h7 S.T H cL) (h7 S.T H ak)=_;rw[ey aC H I,agv];rcases QL aC H mn with⟨_,_,q⟩|⟨_,_,_,_,q⟩
   ·rw[q] at hw ⊢;unfold n5;simp only;rw[show mP K.P H t (.slice (some ⟨lQ,off,none⟩) k cap) ol none=some w from hw];rfl
   ·rw[q] at hw ⊢;unfold n5;simp only;rw[show mP K.P H t (.slice (some ⟨lQ,off,none⟩) k cap) ol _=some w from hw];rfl
  have hlen:k*aj<=(cells.drop off).length:=by
   have:((cells.drop off).take (k*aj)).length=k*aj:=by rw[dI];exact fK
   rw[fc] at this;omega
  have aD:(b -a).toNat=b.toNat -a.toNat:=by omega
  have hle:a.toNat*aj+(b -a).toNat*aj<=k*aj:=by
   rw[<-mC];exact mD _ (by omega)
  have kx:(cells.drop (off+a.toNat*aj)).take ((b -a).toNat*aj)=(cs.drop (a.toNat*aj)).take ((b -a).toNat*aj):=by
   rw[<-dI,CS,uN,Aq,k4 (by omega)]
  have jw:((cs.drop (a.toNat*aj)).take ((b -a).toNat*aj)).length=(b -a).toNat*aj:=by
   rw[fc,jJ,fK];omega
  obtain⟨aof,of,aog,os,cn⟩:=aE.fj _ _ _ cO;by_cases av:cap=cR
  ·subst av;obtain⟨FA,xK,xL⟩:=Dh (mO:=k) (top:=k) aC H mn (by omega) (by omega) rfl;refine⟨.slice (some ⟨lQ,off+a.toNat*aj,none⟩) (b -a).toNat cR,H,m,J,gN _ ?_,aE,h _ (.row cO kx jw (fun q=>absurd rfl q) jC)⟩;rw[xK];unfold mP;simp only[hu,eI,hX,cc,cn,jC rfl,xL,NP,lK,dN];rw[aD];rfl
  ·obtain⟨FA,xK,xL⟩:=Dh (mO:=k) (top:=cap) aC H mn (by omega) (by have:=(iT av).1;omega) rfl;have Ex:Nat.beq cap cR=false:=by
    cases q:Nat.beq cap cR
    ·rfl
    ·exact absurd (eK q) av
   by_cases sr:cap=a.toNat
   ·have BJ:(b -a).toNat=0:=by have:=(iT av).1;omega
    refine⟨.slice (some ⟨lQ,off,none⟩) (b -a).toNat (cap -a.toNat),H,m,J,gN _ ?_,aE,h _ ?_⟩
    ·rw[xK];unfold mP;simp only[hu,eI,Ex,dN,xL,NP];rw[show Nat.beq cap a.toNat=true by rw[sr];exact hX _,cc,aD];rfl
    ·have:(cs.drop (a.toNat*aj)).take ((b -a).toNat*aj)=[]:=by rw[BJ];simp
     rw[this,BJ,sr,ta];exact .lu _ _ _ (by decide)
   ·refine⟨.slice (some ⟨lQ,off+a.toNat*aj,none⟩) (b -a).toNat (cap -a.toNat),H,m,J,gN _ ?_,aE,h _ (.row cO kx jw (fun _=>⟨by have:=(iT av).1;omega,by have:=(iT av).2;omega⟩) (fun q=>?_))⟩
    ·rw[xK];unfold mP;simp only[hu,eI,Ex,dN,xL,NP];have:Nat.beq cap a.toNat=false:=by
      cases q:Nat.beq cap a.toNat
      ·rfl
      ·exact absurd (eK q) sr
     rw[this,dN,aD];rfl
    ·have:=(iT av).2;omega
end
end
end Go.Opn
