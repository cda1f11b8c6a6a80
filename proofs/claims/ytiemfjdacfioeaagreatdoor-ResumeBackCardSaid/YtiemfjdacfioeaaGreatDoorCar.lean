/- A part of the proof of ResumeBack. -/
import Derived.Test.YtiemfjdacfioeaaGreatDoorCaq
import Derived.Laws.Strings2
set_option linter.unusedVariables false
set_option linter.unusedSimpArgs false
namespace Go.Opn
noncomputable section
open Go.Cre Go.RowKit
inductive hL (J:aI) (e:TypeId) (sz:Nat):Value->Nat->List Value->Prop
 |nil:hL J e sz (.slice none 0 0) 0 []
 |kp (a off cap:Nat):cap<c9->hL J e sz (.slice (some ⟨a,off,none⟩) 0 cap) 0 []
 |yX:hL J e sz (.slice (some ⟨0,0,some 0⟩) 0 0) 0 []
 |row {a off len cap:Nat} {cells cs:List Value} {bG:TypeId}:J a=some (cells,bG)->(cells.drop off).take (len*sz)=cs->cs.length=len*sz->(cap≠c9->len<=cap/\cap<c9)->(cap=c9->bG=e)->hL J e sz (.slice (some ⟨a,off,none⟩) len cap) len cs
theorem hL.mono{J ag:aI}(hle:J.le ag){e:TypeId}{sz n:Nat}{v:Value}{cs:List Value}(h:hL J e sz v n cs):hL ag e sz v n cs:=by
 cases h with
 |nil=>exact .nil
 |kp a off cap h=>exact .kp a off cap h
 |yX=>exact .yX
 |row aa ae aG br eu=>exact .row (hle _ _ aa) ae aG br eu
theorem hL.inv{J:aI}{e:TypeId}{sz n:Nat}{v:Value}{cs:List Value}(h:hL J e sz v n cs):∃b c,v=.slice b n c/\cs.length=n*sz/\(b=none->n=0)/\(0<n->∃a off cells bG,b=some ⟨a,off,none⟩/\J a=some (cells,bG)/\∀k,k<n*sz->nth cells (off+k)=cs[k]?):=by
 cases h with
 |nil=>exact⟨_,_,rfl,by simp,fun _=>rfl,fun q=>absurd q (by omega)⟩
 |kp a off cap h=>exact⟨_,_,rfl,by simp,fun _=>rfl,fun q=>absurd q (by omega)⟩
 |yX=>exact⟨_,_,rfl,by simp,fun _=>rfl,fun q=>absurd q (by omega)⟩
 |@row a off len cap cells cs bG aa ae aG br eu=>
  refine⟨_,_,rfl,aG,(fun q=>by cases q),fun _=>⟨a,off,cells,bG,rfl,aa,fun k aU=>?_⟩⟩;rw[kR,<-ae,kI,aE aU,pY]
theorem hL.len{J:aI}{e:TypeId}{sz n:Nat}{v:Value}{cs:List Value}(h:hL J e sz v n cs):cs.length=n*sz:=by
 obtain⟨_,_,_,h,_⟩:=h.inv;exact h
theorem x6{α:Type}{n:Nat}{l:List α}(h:n<=l.length):takeN n l=some (l.take n):=by
 induction n generalizing l with
 |zero=>rfl
 |succ n aK=>
  cases l with
  |nil=>simp at h
  |cons a l=>
   simp only[takeN];rw[aK (by simpa using h)];rfl
def mQ(g0:Nat)(B:ea)(J:aI)(m:aO)(sz:Nat)(v:Value)(n:Nat)(cs:List Value):Prop:=∀H,Inv g0 B J m H->rF v=some n/\jM H sz n v=some cs
theorem hL.rd{g0:Nat}{B:ea}{J:aI}{m:aO}{e:TypeId}{sz n:Nat}{v:Value}{cs:List Value}(h:hL J e sz v n cs):mQ g0 B J m sz v n cs:=by
 intro H aJ;cases h with
 |nil=>exact⟨rfl,rfl⟩
 |kp a off cap h=>exact⟨rfl,rfl⟩
 |yX=>exact⟨rfl,rfl⟩
 |@row a off len cap cells cs bG aa ae aG br eu=>
  refine⟨rfl,?_⟩;obtain⟨o,f,z,s,q⟩:=aJ.fz _ _ _ aa;unfold jM;cases n with
  |zero=>simp only;rw[<-ae];simp
  |succ n=>
   simp only[q];rw[wY,x6,ae];have:((cells.drop off).take ((n+1)*sz)).length=(n+1)*sz:=by rw[ae];exact aG
   rw[h1] at this;omega
section
variable {K:eL}{B:ea}{o:Oper}{n:Nat}{ds:e7}{l:List (Nat×Value)}{m m':aO}{J:aI}{eR:cn->aO->aI->Prop}{d:Nat}
def jS (P:Program)(t:TypeId):Option (TypeId×Nat×List Value):=match P.underlying t with
 |some (.slice e)=>(match ej P e,vb P e,fw P e with
  |some sz,some gS,some z=>bif Nat.ble gS 1000000&&Nat.beq z.cells.toList.length sz&&z.cells.toList.all eQ&&plain z then some (e,sz,z.cells.toList) else none
  |_,_,_=>none)
 |_=>none
theorem x2{P:Program}{t e:TypeId}{sz:Nat}{gf:List Value}(h:jS P t=some (e,sz,gf)):P.underlying t=some (.slice e)/\ej P e=some sz/\∃gS z,vb P e=some gS/\fw P e=some z/\Nat.ble gS 1000000=true/\gf=z.cells.toList/\gf.length=sz/\gf.all eQ=true/\plain z=true:=by
 unfold jS at h;split at h
 ·rename_i bG aa;split at h
  ·rename_i an6 gS z ae aG br;cases au:(Nat.ble gS 1000000&&Nat.beq z.cells.toList.length an6&&z.cells.toList.all eQ&&plain z) with
   |true=>
    rw[au,cb] at h;simp only[cp,dC] at h;obtain⟨rfl,rfl,rfl⟩:=h;simp only[fU] at au;obtain⟨⟨⟨bm,bl⟩,b8⟩,gx⟩:=au;exact⟨aa,ae,gS,z,aG,br,bm,rfl,eN bl,b8,gx⟩
   |false=>rw[au,dZ] at h;cases h
  ·cases h
 ·cases h
theorem apu{t e:TypeId}{k sz:Nat}{gf cells:List Value}{eG:Array (Nat×Operand)}{vs:List (Nat×Value)}(ar:o.op=.buildSlice t k eG)(aZ:o.dst=some d)(aP:Nat.blt d n=true)(aw:tz l eG.toList=some vs)(aD:jS K.P t=some (e,sz,gf))(aU:(Nat.ble k 100000&&Nat.ble (k*sz) 100000)=true)(aC:nC (fun i=>some (i*sz,sz)) (gG gf k) vs=some cells)(aa:cells.all eQ=true)
 (h:∀a,eR ⟨n,ds,(d,.slice (some ⟨a,0,none⟩) k k)::l⟩ ((a,.row cells e)::m) J):hZ K B o ⟨n,ds,l⟩ m J eR:=by
 obtain⟨hu,eU,gS,z,h',bN,bm,rfl,bl,b8,gx⟩:=x2 aD;refine hZ.x' aZ aP fun S H ax aJ=>?_;obtain⟨H1,aN,bn⟩:=aJ.alloc cells e;refine⟨_,H1,_,J,fun call aR=>?_,bn,h H.ak⟩;unfold cO fq;simp only[ar];show Iv K.P _ t k (lj S.T H eG.toList)=_;rw[Ud ax H aw];show mJ (Gs K.P H t k vs)=_;unfold Gs uu;simp only[hu,eU,bN];rw[aU,gx,show Nat.beq z.cells.toList.length sz=true by rw[bl];exact hA _];simp only[wg,cb,aC,aa,aN];rfl
theorem HY{i:Int}{len:Nat}(bD:0<=i)(aa:i<=len):qt i len=some i.toNat:=by
 cases i with
 |ofNat n=>
  unfold qt;have:Nat.ble n len=true:=lr (by simpa using aa);simp only[this,cb];rfl
 |negSucc n=>exact absurd bD (by simp)
theorem pT{t e:TypeId}{x y:Operand}{sz:Nat}{gf:List Value}{i j:Int}{zw K':IntKind}(ar:o.op=.makeSlice t x y)(aZ:o.dst=some d)(aP:Nat.blt d n=true)(U:b7 l x=some (.int zw i))(ai:b7 l y=some (.int K' j))(aD:jS K.P t=some (e,sz,gf))(bD:0<=i)(aa:i<=j)(ae:j<=1000000)
 (h:∀a,eR ⟨n,ds,(d,.slice (some ⟨a,0,none⟩) i.toNat j.toNat)::l⟩ ((a,.row (gG gf j.toNat) e)::m) J):hZ K B o ⟨n,ds,l⟩ m J eR:=by
 obtain⟨hu,eU,gS,z,h',bN,bm,rfl,bl,b8,gx⟩:=x2 aD;refine hZ.x' aZ aP fun S H ax aJ=>?_;obtain⟨H1,aN,bn⟩:=aJ.alloc (gG z.cells.toList j.toNat) e;refine⟨_,H1,_,J,fun call aR=>?_,bn,h H.ak⟩;unfold cO fq;simp only[ar];show Iw K.P _ t (bk S.T H x) (bk S.T H y)=_;rw[du ax H U,du ax H ai];show mJ (Gw K.P H t (.int zw i) (.int K' j))=_;unfold Gw uu;simp only[hu,bN,h',eU];rw[HY (by omega) (by omega),HY (by omega) (by omega)];simp only[bm,b8,gx,wh];rw[show Nat.beq z.cells.toList.length sz=true by rw[bl];exact hA _,show Nat.ble i.toNat j.toNat=true from lr (by omega)];simp only[wh,cb,aN];rfl
inductive Acc (e:TypeId) (sz:Nat):Value->Nat->List Value->aO->Prop
 |nil:Acc e sz (.slice none 0 0) 0 [] []
 |kp (a:Nat):Acc e sz (.slice (some ⟨a,0,none⟩) 0 0) 0 [] []
 |opn {a k:Nat} {cells:List Value} {rest:List Nat} {z:Nat}:cells.length=k*sz->z<=cells.length->Acc e sz (.slice (some ⟨a,0,none⟩) k c9) k cells [(a,.opn cells e rest z)]
 |cap {a k C:Nat} {cells full:List Value} {el:TypeId}:full.length=C*sz->full.take (k*sz)=cells->k<=C->C<c9->Acc e sz (.slice (some ⟨a,0,none⟩) k C) k cells [(a,.row full el)]
theorem Cm{α:Type}:∀(off:Nat) (l vs:List α),off+vs.length<=l.length->gD off l vs=some (l.take off++vs++l.drop (off+vs.length)):=by
 intro off;induction off with
 |zero=>
  intro l vs h;induction vs generalizing l with
  |nil=>cases l<;>simp[gD]
  |cons v vs aK=>
   cases l with
   |nil=>simp at h
   |cons a l=>
    have:=aK l (by simp only[iQ] at h;omega);simp only[gD,this];simp
 |succ n aK=>
  intro l vs h;cases l with
  |nil=>simp at h
  |cons a l=>
   have:=aK l vs (by simp only[iQ] at h;omega);simp only[gD,this];simp[Nat.add_right_comm n 1 vs.length]
theorem Inv.perm{g0:Nat}{H:aB}(h:Inv g0 B J m H)(aw:m.Perm m'):Inv g0 B J m' H:=
 ⟨h.wf,h.bZ,h.ak,h.ct,h.eF,h.oc,h.fz,h.le,h.fresh,fun a b q=>h.own a b (aw.symm.subset q),fun a b q=>h.opn a b (aw.symm.subset q),(K1 aw).nodup_iff.1 h.gm⟩
theorem Inv.grow{g0 a z:Nat}{H:aB}{cells:List Value}{e:TypeId}{rest:List Nat}(h:Inv g0 B J ((a,.opn cells e rest z)::m) H)(cells':List Value):∃f H1 cN,H.mem.get a=some (.row cells e true f z false)/\H.bM.get f=some (a::rest)/\H.rS f (H.ak::a::rest)=some H1/\H1.ak=H.ak/\H1.new (.row cells' e true f z false)=some (H.ak,cN)/\Inv g0 B J ((H.ak,.opn cells' e (a::rest) z)::m) cN:=by
 obtain⟨bp,bC,b5,da⟩:=h.own a _ (.head _);obtain⟨f,f1,f2,f3⟩:=bp;have OP:=h.wf.GF f3;have d':=h.gm;rw[show ids ((a,cK.opn cells e rest z)::m)=a::(rest++ids m) from rfl,uU,kX] at d';obtain⟨H1,aN⟩:=h.wf.rS (H.ak::a::rest) OP;obtain⟨s2,s1,zU,ES,uF⟩:=aB.EX aN;have hm:Inv g0 B J m H1:=by
  refine⟨h.wf.Q9 OP aN,ES.trans h.bZ,by rw[s2];exact h.ak,by rw[zU];exact h.ct,fun x U k6=>by rw[s1];exact h.eF x U k6,fun g aq=>?_,fun x c e ba=>by rw[s1];exact h.fz x c e ba,h.le,h.fresh,fun x b au=>?_,fun x b au y ai=>by rw[s2];exact h.opn x b (.tail _ au) y ai,(Js _ _).nodup d'.2⟩
  ·rw[uF,ap (fun q=>aq (by rw[q];exact f1))];exact h.oc g aq
  ·obtain⟨cU,ee,mx,rE⟩:=h.own x b (.tail _ au);refine⟨?_,ee,mx,rE⟩;cases b with
   |row c e=>show H1.mem.get x=_;rw[s1];exact cU
   |map es k=>show H1.mem.get x=_;rw[s1];exact cU
   |loop r=>show H1.mem.get x=_;rw[s1];exact cU
   |iT=>show H1.mem.get x=_;rw[s1];exact cU
   |opn c bG r hQ=>
    obtain⟨g,g1,g2,g3⟩:=cU;refine⟨g,g1,by rw[s1];exact g2,?_⟩;rw[uF,ap]
    ·exact g3
    ·intro q;subst q;rw[f3] at g3;injection g3 with g3;injection g3 with g3
     subst g3;exact d'.1 (.inr (BG au))
 obtain⟨cN,bn⟩:=hm.wf.new (.row cells' e true f z false);obtain⟨_,dn,lh,vT,rJ,l7⟩:=aB.qz bn;refine⟨f,H1,cN,f2,f3,aN,s2,by rw[<-s2];exact bn,?_⟩;have ae:Inv g0 B J m cN:=by
  refine⟨hm.wf.Qs bn,rJ.trans hm.bZ,by have:=hm.ak;omega,by rw[vT];exact hm.ct,fun x U k6=>?_,fun g aq=>by rw[lh];exact hm.oc g aq,fun x c e ba=>?_,hm.le,hm.fresh,fun x b au=>?_,fun x b au y ai=>?_,hm.gm⟩
  ·rw[l7,ap (by have:=hm.ak;omega)];exact hm.eF x U k6
  ·obtain⟨o,f,z,s,q⟩:=hm.fz x c e ba;exact⟨o,f,z,s,by rw[l7,ap (by have:=hm.wf.lt q;omega)];exact q⟩
  ·obtain⟨cU,ee,mx,rE⟩:=hm.own x b au;exact⟨cK.yI cU (by rw[l7,ap (by have:=hm.lt au;omega)]) (fun f l aC=>by rw[lh];exact aC),ee,mx,rE⟩
  ·obtain⟨cU,ee,mx⟩:=hm.opn x b au y ai;exact⟨by omega,ee,mx⟩
 refine⟨ae.wf,ae.bZ,ae.ak,ae.ct,ae.eF,ae.oc,ae.fz,ae.le,ae.fresh,fun x b au=>?_,fun x b au y ai=>?_,?_⟩
 ·rcases fg.1 au with q|q
  ·injection q with bd a6;subst bd;subst a6
   exact⟨⟨f,f1,by rw[l7,s2,aE rfl],by rw[lh,uF,aE rfl]⟩,.inl h.ak,h.Qv,h.NV⟩
  ·exact ae.own x b q
 ·rcases fg.1 au with q|q
  ·injection q with bd a6;subst bd;subst a6
   have c4:y<H.ak/\(B.H0.ak<=y\/B.X y)/\J y=none:=by
    rcases fg.1 (show y∈a::rest from ai) with q|q
    ·subst q;exact⟨h.lt (.head _),bC,b5⟩
    ·exact h.opn a _ (.head _) y q
   exact⟨by have:=c4.1;omega,c4.2⟩
  ·exact ae.opn x b q y ai
 ·show(H.ak::(a::(rest++ids m))).Nodup;rw[uU];refine⟨fun q=>?_,h.gm⟩;have:=h.Lb (show H.ak∈ids ((a,cK.opn cells e rest z)::m) from q);omega
theorem Ta{j:Nat}(h:j≠0):Nat.ble (0+j) 0=false:=by
 cases q:Nat.ble (0+j) 0
 ·rfl
 ·have:=h3 q;omega
def z0(aY:aO):Prop:=∀a c e r z,(a,cK.opn c e r z)∈aY->z=0
theorem CA{a:Nat}{c:List Value}{e:TypeId}{r:List Nat}:z0 [(a,.opn c e r 0)]:=fun a c e r z q=>by
 rcases fg.1 q with q|q
 ·injection q with _ q;injection q
 ·cases q
theorem apE{a:Nat}{c:List Value}{e:TypeId}:z0 [(a,.row c e)]:=fun a c e r z q=>by
 rcases fg.1 q with q|q
 ·cases q
 ·cases q
theorem apD{a bY:Nat}{c ch:List Value}{e bG:TypeId}{r dw:List Nat}{z:Nat}(h:z0 [(a,.opn c e r z)]):z0 [(bY,.opn ch bG dw z)]:=fun b x y u w q=>by
 rcases fg.1 q with q|q
 ·injection q with _ q;injection q with _ _ _ q
  subst q;exact h _ _ _ _ _ (.head _)
 ·cases q
def my(aY:aO):Prop:=∀a c e,(a,cK.row c e)∉aY
theorem xS{a:Nat}{c:List Value}{e:TypeId}{r:List Nat}{z:Nat}:my [(a,.opn c e r z)]:=fun a c e q=>by
 rcases fg.1 q with q|q
 ·cases q
 ·cases q
theorem aad{c:Call}{t hy e:TypeId}{sz k j:Nat}{gf cells new:List Value}{v x:Value}{aY m0:aO}{hn:TypeDesc}(ar:o.op=.call c)(aH:c.callee=.builtin .append)(aZ:o.dst=some d)(aP:Nat.blt d n=true)(a':h5 l c.args.toList=some [v,x])(oY:c.argTypes.toList=[t,hy])(aD:jS K.P t=some (e,sz,gf))(jQ:K.P.underlying hy=some hn)(vL:∀i,hn≠.int i)
 (az:Acc e sz v k cells aY)(hm:m=aY++m0)(U:mQ K.g0 B J m sz x j new)(cr:new.length=j*sz)(cc:new.all eQ=true)(av:k+j<=1000000)
 (h:∀w hF,Acc e sz w (k+j) (cells++new) hF->(z0 aY->z0 hF)/\(my aY->my hF)->eR ⟨n,ds,(d,w)::l⟩ (hF++m0) J):hZ K B o ⟨n,ds,l⟩ m J eR:=by
 obtain⟨hu,eU,gS,z,h',bN,bm,rfl,bl,b8,gx⟩:=x2 aD;refine hZ.x' aZ aP fun S H ax aJ=>?_;obtain⟨hj,ig⟩:=U H aJ;have hV:∀call aR,cO K.P call aR S H o=mJ (p6 K.P H t v x):=fun call aR=>by
  rw[yY ar aH];unfold pn;rw[oI ax H a',oY];simp only[jQ]
 have lX:(!(Nat.ble (k+j) 1000000&&Nat.ble gS 1000000&&Nat.beq z.cells.toList.length sz))=false:=by
  rw[bm,bl,hA,show Nat.ble (k+j) 1000000=true from lr av];rfl
 have ql:(!(new.all eQ&&Nat.beq new.length (j*sz)))=false:=by
  rw[cc,cr,hA];rfl
 subst hm;cases az with
 |nil=>
  by_cases ba:j=0
  ·subst ba;have qk:new=[]:=by apply yq;rw[cr];simp
   subst qk;refine⟨.slice none 0 0,H,_,J,fun call aR=>?_,aJ,h _ [] .nil ⟨id,id⟩⟩;rw[hV];unfold p6;simp only[hu,eU,h',bN,hj,lX,dZ,ig,ql];rfl
  ·obtain⟨H1,aN,bn⟩:=aJ.od new e;refine⟨.slice (some ⟨H.ak,0,none⟩) j c9,H1,(H.ak,.opn new e [] 0)::m0,J,fun call aR=>?_,bn,?_⟩
   ·rw[hV];unfold p6;simp only[hu,eU,h',bN,hj,lX,dZ,ig,ql];rw[show Nat.beq 0 c9=false from rfl,dZ,Ta ba,dZ];simp only[jM,yt,Jv,hA,cb,me,fresh,aN,ls];rfl
   ·have:=h (.slice (some ⟨H.ak,0,none⟩) j c9) [(H.ak,.opn new e [] 0)] (by rw[ls,me];exact .opn cr (cB _)) ⟨fun _=>CA,fun _=>xS⟩;exact this
 |kp a=>
  by_cases ba:j=0
  ·subst ba;have qk:new=[]:=by apply yq;rw[cr];simp
   subst qk;refine⟨.slice (some ⟨a,0,none⟩) 0 0,H,_,J,fun call aR=>?_,aJ,h _ [] (.kp a) ⟨id,id⟩⟩;rw[hV];unfold p6;simp only[hu,eU,h',bN,hj,lX,dZ,ig,ql];rfl
  ·obtain⟨H1,aN,bn⟩:=aJ.od new e;refine⟨.slice (some ⟨H.ak,0,none⟩) j c9,H1,(H.ak,.opn new e [] 0)::m0,J,fun call aR=>?_,bn,?_⟩
   ·rw[hV];unfold p6;simp only[hu,eU,h',bN,hj,lX,dZ,ig,ql];rw[show Nat.beq 0 c9=false from rfl,dZ,Ta ba,dZ];simp only[jM,yt,Jv,hA,cb,me,fresh,aN,ls];rfl
   ·have:=h (.slice (some ⟨H.ak,0,none⟩) j c9) [(H.ak,.opn new e [] 0)] (by rw[ls,me];exact .opn cr (cB _)) ⟨fun _=>CA,fun _=>xS⟩;exact this
 |@opn a k cells rest z hlen ug=>
  have KY:Nat.ble z (0+k*sz)=true:=lr (by omega);by_cases ba:j=0
  ·subst ba;have qk:new=[]:=by apply yq;rw[cr];simp
   subst qk;obtain⟨f,H1,cN,g1,g2,g5,g6,g7,g8⟩:=Inv.grow (m:=m0) aJ cells;have rk:Nat.blt a H.bZ=false:=by
    cases q:Nat.blt a H.bZ
    ·rfl
    ·have:a<H.bZ:=by simpa[Nat.blt,tc] using q
     have:=(aJ.own _ _ (.head _)).2.2.2;have:=aJ.bZ;omega
   refine⟨.slice (some ⟨a,0,none⟩) k c9,H,_,J,fun call aR=>?_,aJ,h _ [(a,.opn cells e rest z)] (by rw[ta,gg];exact .opn hlen ug) ⟨id,id⟩⟩;rw[hV];unfold p6;simp only[hu,eU,h',bN,hj,lX,dZ,ig,ql,hA,cb,g1,rk,Ml,wg,KY,lK];rfl
  ·obtain⟨f,H1,cN,g1,g2,g5,g6,g7,g8⟩:=Inv.grow (m:=m0) aJ (cells++new);have rk:Nat.blt a H.bZ=false:=by
    cases q:Nat.blt a H.bZ
    ·rfl
    ·have:a<H.bZ:=by simpa[Nat.blt,tc] using q
     have:=(aJ.own _ _ (.head _)).2.2.2;have:=aJ.bZ;omega
   refine⟨.slice (some ⟨H.ak,0,none⟩) (k+j) c9,cN,(H.ak,.opn (cells++new) e (a::rest) z)::m0,J,fun call aR=>?_,g8,?_⟩
   ·rw[hV];have O4:Nat.beq j 0=false:=by
     cases q:Nat.beq j 0
     ·rfl
     ·exact absurd (eN q) ba
    have PN:takeN (k*sz) cells=some cells:=by rw[x6 (by omega),et (by omega)]
    unfold p6;simp only[hu,eU,h',bN,hj,lX,dZ,ig,ql,hA,cb,g1,rk,Ml,wg,KY,lK,O4,PN,g2,yS,hlen,Gg,g5,g6,g7];rfl
   ·exact h (.slice (some ⟨H.ak,0,none⟩) (k+j) c9) [(H.ak,.opn (cells++new) e (a::rest) z)] (.opn (by rw[dv,hlen,cr,nr]) (by rw[dv];omega)) ⟨apD,fun _=>xS⟩
 |@cap a k C cells full el iK qh VK nE=>
  have V0:Nat.beq C c9=false:=by
   cases q:Nat.beq C c9
   ·rfl
   ·have:=eN q;omega
  have gj:H.mem.get a=some (.row full el false 0 0 false):=(aJ.own a (.row full el) (.head _)).1;have G8:cells.length=k*sz:=by rw[<-qh,h1,iK,mf (nt _ VK)]
  have Bn:Nat.blt a H.bZ=false:=by
   cases q:Nat.blt a H.bZ
   ·rfl
   ·have:a<H.bZ:=by simpa[Nat.blt,tc] using q
    have:=(aJ.own _ _ (.head _)).2.2.2;have:=aJ.bZ;omega
  by_cases nG:k+j<=C
  ·have Bx:k*sz+new.length<=full.length:=by rw[cr,iK,<-nr];exact nt _ nG
   have lb:=Cm (k*sz) full new Bx;have di:∃H1,sk H a (0+k*sz) new=some H1/\∃DG,Inv K.g0 B J ((a,.row DG el)::m0) H1/\DG.length=C*sz/\DG.take ((k+j)*sz)=cells++new:=by
    cases oW:new with
    |nil=>
     have bD:j*sz=0:=by rw[<-cr,oW];rfl
     exact⟨H,rfl,full,aJ,iK,by rw[nr,bD,ta,qh,gg]⟩
    |cons kG xs=>
     obtain⟨H1,aN,bn⟩:=aJ.store (cells':=full.take (k*sz)++new++full.drop (k*sz+new.length)) (.head _ _ _ _);refine⟨H1,?_,_,bn,?_,?_⟩
     ·rw[<-oW]
      have:sk H a (0+k*sz) new=(bif Nat.blt a H.bZ then none else match H.mem.get a with
       |some (.row cells elem opn bM eB sh)=>bif Nat.ble eB (0+k*sz)&&new.all eQ then(match gD (0+k*sz) cells new with
        |none=>none
        |some cells=>match H.upd a (.row cells elem opn bM eB sh) with
         |none=>none
         |some H=>bif opn then zx H a bM else some H) else none
       |_=>none):=by rw[oW];rfl
      rw[this];simp only[Bn,dZ,gj,ls,lb,aN,cc,wh,Nat.ble,cb]
     ·simp only[dv,h1,lO];omega
     ·rw[gH,List.take_append,qh,et (by rw[G8,nr];omega),List.take_append,et (by rw[G8,cr,nr];omega),G8,cr,nr,show k*sz+j*sz -k*sz -j*sz=0 by omega,Jt,gg];exact cC _ oW
   obtain⟨H1,aN,DG,bn,cP,eW⟩:=di;refine⟨.slice (some ⟨a,0,none⟩) (k+j) C,H1,(a,.row DG el)::m0,J,fun call aR=>?_,bn,h _ [(a,.row DG el)] (.cap cP eW nG nE) ⟨fun _=>apE,fun q=>absurd (.head _) (q _ _ _)⟩⟩;rw[hV];unfold p6;simp only[hu,eU,h',bN,hj,lX,dZ,ig,ql,V0,show Nat.ble (k+j) C=true from lr nG,cb,aN];rfl
  ·obtain⟨H1,aN,bn⟩:=aJ.od (cells++new) e;have su:Nat.ble (k+j) C=false:=by
    cases q:Nat.ble (k+j) C
    ·rfl
    ·have:=h3 q;omega
   have hold:jM H sz k (.slice (some ⟨a,0,none⟩) k C)=some cells:=by
    cases k with
    |zero=>
     rw[Jv,Jt] at qh;subst qh;rfl
    |succ k=>
     simp only[jM,gj];rw[wY,mP,x6 (by rw[iK];exact nt _ VK),qh]
   refine⟨.slice (some ⟨H.ak,0,none⟩) (k+j) c9,H1,(H.ak,.opn (cells++new) e [] 0)::m0,J,fun call aR=>?_,bn.sub (.cons_cons _ (.cons _ (.refl _))),h _ [(H.ak,.opn (cells++new) e [] 0)] (.opn (by rw[dv,G8,cr,nr]) (cB _)) ⟨fun _=>CA,fun _=>xS⟩⟩;rw[hV];unfold p6;simp only[hu,eU,h',bN,hj,lX,dZ,ig,ql,V0,su,zF,hold,G8,hA,cb,fresh,aN];rfl
theorem apr{c:Call}{t hy e:TypeId}{sz k j:Nat}{gf cells new:List Value}{v x:Value}{aY m0:aO}{hn:TypeDesc}(ar:o.op=.call c)(aH:c.callee=.builtin .append)(aZ:o.dst=some d)(aP:Nat.blt d n=true)(a':h5 l c.args.toList=some [v,x])(oY:c.argTypes.toList=[t,hy])(aD:jS K.P t=some (e,sz,gf))(jQ:K.P.underlying hy=some hn)(vL:∀i,hn≠.int i)
 (az:Acc e sz v k cells aY)(hm:m=aY++m0)(U:mQ K.g0 B J m sz x j new)(cr:new.length=j*sz)(cc:new.all eQ=true)(av:k+j<=1000000)
 (h:∀w hF,Acc e sz w (k+j) (cells++new) hF->eR ⟨n,ds,(d,w)::l⟩ (hF++m0) J):hZ K B o ⟨n,ds,l⟩ m J eR:=
 aad ar aH aZ aP a' oY aD jQ vL az hm U cr cc av fun w hF q _=>h w hF q
end
section
variable {K:eL}{B:ea}{o:Oper}{n:Nat}{ds:e7}{l:List (Nat×Value)}{m m':aO}{J:aI}{eR:cn->aO->aI->Prop}{d:Nat}
theorem ab.cut{c:Code}{E:cn}{L:List (Nat×Value)}{M:aO}{dQ:aI}{c0:Exit->cn->aO->aI->Prop}(aa:ab K B c E m J fun e cL m' ag=>match e with
 |.normal=>(∃l',cL=⟨n,ds,l'⟩/\pN l' L)/\M.Sublist m'/\ag=dQ
 |e=>c0 e cL m' ag)(ae:c0 .normal ⟨n,ds,L⟩ M dQ):ab K B c E m J c0:=by
 intro S H ax aJ;obtain⟨e,aS,H',cL,m1,ag,bp,bC,b5,da⟩:=aa S H ax aJ;cases e with
 |normal=>
  obtain⟨⟨l',rfl,gM⟩,ob,rfl⟩:=da;exact⟨_,aS,H',_,M,_,bp,bC.sub gM,b5.sub ob,ae⟩
 |exit i=>exact⟨_,aS,H',_,_,_,bp,bC,b5,da⟩
 |goto i=>exact⟨_,aS,H',_,_,_,bp,bC,b5,da⟩
 |ret=>exact⟨_,aS,H',_,_,_,bp,bC,b5,da⟩
 |panic c=>exact⟨_,aS,H',_,_,_,bp,bC,b5,da⟩
 |outgrown=>exact⟨_,aS,H',_,_,_,bp,bC,b5,da⟩
theorem j2{t:Nat}{p:Prop}[Decidable p](h:look l t=some (.bool true))(aw:p):look l t=some (.bool (decide p)):=by rw[h,yV aw]
theorem j0{t:Nat}{p:Prop}[Decidable p](h:look l t=some (.bool false))(aw:¬p):look l t=some (.bool (decide p)):=by rw[h,Gi aw]
theorem j1{t:Nat}{p q:Prop}[Decidable p][Decidable q](h:look l t=some (.bool (decide q)))(aw:q↔p):look l t=some (.bool (decide p)):=by rw[h];simp[aw]
theorem jZ{t:Nat}{p:Prop}[Decidable p]{b:Bool}(h:look l t=some (.bool b))(aw:b=true↔p):look l t=some (.bool (decide p)):=by rw[h];congr 2;rw[o8];simp[aw]
def AD (l:List (Nat×Value))(d:Int):Option Operand->Option Int
 |none=>some d
 |some x=>match b7 l x with|some (.int _ i)=>some i|_=>none
theorem AE{S:bi}(ax:Sat ⟨n,ds,l⟩ S)(H:aB){dl i:Int}{x:Option Operand}(h:AD l dl x=some i):(x=none/\i=dl/\jD S.T H x=some none)\/(∃k y,x=some y/\b7 l y=some (.int k i)/\jD S.T H x=some (some (.int k i))):=by
 cases x with
 |none=>injection h with h;exact .inl ⟨rfl,h.symm,rfl⟩
 |some y=>
  right
  simp only[AD] at h;split at h
  ·rename_i k j ba;injection h with h;subst h
   exact⟨k,y,rfl,ba,by simp only[jD];rw[du ax H ba]⟩
  ·cases h
theorem MP{S:bi}(ax:Sat ⟨n,ds,l⟩ S)(H:aB){dl i:Int}{x:Option Operand}{oF top:Nat}(h:AD l dl x=some i)(bD:0<=i)(aa:i<=top)(aZ:dl=oF):∃iW,jD S.T H x=some iW/\lx oF top iW=some i.toNat:=by
 rcases AE ax H h with⟨rfl,rfl,q⟩|⟨k,y,rfl,ai,q⟩
 ·refine⟨none,q,?_⟩;rw[aZ];rfl
 ·exact⟨_,q,HY bD aa⟩
theorem apv{t e:TypeId}{x:Operand}{cm ao:Option Operand}{v:Value}{k sz:Nat}{gf cs:List Value}{a b:Int}(ar:o.op=.slice t x cm ao none)(aZ:o.dst=some d)(aP:Nat.blt d n=true)(U:b7 l x=some v)(aD:jS K.P t=some (e,sz,gf))(az:hL J e sz v k cs)(aU:0<k)(j9:AD l 0 cm=some a)(lB:AD l k ao=some b)(bD:0<=a)(aa:a<=b)(ae:b<=k)
 (h:∀w,hL J e sz w (b -a).toNat ((cs.drop (a.toNat*sz)).take ((b -a).toNat*sz))->eR ⟨n,ds,(d,w)::l⟩ m J):hZ K B o ⟨n,ds,l⟩ m J eR:=by
 obtain⟨hu,eU,gS,z,h',bN,bm,rfl,bl,b8,gx⟩:=x2 aD;refine hZ.x' aZ aP fun S H ax aJ=>?_;cases az with
 |nil=>exact absurd aU (by omega)
 |kp a off cap h=>exact absurd aU (by omega)
 |yX=>exact absurd aU (by omega)
 |@row a0 off k cap cells cs bG cI ei gN iZ mE=>
  obtain⟨ol,alb,QD⟩:=MP (oF:=0) (top:=b.toNat) ax H j9 bD (by omega) rfl;have hV:∀w,oJ K.P H t (.slice (some ⟨a0,off,none⟩) k cap) ol (match jD S.T H ao with|some x=>x|none=>none)=some w->∀call aR,cO K.P call aR S H o=some (.val w H):=fun w hw call aR=>by
   unfold cO fq;simp only[ar];show qA K.P _ t (bk S.T H x) (jD S.T H cm) (jD S.T H ao)=_;rw[du ax H U,alb];rcases AE ax H lB with⟨_,_,q⟩|⟨_,_,_,_,q⟩
   ·rw[q] at hw ⊢;unfold qA;simp only;rw[show oJ K.P H t (.slice (some ⟨a0,off,none⟩) k cap) ol none=some w from hw];rfl
   ·rw[q] at hw ⊢;unfold qA;simp only;rw[show oJ K.P H t (.slice (some ⟨a0,off,none⟩) k cap) ol _=some w from hw];rfl
  have hlen:k*sz<=(cells.drop off).length:=by
   have:((cells.drop off).take (k*sz)).length=k*sz:=by rw[ei];exact gN
   rw[h1] at this;omega
  have aN:(b -a).toNat=b.toNat -a.toNat:=by omega
  have hle:a.toNat*sz+(b -a).toNat*sz<=k*sz:=by
   rw[<-nr];exact nt _ (by omega)
  have gV:(cells.drop (off+a.toNat*sz)).take ((b -a).toNat*sz)=(cs.drop (a.toNat*sz)).take ((b -a).toNat*sz):=by
   rw[<-ei,Ft,yu,Ar,mf (by omega)]
  have k8:((cs.drop (a.toNat*sz)).take ((b -a).toNat*sz)).length=(b -a).toNat*sz:=by
   rw[h1,lO,gN];omega
  obtain⟨aty,of,atz,os,c7⟩:=aJ.fz _ _ _ cI;by_cases aH:cap=c9
  ·subst aH;obtain⟨rM,Lq,Lr⟩:=MP (oF:=k) (top:=k) ax H lB (by omega) (by omega) rfl;refine⟨.slice (some ⟨a0,off+a.toNat*sz,none⟩) (b -a).toNat c9,H,m,J,hV _ ?_,aJ,h _ (.row cI gV k8 (fun q=>absurd rfl q) mE)⟩;rw[Lq];unfold oJ;simp only[hu,eU,hA,cb,c7,mE rfl,Lr,QD,lK,dZ];rw[aN];rfl
  ·obtain⟨rM,Lq,Lr⟩:=MP (oF:=k) (top:=cap) ax H lB (by omega) (by have:=(iZ aH).1;omega) rfl;have xi:Nat.beq cap c9=false:=by
    cases q:Nat.beq cap c9
    ·rfl
    ·exact absurd (eN q) aH
   by_cases lA:cap=a.toNat
   ·have ug:(b -a).toNat=0:=by have:=(iZ aH).1;omega
    refine⟨.slice (some ⟨a0,off,none⟩) (b -a).toNat (cap -a.toNat),H,m,J,hV _ ?_,aJ,h _ ?_⟩
    ·rw[Lq];unfold oJ;simp only[hu,eU,xi,dZ,Lr,QD];rw[show Nat.beq cap a.toNat=true by rw[lA];exact hA _,cb,aN];rfl
    ·have:(cs.drop (a.toNat*sz)).take ((b -a).toNat*sz)=[]:=by rw[ug];simp
     rw[this,ug,lA,tb];exact .kp _ _ _ (by decide)
   ·refine⟨.slice (some ⟨a0,off+a.toNat*sz,none⟩) (b -a).toNat (cap -a.toNat),H,m,J,hV _ ?_,aJ,h _ (.row cI gV k8 (fun _=>⟨by have:=(iZ aH).1;omega,by have:=(iZ aH).2;omega⟩) (fun q=>?_))⟩
    ·rw[Lq];unfold oJ;simp only[hu,eU,xi,dZ,Lr,QD];have:Nat.beq cap a.toNat=false:=by
      cases q:Nat.beq cap a.toNat
      ·rfl
      ·exact absurd (eN q) lA
     rw[this,dZ,aN];rfl
    ·have:=(iZ aH).2;omega
theorem ZN{t:TypeId}{x:Operand}{cm ao:Option Operand}{s:List UInt8}{a b:Int}(ar:o.op=.slice t x cm ao none)(U:b7 l x=some (.string ⟨⟨s⟩⟩))(aD:sJ K.P t=true)(j9:AD l 0 cm=some a)(lB:AD l s.length ao=some b)(bD:0<=a)(aa:a<=b)(ae:b<=s.length):cV K B o n ds l m J (.string ⟨⟨(s.drop a.toNat).take (b.toNat -a.toNat)⟩⟩):=by
 intro call aR S H ax aJ;unfold sJ at aD;split at aD
 ·rename_i hu;have aw:fI K.P S.T H o=some (.val (.string ⟨⟨(s.drop a.toNat).take (b.toNat -a.toNat)⟩⟩) H):=by
   have hex:∀ol rM,(cm.map (pG S.T H)=ol)->(ao.map (pG S.T H)=rM)->(ol=none/\a=0\/∃k,ol=some (.int k a))->(rM=none/\b=s.length\/∃k,rM=some (.int k b))->eP K.P (execOp (pG S.T H) o)=some (.value (.string ⟨⟨(s.drop a.toNat).take (b.toNat -a.toNat)⟩⟩)):=by
    intro ol rM aN bn bd a6;unfold execOp;simp only[ar];rw[jy ax H U,aN,bn];rw[dL (a:=.string ⟨⟨(s.drop a.toNat).take (b.toNat -a.toNat)⟩⟩)]
    ·rfl
    show eP K.P (Instr.sliceAt t (.string ⟨⟨s⟩⟩) ol rM none)=_;unfold Instr.sliceAt;rw[dL (w6 hu)];show eP K.P (Instr.slice t (.string ⟨⟨s⟩⟩) ol rM none)=_;unfold Instr.slice;rw[dL (w6 hu)];have au:eP K.P (Instr.sliceBounds false (⟨⟨s⟩⟩:ByteArray).size (⟨⟨s⟩⟩:ByteArray).size ol rM none)=some (a.toNat,b.toNat,s.length):=by
     unfold Instr.sliceBounds;have es:(⟨⟨s⟩⟩:ByteArray).size=s.length:=rfl;rw[es];have jn:∀(k:IntKind) (i:Int) (y:Nat) (TF:BoundsCode),0<=i->i<=y->eP K.P (Instr.sliceBound (.int k i) y TF)=some i.toNat:=fun k i y TF i0 i1=>by
      unfold Instr.sliceBound;show eP K.P (if 0<=i/\i<=y then pure i.toNat else _)=_;rw[aE ⟨i0,i1⟩];rfl
     rcases a6 with⟨rfl,rfl⟩|⟨bC,rfl⟩
     ·rcases bd with⟨rfl,rfl⟩|⟨bp,rfl⟩
      ·rfl
      ·show eP K.P (do let l <-Instr.sliceBound (.int bp a) s.length .sliceB;pure (l,s.length,s.length))=_;rw[dL (jn _ _ _ _ bD aa)];rfl
     ·rcases bd with⟨rfl,rfl⟩|⟨bp,rfl⟩
      ·show eP K.P (do let h <-Instr.sliceBound (.int bC b) s.length .sliceAlen;pure (0,h,s.length))=_;rw[dL (jn _ _ _ _ (by omega) ae)];rfl
      ·show eP K.P (do let h <-Instr.sliceBound (.int bC b) s.length .sliceAlen;let l <-Instr.sliceBound (.int bp a) h .sliceB;pure (l,h,s.length))=_;rw[dL (jn _ _ _ _ (by omega) ae),dL (jn _ _ _ _ bD (by omega))];rfl
    show eP K.P (do let(l,h,_) <-Instr.sliceBounds false (⟨⟨s⟩⟩:ByteArray).size (⟨⟨s⟩⟩:ByteArray).size ol rM none;pure (Value.string ((⟨⟨s⟩⟩:ByteArray).extract l h)))=_;rw[dL au];show some (Value.string ((⟨⟨s⟩⟩:ByteArray).extract a.toNat b.toNat))=_;have:=ByteArray.extract_mk s a.toNat b.toNat;rw[show(⟨⟨s⟩⟩:ByteArray)=ByteArray.mk s.toArray from rfl,this]
   unfold fI;rw[ar];rcases AE ax H j9 with⟨rfl,rfl,bd⟩|⟨bp,jH,rfl,Eh,bd⟩
   ·rcases AE ax H lB with⟨rfl,rfl,a6⟩|⟨bC,jV,rfl,sI,a6⟩
    ·have:ez S.T H (Op.slice t x none none none).operands.toList=some [.string ⟨⟨s⟩⟩]:=by
      show ez S.T H [x]=_;simp only[ez];rw[du ax H U]
     rw[this];simp only[r1,Fs,wh,show plain (.string ⟨⟨s⟩⟩)=true from rfl,cb];rw[hex none none rfl rfl (.inl ⟨rfl,rfl⟩) (.inl ⟨rfl,rfl⟩)];rfl
    ·have:ez S.T H (Op.slice t x none (some jV) none).operands.toList=some [.string ⟨⟨s⟩⟩,.int bC b]:=by
      show ez S.T H [x,jV]=_;simp only[ez];rw[du ax H U,du ax H sI]
     rw[this];simp only[r1,Fs,wh,show plain (.string ⟨⟨s⟩⟩)=true from rfl,show plain (.int bC b)=true from rfl,cb];rw[hex none (some (.int bC b)) rfl (by simp[jy ax H sI]) (.inl ⟨rfl,rfl⟩) (.inr ⟨bC,rfl⟩)];rfl
   ·rcases AE ax H lB with⟨rfl,rfl,a6⟩|⟨bC,jV,rfl,sI,a6⟩
    ·have:ez S.T H (Op.slice t x (some jH) none none).operands.toList=some [.string ⟨⟨s⟩⟩,.int bp a]:=by
      show ez S.T H [x,jH]=_;simp only[ez];rw[du ax H U,du ax H Eh]
     rw[this];simp only[r1,Fs,wh,show plain (.string ⟨⟨s⟩⟩)=true from rfl,show plain (.int bp a)=true from rfl,cb];rw[hex (some (.int bp a)) none (by simp[jy ax H Eh]) rfl (.inr ⟨bp,rfl⟩) (.inl ⟨rfl,rfl⟩)];rfl
    ·have:ez S.T H (Op.slice t x (some jH) (some jV) none).operands.toList=some [.string ⟨⟨s⟩⟩,.int bp a,.int bC b]:=by
      show ez S.T H [x,jH,jV]=_;simp only[ez];rw[du ax H U,du ax H Eh,du ax H sI]
     rw[this];simp only[r1,Fs,wh,show plain (.string ⟨⟨s⟩⟩)=true from rfl,show plain (.int bp a)=true from rfl,show plain (.int bC b)=true from rfl,cb];rw[hex (some (.int bp a)) (some (.int bC b)) (by simp[jy ax H Eh]) (by simp[jy ax H sI]) (.inr ⟨bp,rfl⟩) (.inr ⟨bC,rfl⟩)];rfl
  unfold cO fq;simp only[ar];show qA K.P _ t (bk S.T H x) (jD S.T H cm) (jD S.T H ao)=_;rw[du ax H U];have fy:∀ol rM,oJ K.P H t (.string ⟨⟨s⟩⟩) ol rM=none:=fun ol rM=>by
   unfold oJ;simp only[hu]
  rcases AE ax H j9 with⟨_,_,bd⟩|⟨_,_,_,_,bd⟩<;>rcases AE ax H lB with⟨_,_,a6⟩|⟨_,_,_,_,a6⟩<;>rw[bd,a6]<;>unfold qA<;>simp only[fy]<;>exact aw
 ·cases aD
end
open Classical
section
variable {K:eL}{B:ea}{o:Oper}{n:Nat}{ds:e7}{l:List (Nat×Value)}{m m':aO}{J:aI}{eR:cn->aO->aI->Prop}{d:Nat}{c0:Exit->cn->aO->aI->Prop}
end
end
end Go.Opn
