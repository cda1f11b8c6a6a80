/- A part of the proof of SampleParts. -/
import Derived.Test.YtdbhjgpppmkagaaGreatCav
import Derived.ChangeArms
import Derived.DataReads
import Derived.Carry
set_option linter.unusedVariables false
set_option linter.unusedSimpArgs false
namespace Go.Opn
noncomputable section
open Go.Cre Go.RowKit
structure yo (H H':ao):Prop where
 wf:iJ H'
 bq:H'.bq=H.bq
 af:H.af<=H'.af
 cd:H.cd<=H'.cd
 e7:∀a,a<H.af->H'.mem.get a=H.mem.get a
 lY:∀f,f<H.cd->H'.br.get f=H.br.get f
theorem yo.inv{g0:Nat}{H H':ao}{J:aA}(h:Inv g0 (iO [] H J) J [] H)(ar:yo H H'):Inv g0 (iO [] H J) J [] H':=
 ⟨ar.wf,ar.bq.trans h.bq,ar.af,ar.cd,fun a aW _=>ar.e7 a aW,fun f aw=>ar.lY f (dO.RN aw),fun a c e aU=>by
  obtain⟨o,f,z,s,q⟩:=h.fj a c e aU;exact⟨o,f,z,s,(ar.e7 a (h.wf.lt q)).trans q⟩,h.le,(fun a x aZ aR=>by have aZ:J a=none:=aZ;rw[aZ] at aR;cases aR),(fun a b ai=>by cases ai),(fun a b ai=>by cases ai),.nil⟩
theorem yo.of{g0:Nat}{H H':ao}{J:aA}(h:Inv g0 (iO [] H J) J [] H)(aH:Inv g0 (iO [] H J) J [] H'):yo H H':=
 ⟨aH.wf,aH.bq.trans h.bq.symm,aH.af,aH.cd,fun a aW=>aH.e7 a aW (fun q=>by cases q),fun f aw=>aH.lY f (fun q=>by
  rcases q with q|⟨_,_,_,_,_,_,_,_,q⟩
  ·exact absurd aw (Nat.not_lt.2 q)
  ·cases q)⟩
open Classical in
def Dv (K:eN)(f:FuncId)(bJ:List Value)(v:Value)(H:ao):ao:=if h:∃H',o0 K.Q f bJ H (.returned v) H'/\yo H H' then Classical.choose h else H
abbrev qN:=List (FuncId×List Value×Value)
def FU:qN->FuncId->Option (List Value×Value)
 |[],_=>none
 |(g,bJ,v)::R,f=>bif Nat.beq f g then some (bJ,v) else FU R f
open Classical in
def uu (K:eN)(R:qN):eS:=fun f args H=>match FU R f with
 |some (bJ,v)=>if args=bJ then some (.returned v,Dv K f args v H) else none
 |none=>none
def eb(K:eN)(B:dO)(R:qN)(ops:List Oper)(a8:List iW)(E:b9)(m:aI)(J:aA)(bD:b9->aI->aA->Prop):Prop:=
 ∀S H,Sat E S->Inv K.g0 B J m H->∃aO H' E' m' ag,eH K.P (j' K.Q (uu K R)) (hj K.Q jz (uu K R)).aL ops a8 S H=some (.ok aO H')/\Sat E' aO/\Inv K.g0 B ag m' H'/\bD E' m' ag
section
variable {K:eN}{B:dO}{R:qN}{ops:List Oper}{a8:List iW}{E:b9}{m m':aI}{J:aA}{o:Oper}{bD:b9->aI->aA->Prop}{cx:Exit->b9->aI->aA->Prop}
variable {n:Nat}{ds:eQ}{l:List (Nat×Value)}{d i g:Nat}{want b:Bool}
theorem ae.yP(R:qN){id:Nat}{a:Array Oper}(ay:ID a.toList=none)(g':DI a.toList=true)(au:Jb a.toList=a8)(h:eb K B R a.toList a8 E m J fun E m J=>cx .normal E m J):ae K B (.region id a true) E m J cx:=by
 intro S H aC aE;obtain⟨aO,H',E',m',ag,aa,ab,aK,bh⟩:=h S H aC aE;refine⟨.normal,aO,H',E',m',ag,dM.vX K.dC.qm jz (uu K R) ?_,ab,aK,bh⟩;show sV (w4 K.P (hj K.Q jz (uu K R)).call (hj K.Q jz (uu K R)).aL a.toList S H)=_;rw[JV];unfold w4;rw[ay];show sV (yU K.P (j' K.Q (uu K R)) (hj K.Q jz (uu K R)).aL a.toList S H)=_;unfold yU;rw[g',cc,au,aa];rfl
theorem eb.nil(h:bD E m J):eb K B R ops [] E m J bD:=fun S H aC aE=>⟨S,H,E,m,J,rfl,aC,aE,h⟩
theorem eb.split(ai:look l d=some (.bool b))(aa:b=true->eb K B R ops a8 ⟨n,ds,(d,.bool true)::l⟩ m J bD)(bt:b=false->eb K B R ops a8 ⟨n,ds,(d,.bool false)::l⟩ m J bD):eb K B R ops a8 ⟨n,ds,l⟩ m J bD:=by
 intro S H aC aE;have key:∀c:Bool,b=c->Sat ⟨n,ds,(d,.bool c)::l⟩ S:=fun c e=>by
  subst e;refine⟨aC.n,aC.ds,aC.b0,aC.b8,aC.cB,aC.has,fun t v q=>?_⟩;have aR:(bif Nat.beq t d then some (Value.bool b) else look l t)=some v:=q;cases cn:Nat.beq t d with
  |true=>rw[cn,cc] at aR;obtain rfl:=eK cn;rw[<-aR];exact aC.get _ _ ai
  |false=>rw[cn,dN] at aR;exact aC.get t v aR
 cases b with
 |true=>exact aa rfl S H (key true rfl) aE
 |false=>exact bt rfl S H (key false rfl) aE
theorem eb.WU{v:Value}(ak:nth ops i=some o)(dF:∀S,Sat ⟨n,ds,l⟩ S->fW ops S.T o=some true)(aS:o.dst=some d)(aM:Nat.blt d n=true)(ap:c1 K B o n ds l m J v)(h:eb K B R ops a8 ⟨n,ds,(d,v)::l⟩ m J bD):eb K B R ops (.val i::a8) ⟨n,ds,l⟩ m J bD:=by
 intro S H aC aE;obtain⟨ba,s1,s2⟩:=aC.put (dst:=some d) aM v;obtain⟨aO,H',E',m',ag,aa,ab,aK,bh⟩:=h ba H s2 aE;refine⟨aO,H',E',m',ag,?_,ab,aK,bh⟩;show kW ops i (pG K.P _ _ ops S H (eH K.P _ _ ops a8))=_;unfold kW;rw[ak];show pG K.P _ _ ops S H (eH K.P _ _ ops a8) o=_;unfold pG;rw[dF S aC];show F6 S H o.dst (eH K.P _ _ ops a8) (cY K.P _ _ S H o)=_;rw[ap _ _ S H aC aE,aS];show(bif Nat.beq H.af H.af then qz (eH K.P _ _ ops a8) H (S.put (some d) v) else none)=_;rw[hX,cc,s1];exact aa
theorem eb.akx(ak:nth ops i=some o)(dF:∀S,Sat ⟨n,ds,l⟩ S->fW ops S.T o=some false)(aS:o.dst=some d)(aM:Nat.blt d n=true)(h:eb K B R ops a8 ⟨n,ds,(d,undef)::l⟩ m J bD):eb K B R ops (.val i::a8) ⟨n,ds,l⟩ m J bD:=by
 intro S H aC aE;obtain⟨ba,s1,s2⟩:=aC.put (dst:=some d) aM undef;obtain⟨aO,H',E',m',ag,aa,ab,aK,bh⟩:=h ba H s2 aE;refine⟨aO,H',E',m',ag,?_,ab,aK,bh⟩;show kW ops i (pG K.P _ _ ops S H (eH K.P _ _ ops a8))=_;unfold kW;rw[ak];show pG K.P _ _ ops S H (eH K.P _ _ ops a8) o=_;unfold pG;rw[dF S aC];show qz (eH K.P _ _ ops a8) H (S.put o.dst undef)=_;rw[aS,s1];exact aa
theorem abC(ar:o.guard=none):∀S,Sat ⟨n,ds,l⟩ S->fW ops S.T o=some true:=fun S aC=>by unfold fW;rw[ar]
theorem Lp(ar:lz ops o=some (g,want))(ai:look l g=some (.bool b))(hw:(b==want)=true):∀S,Sat ⟨n,ds,l⟩ S->fW ops S.T o=some true:=fun S aC=>by rw[Hv ar (aC.get g _ ai),hw]
theorem Lo(ar:lz ops o=some (g,want))(ai:look l g=some (.bool b))(hw:(b==want)=false):∀S,Sat ⟨n,ds,l⟩ S->fW ops S.T o=some false:=fun S aC=>by rw[Hv ar (aC.get g _ ai),hw]
theorem abD(ar:lz ops o=some (g,want))(ai:look l g=some undef):∀S,Sat ⟨n,ds,l⟩ S->fW ops S.T o=some false:=fun S aC=>Sa ar (aC.get g _ ai)
theorem eb.val{v:Value}(ak:nth ops i=some o)(ar:o.guard=none)(aS:o.dst=some d)(aM:Nat.blt d n=true)(ap:c1 K B o n ds l m J v)(h:eb K B R ops a8 ⟨n,ds,(d,v)::l⟩ m J bD):eb K B R ops (.val i::a8) ⟨n,ds,l⟩ m J bD:=eb.WU ak (abC ar) aS aM ap h
theorem eb.Cw{v:Value}(ak:nth ops i=some o)(ar:lz ops o=some (g,want))(ai:look l g=some (.bool b))(hw:(b==want)=true)(aS:o.dst=some d)(aM:Nat.blt d n=true)(ap:c1 K B o n ds l m J v)(h:eb K B R ops a8 ⟨n,ds,(d,v)::l⟩ m J bD):eb K B R ops (.val i::a8) ⟨n,ds,l⟩ m J bD:=eb.WU ak (Lp ar ai hw) aS aM ap h
theorem eb.JG(ak:nth ops i=some o)(ar:lz ops o=some (g,want))(ai:look l g=some (.bool b))(hw:(b==want)=false)(aS:o.dst=some d)(aM:Nat.blt d n=true)(h:eb K B R ops a8 ⟨n,ds,(d,undef)::l⟩ m J bD):eb K B R ops (.val i::a8) ⟨n,ds,l⟩ m J bD:=eb.akx ak (Lo ar ai hw) aS aM h
theorem eb.Ze(ak:nth ops i=some o)(dF:∀S,Sat ⟨n,ds,l⟩ S->fW ops S.T o=some false)(aS:o.dst=some d)(aM:Nat.blt d n=true)(h:eb K B R ops a8 ⟨n,ds,(d,undef)::l⟩ m J bD):eb K B R ops (.cv i::a8) ⟨n,ds,l⟩ m J bD:=by
 intro S H aC aE;obtain⟨ba,s1,s2⟩:=aC.put (dst:=some d) aM undef;obtain⟨aO,H',E',m',ag,aa,ab,aK,bh⟩:=h ba H s2 aE;refine⟨aO,H',E',m',ag,?_,ab,aK,bh⟩;show kW ops i (fun o=>ls (eH K.P _ _ ops a8) (one K.P _ _ ops S H o))=_;unfold kW;rw[ak];show ls (eH K.P _ _ ops a8) (one K.P _ _ ops S H o)=_;unfold one;rw[dF S aC];show ls (eH K.P _ _ ops a8) (n8 H (S.put o.dst undef))=_;rw[aS,s1];exact aa
theorem eb.Zc(ak:nth ops i=some o)(ar:lz ops o=some (g,want))(ai:look l g=some (.bool b))(hw:(b==want)=false)(aS:o.dst=some d)(aM:Nat.blt d n=true)(h:eb K B R ops a8 ⟨n,ds,(d,undef)::l⟩ m J bD):eb K B R ops (.cv i::a8) ⟨n,ds,l⟩ m J bD:=eb.Ze ak (Lo ar ai hw) aS aM h
theorem kH.of{v u:Value}(ak:nth ops i=some o)(dF:∀S,Sat ⟨n,ds,l⟩ S->fW ops S.T o=some true)(aS:o.dst=some d)(ap:c1 K B o n ds l m J v)(hu:look l d=some u)(he:hA 8 v u=true):kH K B ops n ds l m J i:=by
 intro call aL S H aC aE;unfold u2;rw[ak];show G6 K.P call aL ops S H o (fW ops S.T o)=true;rw[dF S aC];show G7 H.af S.T o.dst (cY K.P call aL S H o)=true;rw[ap _ _ S H aC aE,aS];show(Nat.beq H.af H.af&&(match S.T.get d with|some u=>hA 8 v u|none=>false))=true
 rw[hX,aC.get d u hu];simpa using he
theorem kH.Cw{v u:Value}(ak:nth ops i=some o)(ar:lz ops o=some (g,want))(ai:look l g=some (.bool b))(hw:(b==want)=true)(aS:o.dst=some d)(ap:c1 K B o n ds l m J v)(hu:look l d=some u)(he:hA 8 v u=true):kH K B ops n ds l m J i:=kH.of ak (Lp ar ai hw) aS ap hu he
theorem kH.no(ak:nth ops i=some o)(dF:∀S,Sat ⟨n,ds,l⟩ S->fW ops S.T o=some false):kH K B ops n ds l m J i:=by
 intro call aL S H aC aE;unfold u2;rw[ak];show G6 K.P call aL ops S H o (fW ops S.T o)=true;rw[dF S aC];rfl
theorem akf{op:BinOp}{t eV:TypeId}{x y:Operand}{a c:Bool}{v:Value}(an:o.op=.binOp op t x y eV)(I:bW l x=some (.bool a))(ah:bW l y=some (.bool c))(dU:op=.eql/\v=.bool (decide (a=c))\/op=.neq/\v=.bool (decide (¬a=c)))(aN:K.P.underlying t=some .bool):c1 K B o n ds l m J v:=by
 intro call aL S H aC aE;unfold cY fU;simp only[an];show nr K.P _ op t (a6 S.T H x) (a6 S.T H y)=_;rw[ey aC H I,ey aC H ah];show orElse (gH K.P S.T H o) _=_;have zj:fI K.P (Op.equal t (.bool a) (.bool c))=some (decide (a=c)):=by
  show fI K.P (Op.equalIn (9999+1) t (.bool a) (.bool c))=_;unfold Op.equalIn;rw[eC (AY aN)];show some (a==c)=_;cases a<;>cases c<;>rfl
 have:gH K.P S.T H o=some (.val v H):=by
  rcases dU with⟨rfl,rfl⟩|⟨rfl,rfl⟩
  ·refine uq aC (by rw[an];rfl) I ah rfl rfl ?_ rfl;unfold execOp;simp only[an];rw[lx aC H I,lx aC H ah];have ai:binOp .eql t (.bool a) (.bool c)=(do pure (.bool (<-Op.equal t (.bool a) (.bool c)))):=by simp[binOp]
   have ar:fI K.P (eqGuard .eql t x y (.bool a) (.bool c))=some ():=rfl;rw[eC (a:=.bool (decide (a=c)))]
   ·rfl
   rw[eC ar,ai,eC zj];rfl
  ·refine uq aC (by rw[an];rfl) I ah rfl rfl ?_ rfl;unfold execOp;simp only[an];rw[lx aC H I,lx aC H ah];have ai:binOp .neq t (.bool a) (.bool c)=(do pure (.bool (!(<-Op.equal t (.bool a) (.bool c))))):=by simp[binOp]
   have ar:fI K.P (eqGuard .neq t x y (.bool a) (.bool c))=some ():=rfl;rw[eC (a:=.bool (decide (¬a=c)))]
   ·rfl
   rw[eC ar,ai,eC zj];show some (Value.bool (!decide (a=c)))=_;rw[show(!decide (a=c))=decide (¬a=c) by simp]
 rw[this];rfl
theorem WW(b:Bool)(n:Nat):hA (n+1) (.bool b) (.bool b)=true:=by cases b<;>rfl
theorem WZ(s:ByteArray)(n:Nat):hA (n+1) (.string s) (.string s)=true:=by
 show decide (s.data.toList=s.data.toList)=true;simp
theorem ew.get{GV:Option Addr}{mZ gV:Nat}{N:List Int}(h:ew J (.slice GV mZ gV) N):mZ=N.length/\(GV=none->N=[])/\(0<N.length->∃a off cells e,GV=some ⟨a,off,none⟩/\J a=some (cells,e)/\∀(i:Int),0<=i->i<N.length->∃x,N[i.toNat]?=some x/\nth cells (off+i.toNat*1)=some (.int .i64 x)):=by
 obtain⟨b,c,aa,ab,aK⟩:=h.inv;injection aa with bh ff gz
 subst bh;subst ff;subst gz;exact⟨rfl,ab,aK⟩
end
section
variable {K:eN}{B:dO}{ops:List Oper}{a8:List iW}{E:b9}{m m':aI}{J:aA}{o:Oper}{bD:b9->aI->aA->Prop}{cx:Exit->b9->aI->aA->Prop}
variable {n:Nat}{ds:eQ}{l:List (Nat×Value)}{d i:Nat}
end
section
variable {K:eN}{B:dO}{ops:List Oper}{a8:List iW}{F:List (FuncId×List Value)}{m m':aI}{J:aA}{o:Oper}{bD:b9->aI->aA->Prop}
variable {n:Nat}{ds:eQ}{l:List (Nat×Value)}{d i:Nat}
theorem ag7{S:aQ}(aC:Sat ⟨n,ds,l⟩ S):∀{xs:List (Nat×Operand)} {vs:List (Nat×Value)},sb l xs=some vs->rI S.T xs=some vs:=by
 intro xs;induction xs with
 |nil=>intro vs h;exact h
 |cons x r aG=>
  obtain⟨i,x⟩:=x;intro vs h;simp only[sb] at h;simp only[rI];cases I:bW l x with
  |none=>rw[I] at h;cases h
  |some v=>
   rw[I] at h;simp only at h;rw[I0 aC I];simp only;cases ax:sb l r with
   |none=>rw[ax] at h;cases h
   |some ws=>rw[ax] at h;simp only at h;rw[aG ax];exact h
theorem a3.buildSlice{t e:TypeId}{k aj:Nat}{gd cells:List Value}{dx:Array (Nat×Operand)}{vs:List (Nat×Value)}(ak:nth ops i=some o)(ar:o.guard=none)(an:o.op=.buildSlice t k dx)(aS:o.dst=some d)(aM:Nat.blt d n=true)(au:sb l dx.toList=some vs)(aN:kn K.P t=some (e,aj,gd))(aH:(Nat.ble k 100000&&Nat.ble (k*aj) 100000)=true)(aw:mQ (fun i=>some (i*aj,aj)) (gp gd k) vs=some cells)(aa:cells.all eT=true)
 (h:∀a,a3 K B ops a8 F ⟨n,ds,(d,.slice (some ⟨a,0,none⟩) k k)::l⟩ ((a,.row cells e)::m) J bD):a3 K B ops (.f' i::a8) F ⟨n,ds,l⟩ m J bD:=by
 obtain⟨hu,eI,hZ,z,h1,bC,bE,rfl,bS,cJ,gy⟩:=ux aN;refine a3.f' (b:=.row cells e false 0 0 false) (p:=.row cells e) (ef:=.z6 k k) ak ar aS aM (fun S aC=>?_) (fun H a q=>q) (fun c e r z q=>by cases q) h;rw[an];simp only[mg];rw[ag7 aC au];simp only[Da,hu,eI,bC];rw[aH,gy,show Nat.beq z.cells.toList.length aj=true by rw[bS];exact hX _];simp only[wm,cc,aw,aa]
theorem Acc.form{e:TypeId}{aj k:Nat}{v:Value}{cells:List Value}{aY:aI}(h:Acc e aj v k cells aY):∃b c,v=.slice b k c:=by
 cases h with
 |nil=>exact⟨_,_,rfl⟩
 |lu a=>exact⟨_,_,rfl⟩
 |opn h=>exact⟨_,_,rfl⟩
 |cap=>exact⟨_,_,rfl⟩
end
open Classical
def rowOf (w:World)(g:Nat):Option (List Value×TypeId):=match w.heap[g]? with
 |some (.cells c e _)=>some (c.toList,e)
 |_=>none
theorem VI{w:World}{g:Nat}{cs:List Value}{e:TypeId}(h:rowOf w g=some (cs,e)):∃c f,w.heap[g]?=some (.cells c e f)/\c.toList=cs:=by
 unfold rowOf at h;split at h
 ·rename_i c bn f av;injection h with h;injection h with aa ab
  subst aa;subst ab;exact⟨c,f,av,rfl⟩
 ·cases h
theorem VJ{w:World}{g:Nat}{c:Array Value}{e:TypeId}{f:Nat×Nat}(h:w.heap[g]?=some (.cells c e f)):rowOf w g=some (c.toList,e):=by
 unfold rowOf;rw[h]
def qn (P:Program)(w:World):bH:=fun g=>match rowOf w g with
 |some (cs,e)=>some ⟨g,cs.length,P.cellsOf e⟩
 |none=>none
theorem Fp{P:Program}{w:World}{g:Nat}{L:Cre.Loc}(h:qn P w g=some L):∃cs e,rowOf w g=some (cs,e)/\L=⟨g,cs.length,P.cellsOf e⟩:=by
 unfold qn at h;cases ax:rowOf w g with
 |none=>rw[ax] at h;cases h
 |some x=>obtain⟨cs,e⟩:=x;rw[ax] at h;injection h with h;exact⟨cs,e,rfl,h.symm⟩
theorem Uz{P:Program}{w:World}{g:Nat}(h:(rowOf w g).isSome):∃L,qn P w g=some L/\L.r=g:=by
 obtain⟨⟨cs,e⟩,I⟩:=Option.isSome_iff_exists.1 h;unfold qn;rw[I];exact⟨_,rfl,rfl⟩
theorem Qd{μ:bH}:∀(n:Nat) (v:Value),SizeOf.sizeOf v<=n->∃hr,bj μ hr v:=by
 intro n;induction n with
 |zero=>intro v h;cases v<;>simp at h
 |succ n aG=>
  intro v h;have arr:∀cs:Array Value,SizeOf.sizeOf cs<=n->∃bJ:Array Value,bJ.size=cs.size/\∀(i:Nat) v v',bJ[i]?=some v->cs[i]?=some v'->bj μ v v':=fun cs al=>by
   have key:∀i:Fin cs.size,∃hr,bj μ hr cs[i]:=fun i=>aG _ (by have:=Array.sizeOf_getElem cs i.1 i.2;have e:cs[i]=cs[i.1]:=rfl;rw[e];omega);refine⟨Array.ofFn fun i=>Classical.choose (key i),by simp,fun i v v' aa ab=>?_⟩;rw[Array.getElem?_ofFn] at aa;split at aa
   ·rename_i ak;injection aa with aa;subst aa
    rw[Aj ak] at ab;injection ab with ab;subst ab
    exact Pu (key ⟨i,ak⟩)
   ·cases aa
  by_cases an:eT v=true
  ·exact⟨_,.wk v an⟩
  ·cases v with
   |agg cs=>
    obtain⟨bJ,aa,ab⟩:=arr cs (by simp at h;omega);exact⟨_,.agg bJ cs aa ab⟩
   |tuple cs=>
    obtain⟨bJ,aa,ab⟩:=arr cs (by simp at h;omega);exact⟨_,.tuple bJ cs aa ab⟩
   |_=>exact absurd rfl an
def mK (P:Program)(w:World)(v:Value):Value:=match v with
 |.pointer (some ⟨r,off,none⟩)=>if(rowOf w r).isSome then v else .chan none
 |.slice (some a) len cap=>if a.spot=none/\(rowOf w a.block).isSome/\cap<cR then v else if len=0/\cap=0 then .slice (some ⟨0,0,some 0⟩) 0 0 else .chan none
 |v=>if isAtom v=true then v else Classical.choose (Qd (μ:=qn P w) (SizeOf.sizeOf v) v (dH _))
theorem Kk{P:Program}{w:World}{v:Value}(h:isAtom v=true):mK P w v=v:=by
 unfold mK;split
 ·simp[isAtom] at h
 ·simp[isAtom] at h
 ·rw[aF h]
theorem yv{P:Program}{w:World}(v:Value):bj (qn P w) (mK P w v) v:=by
 unfold mK;split
 ·rename_i r off;split
  ·rename_i q;obtain⟨L,aa,ab⟩:=Uz (P:=P) q;have:=bj.ptr r off L aa;rwa [ab] at this
  ·exact .wk _ rfl
 ·rename_i a len cap;split
  ·rename_i q;obtain⟨r,off,sp⟩:=a;obtain⟨mw,aZ,aR⟩:=q;have mw:sp=none:=mw;subst mw;obtain⟨L,aa,ab⟩:=Uz (P:=P) aZ;have ab:L.r=r:=ab;have:=bj.m5 r off len cap L aa aR;rwa [ab] at this
  ·split
   ·rename_i q;obtain⟨rfl,rfl⟩:=q;exact .wc a
   ·exact .wk _ rfl
 ·split
  ·exact .atom _ (by assumption)
  ·exact Pu (Qd (μ:=qn P w) (SizeOf.sizeOf v) v (dH _))
def uw (P:Program)(w:World)(g:Nat):Option (List Value×TypeId):=match rowOf w g with
 |some (cs,e)=>some (cs.map (mK P w),e)
 |none=>none
theorem VG{P:Program}{w:World}{g:Nat}{cs:List Value}{e:TypeId}(h:uw P w g=some (cs,e)):∃c,rowOf w g=some (c,e)/\cs=c.map (mK P w):=by
 unfold uw at h;split at h
 ·rename_i c bn q;injection h with h;injection h with aa ab
  subst aa;subst ab;exact⟨c,q,rfl⟩
 ·cases h
theorem Og{P:Program}{w:World}{g:Nat}{cs:List Value}{e:TypeId}(h:rowOf w g=some (cs,e)):uw P w g=some (cs.map (mK P w),e):=by
 unfold uw;rw[h]
def AF (P:Program)(w:World)(g:Nat):fa:=match uw P w g with
 |some (cs,e)=>.row cs e false 0 cs.length true
 |none=>.dead
def zJ (P:Program)(w:World):aX fa:=match wh ((List.range w.heap.size).map (AF P w)) 0 .leaf with|some t=>t|none=>.leaf
theorem IH{P:Program}{w:World}(g:Nat):(zJ P w).get g=if g<w.heap.size then some (AF P w g) else none:=by
 obtain⟨T,dK⟩:=WA ((List.range w.heap.size).map (AF P w)) 0 .leaf (fun k aH=>absurd aH (by omega));unfold zJ;rw[dK];simp only
 rw[OQ dK];simp only[dV,true_and,ig,yr,lN,yt];split
 ·rename_i h;rw[gG,wz h];rfl
 ·rfl
def vD (P:Program)(w:World):ao:=⟨zJ P w,w.heap.size,.leaf,0,w.heap.size⟩
theorem VH{P:Program}{w:World}{g:Nat}{x:List Value×TypeId}(h:uw P w g=some x):g<w.heap.size:=by
 obtain⟨cs,e⟩:=x;obtain⟨c,aa,_⟩:=VG h;obtain⟨b1,f,ab,_⟩:=VI aa;exact(Pp.1 ab).1
theorem Tg{P:Program}{w:World}{g:Nat}{cs:List Value}{e:TypeId}(h:uw P w g=some (cs,e)):(vD P w).mem.get g=some (.row cs e false 0 cs.length true):=by
 show(zJ P w).get g=_;rw[IH,aF (VH h)];unfold AF;rw[h]
theorem Tf{P:Program}{w:World}{g:Nat}{b:fa}(h:(vD P w).mem.get g=some b):g<w.heap.size/\(b=.dead\/∃cs e,uw P w g=some (cs,e)/\b=.row cs e false 0 cs.length true):=by
 have h:(zJ P w).get g=some b:=h;rw[IH] at h;split at h
 ·rename_i ar;refine⟨ar,?_⟩;injection h with h
  unfold AF at h;cases ax:uw P w g with
  |none=>rw[ax] at h;exact .inl h.symm
  |some x=>obtain⟨cs,e⟩:=x;rw[ax] at h;exact .inr ⟨cs,e,rfl,h.symm⟩
 ·cases h
theorem abj(P:Program)(w:World):bR P (fun k=>k<w.heap.size) w (qn P w) (vD P w) w:=by
 have mlt:∀x L,qn P w x=some L->x<w.heap.size:=fun x L I=>by
  obtain⟨cs,e,aa,_⟩:=Fp I;exact VH (Og (P:=P) aa)
 refine⟨Kept.refl _ _,fun _ aH=>aH,?_,?_,mlt,?_,?_,?_,dH _,?_,?_,?_⟩
 ·intro g L q;obtain⟨c,e,ab,rfl⟩:=Fp q;obtain⟨b1,f,aK,rfl⟩:=VI ab;refine⟨_,_,Tg (Og ab),aK,rfl,by simp,rfl,by simp,fun _=>by simp,fun i v v' x y=>?_,⟨fun off an _ _=>by simpa using an,fun q=>by cases q⟩⟩;rw[gG] at x;have jZ:b1.toList[i]?=some v':=by simpa using y
  rw[jZ] at x;injection x with x;subst x
  exact yv v'
 ·intro x y fE gF fp I ah ax;obtain⟨_,_,_,rfl⟩:=Fp I;obtain⟨_,_,_,rfl⟩:=Fp ah;exact absurd ax fp
 ·intro x L I _;obtain⟨_,_,_,rfl⟩:=Fp I;rfl
 ·intro x L I ar _;have:=mlt x L I;have ar:w.heap.size<=x:=ar;omega
 ·intro g c e o f z s _ hm;obtain⟨ar,q⟩:=Tf hm;rcases q with q|⟨cs,bn,aZ,aR⟩
  ·cases q
  ·obtain⟨gV,aa,_⟩:=VG aZ;refine⟨⟨g,gV.length,P.cellsOf bn⟩,?_⟩;unfold qn;rw[aa]
 ·intro x c e f z s hm;obtain⟨_,q⟩:=Tf hm;rcases q with q|⟨_,_,_,q⟩<;>cases q
 ·intro f l x ay;cases ay
 ·intro f l ay;cases ay
def vO (P:Program)(w:World):aA:=uw P w
theorem ae4(P:Program)(w:World):Inv w.heap.size (iO [] (vD P w) (vO P w)) (vO P w) [] (vD P w):=by
 refine⟨⟨fun a aW=>?_,fun a aW=>?_,fun f aw=>absurd aw (Kd _),fun f _=>rfl,dH _⟩,rfl,dH _,dH _,fun _ _ _=>rfl,fun _ _=>rfl,fun a c e h=>?_,aA.le.refl _,fun a x aa ab=>?_,fun a b h=>(by cases h),(fun a b h=>by cases h),List.nodup_nil⟩
 ·refine⟨AF P w a,?_⟩;show(zJ P w).get a=_;rw[IH,aF (show a<w.heap.size from aW)]
 ·show(zJ P w).get a=none;rw[IH,aq (by have aW:w.heap.size<=a:=aW;omega)]
 ·exact⟨_,_,_,_,Tg h⟩
 ·rw[show vO P w a=none from aa] at ab;cases ab
section
variable {K:eN}
theorem ag0{w:World}{f:FuncId}{fn:Func}{c:Code}{args:List Value}{cD:Array Value}{b:Bool}(hO:K.Q.ok (fun k=>k<w.heap.size) w)(ar:K.g0=w.heap.size)(aw:K.P.funcs[f]?=some fn)(ai:fn.body=some c)(ay:bN (qn K.P w) args cD.toList)(fz:Fn K f args [] (vO K.P w) (fun v m J=>v=.bool b)):
 Calls K.P f cD w fun e bb=>e=.returned (.bool b)/\Below w.heap.size w bb:=by
 have aE:Inv K.g0 (iO [] (vD K.P w) (vO K.P w)) (vO K.P w) [] (vD K.P w):=by rw[ar];exact ae4 K.P w
 obtain⟨v,H',ag,m',aa,ab,rfl⟩:=fz (vD K.P w) aE;have al:=aa _ w hO f args (vD K.P w) (.returned (.bool b)) H' (by unfold mL;rw[aF ⟨rfl,rfl,rfl⟩]) (qn K.P w) w cD.toList (abj K.P w) ay;rcases al with⟨v,v',bb,bk,_,q,_⟩|⟨_,q⟩
 ·rw[DK aw ai (K.dC.num f fn aw (by rw[ai];rfl))] at q;cases q
 ·refine Calls.mono q fun bn bb cn=>?_;obtain⟨bk,b4,bX,cg⟩:=cn;cases bn with
  |returned v'=>
   have ap:bj bk (.bool b) v':=cg;rw[ap.Di];exact⟨rfl,b4.below.below⟩
  |panicked c=>exact cg.elim
  |outgrown=>exact cg.elim
theorem Fn.closed{H0:ao}{f:FuncId}{fn:Func}{c:Code}{v:Value}{J:aA}(au:plain v=true)(aw:K.P.funcs[f]?=some fn)(ai:fn.body=some c)(g':∀B w,K.Q.ok B w->Laid K.P w H0/\Gs H0 B)
 (av:∀w,Laid K.P w H0->Calls K.P f #[] w fun e bb=>e=.returned v/\Below w.heap.size w bb):Fn K f [] [] J (fun u m' ag=>u=v/\m'=[]/\ag=J):=by
 intro H aE;refine⟨v,H,J,[],fun B w0 hO=>?_,aE,rfl,rfl,rfl⟩;obtain⟨sx,dF⟩:=g' B w0 hO;intro dj cD H' e Ao he μ w al3 h ay;unfold mL at he;split at he
 ·rename_i q;obtain⟨rfl,rfl,rfl⟩:=q;simp only[b6,da] at he;obtain⟨rfl,rfl⟩:=he;obtain rfl:=ay.kA;refine .inr ⟨DK aw ai (K.dC.num dj fn aw (by rw[ai];rfl)) _ w,?_⟩;refine Calls.mono (av w (sx.e7 dF h.below)) fun bn bb ⟨ph,zh⟩=>?_;subst ph;exact⟨μ,h.grow zh,Step.refl _ _,oO au⟩
 ·cases he
def O6(P:Program)(H0:ao):db P where
 ok B w:=Laid P w H0/\Gs H0 B
 up B w0 hU ib h dF aH:=⟨h.1.e7 h.2 aH,fun g b ar ai=>dF g (h.2 g b ar ai)⟩
end
theorem WY{b:Option Addr}(h:addrEq b b=true)(l c n:Nat):hA (n+1) (.slice b l c) (.slice b l c)=true:=by
 show(addrEq b b&&Nat.beq l l&&Nat.beq c c)=true;rw[hX,hX,h];rfl
theorem aky{n:Nat}:∀{l:List Value},(∀v∈l,hA n v v=true)->hA (n+1) (.agg l.toArray) (.agg l.toArray)=true:=by
 intro l h;show qS (hA n) l l=true;induction l with
 |nil=>rfl
 |cons a l aG=>
  show(hA n a a&&qS (hA n) l l)=true;rw[h a (.head _),aG (fun v ap=>h v (.tail _ ap))];rfl
theorem akB{n:Nat}:∀v∈([]:List Value),hA n v v=true:=fun v ap=>by cases ap
theorem akA{n:Nat}{a:Value}{l:List Value}(h:hA n a a=true)(ay:∀v∈l,hA n v v=true):∀v∈a::l,hA n v v=true:=fun v ap=>by
 rcases ft.1 ap with rfl|q
 ·exact h
 ·exact ay v q
section
variable {K:eN}{B:dO}{o:Oper}{n:Nat}{ds:eQ}{l:List (Nat×Value)}{m m':aI}{J:aA}{eF:b9->aI->aA->Prop}{d:Nat}{cx:Exit->b9->aI->aA->Prop}
theorem ae.gZ{c:Code}{E:b9}(au:m'.Perm m)(h:ae K B c E m' J cx):ae K B c E m J cx:=fun S H aC aE=>h S H aC (aE.perm au.symm)
theorem nb.perm{g0 aj k:Nat}{v:Value}{cs:List Value}(au:m.Perm m')(h:nb g0 B J m aj v k cs):nb g0 B J m' aj v k cs:=fun H aE=>h H (aE.perm au.symm)
theorem Ce{α:Type}{x:α}{aY r:List α}:(x::(aY++r)).Perm (aY++x::r):=List.perm_middle.symm
theorem I6{α:Type}{x y:α}{aY r:List α}:(x::y::(aY++r)).Perm (aY++x::y::r):=(Ce.cons x).trans Ce
theorem I7{α:Type}{x y z:α}{aY r:List α}:(x::y::z::(aY++r)).Perm (aY++x::y::z::r):=(I6.cons x).trans Ce
theorem ahs{α:Type}{x y z u:α}{aY r:List α}:(x::y::z::u::(aY++r)).Perm (aY++x::y::z::u::r):=(I7.cons x).trans Ce
theorem nb.own{g0:Nat}{e:TypeId}{aj k c a:Nat}{cells:List Value}(hm:(a,cI.row cells e)∈m)(ay:cells.length=k*aj):nb g0 B J m aj (.slice (some ⟨a,0,none⟩) k c) k cells:=by
 intro H aE;refine⟨rfl,?_⟩;have g:=(aE.own _ _ hm).1;have g:H.mem.get a=some (.row cells e false 0 0 false):=g;unfold jt;cases k with
 |zero=>
  simp only
  rw[Gy] at ay;rw[wx ay]
 |succ k=>
  simp only[g];rw[vd,m7,x7 (by omega),fZ (by omega)]
theorem qF{c:Call}{t hq e:TypeId}{aj k j:Nat}{gd cells new:List Value}{v x:Value}{aY eA:aI}{eZ:TypeDesc}(an:o.op=.call c)(av:c.callee=.builtin .append)(aS:o.dst=some d)(aM:Nat.blt d n=true)(aW:il l c.args.toList=some [v,x])(nn:c.argTypes.toList=[t,hq])(aN:kn K.P t=some (e,aj,gd))(kg:K.P.underlying hq=some eZ)(tZ:∀i,eZ≠.int i)
 (ap:Acc e aj v k cells aY)(hm:m.Perm (aY++eA))(I:nb K.g0 B J m aj x j new)(df:new.length=j*aj)(dR:new.all eT=true)(ay:k+j<=1000000)
 (h:∀w hy,Acc e aj w (k+j) (cells++new) hy->eF ⟨n,ds,(d,w)::l⟩ (hy++eA) J):iG K B o ⟨n,ds,l⟩ m J eF:=fun S H aC aE=>
 ala an av aS aM aW nn aN kg tZ ap rfl (I.perm hm) df dR ay h S H aC (aE.perm hm)
theorem Acc.l4{c:Code}{e:TypeId}{aj k:Nat}{v:Value}{cells:List Value}{aY eA:aI}{E:b9}(h:Acc e aj v k cells aY)(hm:m.Perm (aY++eA))(aH:∀ag,J.le ag->hl ag e aj v k cells->ae K B c E eA ag cx):ae K B c E m J cx:=
 ae.gZ hm.symm (h.fj rfl aH)
end
section
variable {K:eN}{B:dO}{o:Oper}{n:Nat}{ds:eQ}{l:List (Nat×Value)}{m m':aI}{J:aA}{eF:b9->aI->aA->Prop}{d:Nat}
theorem Acc.jO{e:TypeId}{aj k:Nat}{v:Value}{cells:List Value}{aY:aI}(h:Acc e aj v k cells aY):∃b c,v=.slice b k c/\addrEq b b=true:=by
 cases h with
 |nil=>exact⟨_,_,rfl,rfl⟩
 |lu a=>exact⟨_,_,rfl,by simp[addrEq]⟩
 |opn h=>exact⟨_,_,rfl,by simp[addrEq]⟩
 |cap=>exact⟨_,_,rfl,by simp[addrEq]⟩
end
end
end Go.Opn
namespace Go.Opn
noncomputable section
open Go.Cre Go.RowKit Go.ChangeShapes
theorem Qh{b off i:Nat}{sp:Option Nat}(h:sp=none):(⟨b,off,sp⟩:Addr).add i=⟨b,off+i,none⟩:=by
 subst h;unfold Addr.add;split
 ·rename_i q;subst q;rfl
 ·rfl
theorem KR{W:World}{base k:Nat}{a:Addr}{cs:List Value}(h:W.cells? base a k=some cs)(aH:0<k):∃c e f,W.heap[a.block]?=some (.cells c e f)/\a.spot=none/\cs.length=k/\∀j,j<k->c[a.off+j]?=cs[j]?:=by
 obtain⟨_,ab,aK⟩:=World.cells?_some h;obtain⟨b,off,sp⟩:=a;have bt:=aK 0 aH;have k8:∃v,cs[0]?=some v:=⟨cs[0]'(by omega),du _⟩;obtain⟨hr,ua⟩:=k8;have kP:(⟨b,off,sp⟩:Addr).add 0=⟨b,off,sp⟩:=rfl;rw[kP,ua] at bt;unfold World.cell? at bt;cases ez:W.heap[b]? with
 |none=>rw[show(⟨b,off,sp⟩:Addr).block=b from rfl,ez] at bt;cases bt
 |some o=>
  rw[show(⟨b,off,sp⟩:Addr).block=b from rfl,ez] at bt;cases o with
  |cells c e f=>
   simp only at bt;cases sp with
   |some s=>simp at bt
   |none=>
    refine⟨c,e,f,by first|rfl|exact ez,rfl,ab,fun j aU=>?_⟩;have:=aK j aU;rw[Qh rfl] at this;unfold World.cell? at this;rw[show(⟨b,off+j,none⟩:Addr).block=b from rfl,ez] at this;simpa using this
  |_=>cases bt
section
variable {H:Type}{enc:TypeId×Value->H}{P:Program}{W:World}{pZ:Nat}{t e:TypeId}{cs:List Value}{x:DataW H×List MemPlace}
abbrev Cv(enc:TypeId×Value->H)(P:Program)(W:World):=DataW.trod enc P W 0 (fun _=>true) true
theorem Wc{aj:Nat}(aN:P.underlying t=some (.slice e))(eI:P.cellsOf e=aj)(bt:0<aj)(h:Cv enc P W pZ t cs=some x):
 ∃(b:Option Addr) (n c:Nat) (rows:List Value) (el:List (List Value)) (ds:List (DataW H×List MemPlace)) (m:Nat),cs.map (mK P W)=[.slice b n c]/\cs.length=1/\(∀bn,hl (vO P W) bn aj (.slice b n c) n (rows.map (mK P W)))/\el.length=n/\ds.length=n/\
  (∀i cK,el[i]?=some cK->cK.length=aj/\(rows.drop (i*aj)).take aj=cK/\∃y,ds[i]?=some y/\Cv enc P W m e cK=some y)/\
  (∀y∈ds,∀z∈y.1.weights P e,z∈x.1.weights P t)/\n<=maxLen:=by
 rcases DataW.trod_slice aN h with⟨rfl,rfl⟩|⟨a,len,cap,tA,rest,n,rfl,rfl,rfl,aa,ab,aK,bh,ff,gz,ml⟩
 ·exact⟨none,0,0,[],[],[],0,by rw[k2,Kk rfl];rfl,rfl,fun bn=>.nil,rfl,rfl,(fun i cK q=>by simp at q),(fun y ah=>by cases ah),dV _⟩
 ·have pf:cap<cR:=r1 aK (by unfold maxLen cR;decide);have hw:∀y∈tA,∀z∈y.1.weights P e,z∈(DataW.slice (tA.map (·.1)) (rest.map (·.1)):DataW H).weights P t:=fun y ah z bC=>by
   rw[DataW.weights,aN];refine XL _ (rZ _ ?_);have:∀l:List (DataW H×List MemPlace),y∈l->z∈DataW.weightsAll P e (l.map (·.1)):=fun l=>by
    induction l with
    |nil=>intro q;cases q
    |cons d r aG=>
     intro q;rw[k2,DataW.weightsAll];rcases ft.1 q with rfl|q
     ·exact rZ _ bC
     ·exact lm _ (aG q)
   exact this tA ah
  have p8:∀i,i<len->∃cK y,W.cells? 0 (a.add (i*aj)) aj=some cK/\tA[i]?=some y/\Cv enc P W n e cK=some y:=fun i ak=>by
   have LI:=ff i ak;rw[eI] at LI;have hQ:i<tA.length:=by omega
   rw[du hQ] at LI;obtain⟨cK,aZ,aR⟩:=XU.1 LI;exact⟨cK,_,aZ,du hQ,aR⟩
  by_cases ay:len=0
  ·subst ay;have ac9:tA=[]:=qL.1 bh;subst ac9;by_cases ax:a.spot=none/\(rowOf W a.block).isSome
   ·refine⟨some a,0,cap,[],[],[],n,?_,rfl,fun bn=>?_,rfl,rfl,(fun i cK q=>by simp at q),hw,dV _⟩
    ·show[mK P W _]=_;unfold mK;simp only;rw[aF ⟨ax.1,ax.2,pf⟩]
    ·obtain⟨b,off,sp⟩:=a;obtain⟨rfl,_⟩:=ax;exact .lu _ _ _ pf
   ·have k8:cap=0:=by
     apply CI;intro av
     obtain⟨cO,dI⟩:=gz rfl;have aU:=dI 0 (by omega);rw[eI] at aU;have abT:0<rest.length:=by omega
     rw[du abT] at aU;obtain⟨cK,aZ,aR⟩:=XU.1 aU;have kP:a.add ((0+0)*aj)=a:=by simp[Addr.add]
     rw[kP] at aZ;obtain⟨c,bn,f,b4,bX,_⟩:=KR aZ bt;exact ax ⟨bX,by rw[VJ b4];rfl⟩
    subst k8;refine⟨some ⟨0,0,some 0⟩,0,0,[],[],[],n,?_,rfl,fun bn=>.w2,rfl,rfl,(fun i cK q=>by simp at q),hw,dV _⟩;show[mK P W _]=_;unfold mK;simp only;rw[aq (fun q=>ax ⟨q.1,q.2.1⟩),aF (by simp)]
  ·obtain⟨jL,apk,aZ,aR,bY⟩:=p8 0 (by omega);have kP:a.add (0*aj)=a:=by simp[Addr.add]
   rw[kP] at aZ;obtain⟨c,bn,f,b4,bX,cg,fJ⟩:=KR aZ bt;obtain⟨b,off,sp⟩:=a;have bX:sp=none:=bX;subst bX;have b4:W.heap[b]?=some (.cells c bn f):=b4;have hJ:=VJ b4;have SD:∀i,i<len->∃cK y,tA[i]?=some y/\Cv enc P W n e cK=some y/\cK.length=aj/\∀j,j<aj->c.toList[off+(i*aj+j)]?=cK[j]?:=fun i ak=>by
    obtain⟨cK,y,a',bd,bz⟩:=p8 i ak;rw[Qh rfl] at a';obtain⟨b1,Ru,dj,ct,_,l1,sL⟩:=KR a' bt;have ct:W.heap[b]?=some (.cells b1 Ru dj):=ct;rw[b4] at ct;injection ct with ct;injection ct with ct _ _
    subst ct;exact⟨cK,y,bd,bz,l1,fun j aU=>by have:=sL j aU;rw[show off+(i*aj+j)=off+i*aj+j by omega];simpa using this⟩
   have hlen:off+len*aj<=c.toList.length:=by
    obtain⟨cK,y,_,_,bz,cM⟩:=SD (len -1) (by omega);have:=cM (aj -1) (by omega);rw[du (show aj -1<cK.length by omega)] at this;have amT:off+((len -1)*aj+(aj -1))<c.toList.length:=by
     rcases jo (off+((len -1)*aj+(aj -1))) c.toList.length with q|q
     ·exact q
     ·rw[hg q] at this;cases this
    have:len*aj=(len -1)*aj+aj:=by
     rw[<-pN];congr 1;omega
    omega
   refine⟨some ⟨b,off,none⟩,len,cap,(c.toList.drop off).take (len*aj),(List.range len).map fun i=>(c.toList.drop (off+i*aj)).take aj,tA,n,?_,rfl,fun Ru=>?_,by simp,bh,fun i cK ak=>?_,hw,m9 ab aK⟩
   ·show[mK P W _]=_;unfold mK;simp only;rw[aF (by simp only[true_and];exact⟨by rw[hJ];rfl,pf⟩)]
   ·refine .row (Og hJ) (by rw[<-List.map_drop,<-PO]) ?_ (fun _=>⟨ab,pf⟩) (fun q=>by omega);rw[ig,fc,jJ];omega
   ·rw[gG] at ak;have vx:i<len:=by
     rcases jo i len with q|q
     ·exact q
     ·rw[hg (by simpa using q)] at ak;cases ak
    rw[wz vx] at ak;simp only[C3,b6] at ak;obtain⟨Hd,y,a',bd,bz,cM⟩:=SD i vx;have hle:i*aj+aj<=len*aj:=by rw[<-pN];exact mD _ vx
    have kx:(c.toList.drop (off+i*aj)).take aj=Hd:=by
     refine mb fun j=>?_;rw[kr];split
     ·rename_i aU;rw[o2,<-cM j aU];congr 1;omega
     ·rw[hg (by omega)]
    rw[kx] at ak;subst ak;refine⟨bz,?_,y,a',bd⟩;rw[<-kx,CS,Aq,uN,k4 (by omega)]
theorem ae3(aN:P.underlying t=some (.slice e))(he:P.underlying e=some (.int .i64))(eI:P.cellsOf e=1)(h:Cv enc P W pZ t cs=some x):
 ∃(l:List Int) (b:Option Addr) (c:Nat),cs.map (mK P W)=[.slice b l.length c]/\∀bn,hl (vO P W) bn 1 (.slice b l.length c) l.length (l.map (Value.int .i64)):=by
 obtain⟨b,n,c,rows,el,ds,m,aa,ab,aK,bh,ff,gz,_,_⟩:=Wc aN eI (by omega) h;have hlen:rows.length=n:=by have:=(aK 0).len;simpa using this
 have hint:∀v∈rows,∃i:Int,v=.int .i64 i:=fun v ap=>by
  obtain⟨j,aU⟩:=uL ap;have ani:j<n:=by have:=(dv.1 aU).1;omega
  obtain⟨aZ,aR,y,bY,ep⟩:=gz j _ (du (show j<el.length by omega));obtain⟨i,cO,_⟩:=DataW.trod_int he ep;rw[cO] at aR;rw[s'] at aR;have:((rows.drop j).take 1)[0]?=some v:=by rw[kr,aF (by omega),o2,s9];exact aU
  rw[aR] at this;injection this with this
  exact⟨i,this.symm⟩
 have ay:∃l:List Int,rows=l.map (Value.int .i64):=by
  clear aK gz hlen
  induction rows with
  |nil=>exact⟨[],rfl⟩
  |cons v r aG=>
   obtain⟨i,ak⟩:=hint v (.head _);obtain⟨l,ay⟩:=aG (fun v ap=>hint v (.tail _ ap));exact⟨i::l,by rw[ak,ay];rfl⟩
 obtain⟨l,rfl⟩:=ay;have im:n=l.length:=by simpa using hlen.symm
 subst im;refine⟨l,b,c,aa,fun bn=>?_⟩;have:=aK bn;have aD:(l.map (Value.int .i64)).map (mK P W)=l.map (Value.int .i64):=by
  rw[List.map_map];exact PM fun i _=>Kk rfl
 rwa [aD] at this
theorem Fc(aN:P.underlying t=some (.int .i64))(h:Cv enc P W pZ t cs=some x):∃i:Int,cs=[.int .i64 i]/\cs.map (mK P W)=[.int .i64 i]:=by
 obtain⟨i,rfl,_⟩:=DataW.trod_int aN h;exact⟨i,rfl,by rw[k2,Kk rfl];rfl⟩
end
end
end Go.Opn
