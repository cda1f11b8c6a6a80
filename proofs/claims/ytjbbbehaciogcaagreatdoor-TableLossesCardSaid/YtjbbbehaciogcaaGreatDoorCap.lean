/- A part of the proof of TableLosses. -/
import Derived.Test.YtjbbbehaciogcaaGreatDoorCao
import Derived.ChangeArms
import Derived.DataReads
import Derived.Carry
import Derived.ChangeSame
import Derived.OpenShut
import Derived.Test.YtjbbbehaciogcaaGreatDoorProg
import Derived.KernelRfl
import Derived.Test.YtjbbbehaciogcaaGreatDoorCan
set_option linter.unusedVariables false
set_option linter.unusedSimpArgs false
namespace Go.Opn
noncomputable section
open Go.Cre Go.RowKit
open Classical
def rowOf (w:World)(g:Nat):Option (List Value×TypeId):=match w.heap[g]? with
 |some (.cells c e _)=>some (c.toList,e)
 |_=>none
theorem ade{w:World}{g:Nat}{cs:List Value}{e:TypeId}(h:rowOf w g=some (cs,e)):∃c f,w.heap[g]?=some (.cells c e f)/\c.toList=cs:=by
 unfold rowOf at h;split at h
 ·rename_i c bD f aC;injection h with h;injection h with ad ae
  subst ad;subst ae;exact⟨c,f,aC,rfl⟩
 ·cases h
theorem UB{w:World}{g:Nat}{c:Array Value}{e:TypeId}{f:Nat×Nat}(h:w.heap[g]?=some (.cells c e f)):rowOf w g=some (c.toList,e):=by
 unfold rowOf;rw[h]
def qn (P:Program)(w:World):bY:=fun g=>match rowOf w g with
 |some (cs,e)=>some ⟨g,cs.length,P.cellsOf e⟩
 |none=>none
theorem Jg{P:Program}{w:World}{g:Nat}{L:Cre.Loc}(h:qn P w g=some L):∃cs e,rowOf w g=some (cs,e)/\L=⟨g,cs.length,P.cellsOf e⟩:=by
 unfold qn at h;cases ao:rowOf w g with
 |none=>rw[ao] at h;cases h
 |some x=>obtain⟨cs,e⟩:=x;rw[ao] at h;injection h with h;exact⟨cs,e,rfl,h.symm⟩
theorem abG{P:Program}{w:World}{g:Nat}(h:(rowOf w g).isSome):∃L,qn P w g=some L/\L.r=g:=by
 obtain⟨⟨cs,e⟩,aa⟩:=Option.isSome_iff_exists.1 h;unfold qn;rw[aa];exact⟨_,rfl,rfl⟩
theorem WE{μ:bY}:∀(n:Nat) (v:Value),SizeOf.sizeOf v<=n->∃v0,bj μ v0 v:=by
 intro n;induction n with
 |zero=>intro v h;cases v<;>simp at h
 |succ n aP=>
  intro v h;have arr:∀cs:Array Value,SizeOf.sizeOf cs<=n->∃bO:Array Value,bO.size=cs.size/\∀(i:Nat) v v',bO[i]?=some v->cs[i]?=some v'->bj μ v v':=fun cs hs=>by
   have key:∀i:Fin cs.size,∃v0,bj μ v0 cs[i]:=fun i=>aP _ (by have:=Array.sizeOf_getElem cs i.1 i.2;have e:cs[i]=cs[i.1]:=rfl;rw[e];omega);refine⟨Array.ofFn fun i=>Classical.choose (key i),by simp,fun i v v' ad ae=>?_⟩;rw[Array.getElem?_ofFn] at ad;split at ad
   ·rename_i ak;injection ad with ad;subst ad
    rw[AT ak] at ae;injection ae with ae;subst ae
    exact VL (key ⟨i,ak⟩)
   ·cases ad
  by_cases ah:fh v=true
  ·exact⟨_,.zb v ah⟩
  ·cases v with
   |agg cs=>
    obtain⟨bO,ad,ae⟩:=arr cs (by simp at h;omega);exact⟨_,.agg bO cs ad ae⟩
   |tuple cs=>
    obtain⟨bO,ad,ae⟩:=arr cs (by simp at h;omega);exact⟨_,.tuple bO cs ad ae⟩
   |_=>exact absurd rfl ah
def gu (P:Program)(w:World)(v:Value):Value:=match v with
 |.pointer (some ⟨r,off,none⟩)=>if(rowOf w r).isSome then v else .chan none
 |.slice (some a) len cap=>if a.spot=none/\(rowOf w a.block).isSome/\cap<cO then v else if len=0/\cap=0 then .slice (some ⟨0,0,some 0⟩) 0 0 else .chan none
 |v=>if isAtom v=true then v else Classical.choose (WE (μ:=qn P w) (SizeOf.sizeOf v) v (bU _))
theorem DW{P:Program}{w:World}{v:Value}(h:isAtom v=true):gu P w v=v:=by
 unfold gu;split
 ·simp[isAtom] at h
 ·simp[isAtom] at h
 ·rw[aV h]
theorem K5{P:Program}{w:World}(v:Value):bj (qn P w) (gu P w v) v:=by
 unfold gu;split
 ·rename_i r off;split
  ·rename_i q;obtain⟨L,ad,ae⟩:=abG (P:=P) q;have:=bj.ptr r off L ad;rwa [ae] at this
  ·exact .zb _ rfl
 ·rename_i a len cap;split
  ·rename_i q;obtain⟨r,off,sp⟩:=a;obtain⟨hZ,aL,aG⟩:=q;have hZ:sp=none:=hZ;subst hZ;obtain⟨L,ad,ae⟩:=abG (P:=P) aL;have ae:L.r=r:=ae;have:=bj.oc r off len cap L ad aG;rwa [ae] at this
  ·split
   ·rename_i q;obtain⟨rfl,rfl⟩:=q;exact .y2 a
   ·exact .zb _ rfl
 ·split
  ·exact .atom _ (by assumption)
  ·exact VL (WE (μ:=qn P w) (SizeOf.sizeOf v) v (bU _))
def uX (P:Program)(w:World)(g:Nat):Option (List Value×TypeId):=match rowOf w g with
 |some (cs,e)=>some (cs.map (gu P w),e)
 |none=>none
theorem ac'{P:Program}{w:World}{g:Nat}{cs:List Value}{e:TypeId}(h:uX P w g=some (cs,e)):∃c,rowOf w g=some (c,e)/\cs=c.map (gu P w):=by
 unfold uX at h;split at h
 ·rename_i c bD q;injection h with h;injection h with ad ae
  subst ad;subst ae;exact⟨c,q,rfl⟩
 ·cases h
theorem NT{P:Program}{w:World}{g:Nat}{cs:List Value}{e:TypeId}(h:rowOf w g=some (cs,e)):uX P w g=some (cs.map (gu P w),e):=by
 unfold uX;rw[h]
def D4 (P:Program)(w:World)(g:Nat):fB:=match uX P w g with
 |some (cs,e)=>.row cs e false 0 cs.length true
 |none=>.dead
def CH (P:Program)(w:World):a0 fB:=match y7 ((List.range w.heap.size).map (D4 P w)) 0 .leaf with|some t=>t|none=>.leaf
theorem M6{P:Program}{w:World}(g:Nat):(CH P w).get g=if g<w.heap.size then some (D4 P w g) else none:=by
 obtain⟨T,cB⟩:=aen ((List.range w.heap.size).map (D4 P w)) 0 .leaf (fun k hk=>absurd hk (by omega));unfold CH;rw[cB];simp only
 rw[U7 cB];simp only[c5,true_and,j0,List.length_range,j2,Nat.sub_zero];split
 ·rename_i h;rw[lC,Gn h];rfl
 ·rfl
def yc (P:Program)(w:World):ar:=⟨CH P w,w.heap.size,.leaf,0,w.heap.size⟩
theorem ada{P:Program}{w:World}{g:Nat}{x:List Value×TypeId}(h:uX P w g=some x):g<w.heap.size:=by
 obtain⟨cs,e⟩:=x;obtain⟨c,ad,_⟩:=ac' h;obtain⟨c',f,ae,_⟩:=ade ad;exact(Oy.1 ae).1
theorem ZN{P:Program}{w:World}{g:Nat}{cs:List Value}{e:TypeId}(h:uX P w g=some (cs,e)):(yc P w).mem.get g=some (.row cs e false 0 cs.length true):=by
 show(CH P w).get g=_;rw[M6,aV (ada h)];unfold D4;rw[h]
theorem ZM{P:Program}{w:World}{g:Nat}{b:fB}(h:(yc P w).mem.get g=some b):g<w.heap.size/\(b=.dead\/∃cs e,uX P w g=some (cs,e)/\b=.row cs e false 0 cs.length true):=by
 have h:(CH P w).get g=some b:=h;rw[M6] at h;split at h
 ·rename_i ay;refine⟨ay,?_⟩;injection h with h
  unfold D4 at h;cases ao:uX P w g with
  |none=>rw[ao] at h;exact .inl h.symm
  |some x=>obtain⟨cs,e⟩:=x;rw[ao] at h;exact .inr ⟨cs,e,rfl,h.symm⟩
 ·cases h
theorem ak3(P:Program)(w:World):b8 P (fun k=>k<w.heap.size) w (qn P w) (yc P w) w:=by
 have mlt:∀x L,qn P w x=some L->x<w.heap.size:=fun x L aa=>by
  obtain⟨cs,e,ad,_⟩:=Jg aa;exact ada (NT (P:=P) ad)
 refine⟨Kept.refl _ _,fun _ hk=>hk,?_,?_,mlt,?_,?_,?_,bU _,?_,?_,?_⟩
 ·intro g L q;obtain⟨c,e,ae,rfl⟩:=Jg q;obtain⟨c',f,aD,rfl⟩:=ade ae;refine⟨_,_,ZN (NT ae),aD,rfl,by simp,rfl,by simp,fun _=>by simp,fun i v v' x y=>?_,⟨fun off ah _ _=>by simpa using ah,fun q=>by cases q⟩⟩;rw[lC] at x;have ng:c'.toList[i]?=some v':=by simpa using y
  rw[ng] at x;injection x with x;subst x
  exact K5 v'
 ·intro x y gH hB eN aa ap ao;obtain⟨_,_,_,rfl⟩:=Jg aa;obtain⟨_,_,_,rfl⟩:=Jg ap;exact absurd ao eN
 ·intro x L aa _;obtain⟨_,_,_,rfl⟩:=Jg aa;rfl
 ·intro x L aa ay _;have:=mlt x L aa;have ay:w.heap.size<=x:=ay;omega
 ·intro g c e o f z s _ hm;obtain⟨ay,q⟩:=ZM hm;rcases q with q|⟨cs,bD,aL,aG⟩
  ·cases q
  ·obtain⟨vG,ad,_⟩:=ac' aL;refine⟨⟨g,vG.length,P.cellsOf bD⟩,?_⟩;unfold qn;rw[ad]
 ·intro x c e f z s hm;obtain⟨_,q⟩:=ZM hm;rcases q with q|⟨_,_,_,q⟩<;>cases q
 ·intro f l x aq;cases aq
 ·intro f l aq;cases aq
def ku (P:Program)(w:World):aj:=uX P w
theorem apB(P:Program)(w:World):Inv w.heap.size (iH [] (yc P w) (ku P w)) (ku P w) [] (yc P w):=by
 refine⟨⟨fun a aF=>?_,fun a aF=>?_,fun f aA=>absurd aA (Gu _),fun f _=>rfl,bU _⟩,rfl,bU _,bU _,fun _ _ _=>rfl,fun _ _=>rfl,fun a c e h=>?_,aj.le.refl _,fun a x ad ae=>?_,fun a b h=>(by cases h),(fun a b h=>by cases h),List.nodup_nil⟩
 ·refine⟨D4 P w a,?_⟩;show(CH P w).get a=_;rw[M6,aV (show a<w.heap.size from aF)]
 ·show(CH P w).get a=none;rw[M6,aQ (by have aF:w.heap.size<=a:=aF;omega)]
 ·exact⟨_,_,_,_,ZN h⟩
 ·rw[show ku P w a=none from ad] at ae;cases ae
section
variable {K:dR}
theorem asw{w:World}{f:FuncId}{fn:Func}{c:Code}{args:List Value}{cb:Array Value}{b:Bool}(gK:K.Q.ok (fun k=>k<w.heap.size) w)(ay:K.g0=w.heap.size)(aA:K.P.funcs[f]?=some fn)(ai:fn.body=some c)(aq:b3 (qn K.P w) args cb.toList)(bM:Fn K f args [] (ku K.P w) (fun v m J=>v=.bool b)):
 Calls K.P f cb w fun e a8=>e=.returned (.bool b)/\Below w.heap.size w a8:=by
 have aB:Inv K.g0 (iH [] (yc K.P w) (ku K.P w)) (ku K.P w) [] (yc K.P w):=by rw[ay];exact apB K.P w
 obtain⟨v,H',af,m',ad,ae,rfl⟩:=bM (yc K.P w) aB;have hs:=ad _ w gK f args (yc K.P w) (.returned (.bool b)) H' (by unfold kW;rw[aV ⟨rfl,rfl,rfl⟩]) (qn K.P w) w cb.toList (ak3 K.P w) aq;rcases hs with⟨v,v',a8,bh,_,q,_⟩|⟨_,q⟩
 ·rw[Hn aA ai (K.cI.num f fn aA (by rw[ai];rfl))] at q;cases q
 ·refine Calls.mono q fun bD a8 bQ=>?_;obtain⟨bh,b4,bZ,cH⟩:=bQ;cases bD with
  |returned v'=>
   have av:bj bh (.bool b) v':=cH;rw[av.GN];exact⟨rfl,b4.below.below⟩
  |panicked c=>exact cH.elim
  |outgrown=>exact cH.elim
theorem Fn.closed{H0:ar}{f:FuncId}{fn:Func}{c:Code}{v:Value}{J:aj}(aw:plain v=true)(aA:K.P.funcs[f]?=some fn)(ai:fn.body=some c)(bn:∀B w,K.Q.ok B w->Laid K.P w H0/\KH H0 B)
 (aC:∀w,Laid K.P w H0->Calls K.P f #[] w fun e a8=>e=.returned v/\Below w.heap.size w a8):Fn K f [] [] J (fun u m' af=>u=v/\m'=[]/\af=J):=by
 intro H aB;refine⟨v,H,J,[],fun B w0 gK=>?_,aB,rfl,rfl,rfl⟩;obtain⟨B6,ea⟩:=bn B w0 gK;intro cF cb H' e oX he μ w ax3 h aq;unfold kW at he;split at he
 ·rename_i q;obtain⟨rfl,rfl,rfl⟩:=q;simp only[cn,dr] at he;obtain⟨rfl,rfl⟩:=he;obtain rfl:=aq.lr;refine .inr ⟨Hn aA ai (K.cI.num cF fn aA (by rw[ai];rfl)) _ w,?_⟩;refine Calls.mono (aC w (B6.gn ea h.below)) fun bD a8 ⟨q1,sV⟩=>?_;subst q1;exact⟨μ,h.grow sV,Step.refl _ _,qu aw⟩
 ·cases he
def Vn(P:Program)(H0:ar):c7 P where
 ok B w:=Laid P w H0/\KH H0 B
 up B w0 iB iW h ea hk:=⟨h.1.gn h.2 hk,fun g b ay ai=>ea g (h.2 g b ay ai)⟩
end
theorem aeU{b:Option Addr}(h:addrEq b b=true)(l c n:Nat):eg (n+1) (.slice b l c) (.slice b l c)=true:=by
 show(addrEq b b&&Nat.beq l l&&Nat.beq c c)=true;rw[hT,hT,h];rfl
theorem awM{n:Nat}:∀{l:List Value},(∀v∈l,eg n v v=true)->eg (n+1) (.agg l.toArray) (.agg l.toArray)=true:=by
 intro l h;show je (eg n) l l=true;induction l with
 |nil=>rfl
 |cons a l aP=>
  show(eg n a a&&je (eg n) l l)=true;rw[h a (.head _),aP (fun v av=>h v (.tail _ av))];rfl
theorem awP{n:Nat}:∀v∈([]:List Value),eg n v v=true:=fun v av=>by cases av
theorem awO{n:Nat}{a:Value}{l:List Value}(h:eg n a a=true)(aq:∀v∈l,eg n v v=true):∀v∈a::l,eg n v v=true:=fun v av=>by
 rcases gj.1 av with rfl|q
 ·exact h
 ·exact aq v q
section
variable {K:dR}{B:dv}{o:Oper}{n:Nat}{ds:ee}{l:List (Nat×Value)}{m m':aN}{J:aj}{fk:ca->aN->aj->Prop}{d:Nat}{cw:Exit->ca->aN->aj->Prop}
theorem az.ri{c:Code}{E:ca}(aw:m'.Perm m)(h:az K B c E m' J cw):az K B c E m J cw:=fun S H al aB=>h S H al (aB.perm aw.symm)
theorem mW.perm{g0 sz k:Nat}{v:Value}{cs:List Value}(aw:m.Perm m')(h:mW g0 B J m sz v k cs):mW g0 B J m' sz v k cs:=fun H aB=>h H (aB.perm aw.symm)
theorem NF{α:Type}{x:α}{bc r:List α}:(x::(bc++r)).Perm (bc++x::r):=List.perm_middle.symm
theorem acA{α:Type}{x y:α}{bc r:List α}:(x::y::(bc++r)).Perm (bc++x::y::r):=(NF.cons x).trans NF
theorem acB{α:Type}{x y z:α}{bc r:List α}:(x::y::z::(bc++r)).Perm (bc++x::y::z::r):=(acA.cons x).trans NF
theorem mW.own{g0:Nat}{e:TypeId}{sz k c a:Nat}{cells:List Value}(hm:(a,dI.row cells e)∈m)(aq:cells.length=k*sz):mW g0 B J m sz (.slice (some ⟨a,0,none⟩) k c) k cells:=by
 intro H aB;refine⟨rfl,?_⟩;have g:=(aB.own _ _ hm).1;have g:H.mem.get a=some (.row cells e false 0 0 false):=g;unfold j4;cases k with
 |zero=>
  simp only
  rw[jE] at aq;rw[oj aq]
 |succ k=>
  simp only[g];rw[xO,gO,y5 (by omega),cU (by omega)]
theorem afa{c:Call}{t h1 e:TypeId}{sz k j:Nat}{gz cells new:List Value}{v x:Value}{bc fo:aN}{eK:TypeDesc}(ah:o.op=.call c)(aC:c.callee=.builtin .append)(au:o.dst=some d)(aE:Nat.blt d n=true)(aF:h4 l c.args.toList=some [v,x])(n7:c.argTypes.toList=[t,h1])(aI:mN K.P t=some (e,sz,gz))(k3:K.P.underlying h1=some eK)(wi:∀i,eK≠.int i)
 (av:Acc e sz v k cells bc)(hm:m.Perm (bc++fo))(aa:mW K.g0 B J m sz x j new)(dT:new.length=j*sz)(dX:new.all fh=true)(aq:k+j<=1000000)
 (h:∀w jM,Acc e sz w (k+j) (cells++new) jM->fk ⟨n,ds,(d,w)::l⟩ (jM++fo) J):jW K B o ⟨n,ds,l⟩ m J fk:=fun S H al aB=>
 axb ah aC au aE aF n7 aI k3 wi av rfl (aa.perm hm) dT dX aq h S H al (aB.perm hm)
theorem Acc.qv{c:Code}{e:TypeId}{sz k:Nat}{v:Value}{cells:List Value}{bc fo:aN}{E:ca}(h:Acc e sz v k cells bc)(hm:m.Perm (bc++fo))(hk:∀af,J.le af->fR af e sz v k cells->az K B c E fo af cw):az K B c E m J cw:=
 az.ri hm.symm (h.ei rfl hk)
end
def Hb (dn off cap sz:Nat)(a b:Int):Value:=
 if cap=cO then .slice (some ⟨dn,off+a.toNat*sz,none⟩) (b -a).toNat cO
 else if cap=a.toNat then .slice (some ⟨dn,off,none⟩) (b -a).toNat (cap -a.toNat)
 else .slice (some ⟨dn,off+a.toNat*sz,none⟩) (b -a).toNat (cap -a.toNat)
section
variable {K:dR}{B:dv}{o:Oper}{n:Nat}{ds:ee}{l:List (Nat×Value)}{m m':aN}{J:aj}{fk:ca->aN->aj->Prop}{d:Nat}
theorem aiP{e:TypeId}{dn off k cap sz:Nat}{cs:List Value}{a b:Int}(av:fR J e sz (.slice (some ⟨dn,off,none⟩) k cap) k cs)(hk:0<k)(aR:0<=a)(ad:a<=b)(ae:b<=k):
 fR J e sz (Hb dn off cap sz a b) (b -a).toNat ((cs.drop (a.toNat*sz)).take ((b -a).toNat*sz)):=by
 generalize mw:k=yx at av;have wm:=av;cases av with
 |jH a off cap h=>exact absurd hk (by omega)
 |@row dn off k cap cells cs bD dq c2 fp ij uV=>
  subst mw;have hlen:k*sz<=(cells.drop off).length:=by
   have:((cells.drop off).take (k*sz)).length=k*sz:=by rw[c2];exact fp
   rw[eA] at this;omega
  have hle:a.toNat*sz+(b -a).toNat*sz<=k*sz:=by
   rw[<-c6];exact fq _ (by omega)
  have g3:(cells.drop (off+a.toNat*sz)).take ((b -a).toNat*sz)=(cs.drop (a.toNat*sz)).take ((b -a).toNat*sz):=by
   rw[<-c2,KK,su,zk,g6 (by omega)]
  have m5:((cs.drop (a.toNat*sz)).take ((b -a).toNat*sz)).length=(b -a).toNat*sz:=by
   rw[eA,jZ,fp];omega
  unfold Hb;split
  ·exact .row dq g3 m5 (fun q=>absurd rfl q) (fun _=>uV (by assumption))
  ·rename_i aC;split
   ·have ht:(b -a).toNat=0:=by have:=(ij aC).1;omega
    have:(cs.drop (a.toNat*sz)).take ((b -a).toNat*sz)=[]:=by rw[ht];simp
    rw[this,ht];exact .jH _ _ _ (by have:=(ij aC).2;omega)
   ·refine .row dq g3 m5 (fun _=>⟨by have:=(ij aC).1;omega,by have:=(ij aC).2;omega⟩) (fun q=>?_);have:=(ij aC).2;omega
theorem awB{t e:TypeId}{x:Operand}{lo ak:Option Operand}{w:Value}{dn off cap k sz:Nat}{gz cs:List Value}{a b:Int}(ah:o.op=.slice t x lo ak none)(aa:bJ l x=some (.slice (some ⟨dn,off,none⟩) k cap))(aI:mN K.P t=some (e,sz,gz))(av:fR J e sz (.slice (some ⟨dn,off,none⟩) k cap) k cs)(hk:0<k)(hQ:vE l 0 lo=some a)(lO:vE l k ak=some b)(aR:0<=a)(ad:a<=b)(ae:b<=k)(hw:Hb dn off cap sz a b=w):cY K B o n ds l m J w:=by
 obtain⟨hu,eb,ju,z,h9,aM,a',rfl,bf,bV,dx⟩:=u0 aI;intro call aJ S H al aB;subst hw;generalize mw:k=yx at av;cases av with
 |jH a off cap h=>exact absurd hk (by omega)
 |@row dn off k cap cells cs bD dq c2 fp ij uV=>
  subst mw;obtain⟨ol,Jy,yL⟩:=xw (l5:=0) (top:=b.toNat) al H hQ aR (by omega) rfl;have g7:∀w,lc K.P H t (.slice (some ⟨dn,off,none⟩) k cap) ol (match iy S.T H ak with|some x=>x|none=>none)=some w->cz K.P call aJ S H o=some (.val w H):=fun w hw=>by
   unfold cz e4;simp only[ah];show nF K.P _ t (a3 S.T H x) (iy S.T H lo) (iy S.T H ak)=_;rw[de al H aa,Jy];rcases PT al H lO with⟨_,_,q⟩|⟨_,_,_,_,q⟩
   ·rw[q] at hw ⊢;unfold nF;simp only;rw[show lc K.P H t (.slice (some ⟨dn,off,none⟩) k cap) ol none=some w from hw];rfl
   ·rw[q] at hw ⊢;unfold nF;simp only;rw[show lc K.P H t (.slice (some ⟨dn,off,none⟩) k cap) ol _=some w from hw];rfl
  have ax:(b -a).toNat=b.toNat -a.toNat:=by omega
  obtain⟨JA,of,asy,os,bQ⟩:=aB.ei _ _ _ dq;refine g7 _ ?_;unfold Hb;by_cases aC:cap=cO
  ·subst aC;obtain⟨CQ,r',sb⟩:=xw (l5:=k) (top:=k) al H lO (by omega) (by omega) rfl;rw[aV rfl,r'];unfold lc;simp only[hu,eb,hT,cd,bQ,uV rfl,sb,yL,nM,dK];rw[ax];rfl
  ·obtain⟨CQ,r',sb⟩:=xw (l5:=k) (top:=cap) al H lO (by omega) (by have:=(ij aC).1;omega) rfl;have H4:Nat.beq cap cO=false:=by
    cases q:Nat.beq cap cO
    ·rfl
    ·exact absurd (ez q) aC
   rw[aQ aC];by_cases um:cap=a.toNat
   ·rw[aV um,r'];unfold lc;simp only[hu,eb,H4,dK,sb,yL];rw[show Nat.beq cap a.toNat=true by rw[um];exact hT _,cd,ax];rfl
   ·rw[aQ um,r'];unfold lc;simp only[hu,eb,H4,dK,sb,yL];have:Nat.beq cap a.toNat=false:=by
     cases q:Nat.beq cap a.toNat
     ·rfl
     ·exact absurd (ez q) um
    rw[this,dK,ax];rfl
theorem Acc.BB{e:TypeId}{sz k:Nat}{v:Value}{cells:List Value}{bc:aN}(h:Acc e sz v k cells bc):∃b c,v=.slice b k c/\addrEq b b=true:=by
 cases h with
 |nil=>exact⟨_,_,rfl,rfl⟩
 |jH a=>exact⟨_,_,rfl,by simp[addrEq]⟩
 |opn h=>exact⟨_,_,rfl,by simp[addrEq]⟩
 |cap=>exact⟨_,_,rfl,by simp[addrEq]⟩
end
end
end Go.Opn
namespace Go.Opn
noncomputable section
open Go.Cre Go.RowKit Go.ChangeShapes
theorem WI{b off i:Nat}{sp:Option Nat}(h:sp=none):(⟨b,off,sp⟩:Addr).add i=⟨b,off+i,none⟩:=by
 subst h;unfold Addr.add;split
 ·rename_i q;subst q;rfl
 ·rfl
theorem Qa{W:World}{base k:Nat}{a:Addr}{cs:List Value}(h:W.cells? base a k=some cs)(hk:0<k):∃c e f,W.heap[a.block]?=some (.cells c e f)/\a.spot=none/\cs.length=k/\∀j,j<k->c[a.off+j]?=cs[j]?:=by
 obtain⟨_,ae,aD⟩:=World.cells?_some h;obtain⟨b,off,sp⟩:=a;have aR:=aD 0 hk;have m3:∃v,cs[0]?=some v:=⟨cs[0]'(by omega),ey _⟩;obtain⟨v0,E2⟩:=m3;have hb:(⟨b,off,sp⟩:Addr).add 0=⟨b,off,sp⟩:=rfl;rw[hb,E2] at aR;unfold World.cell? at aR;cases dh:W.heap[b]? with
 |none=>rw[show(⟨b,off,sp⟩:Addr).block=b from rfl,dh] at aR;cases aR
 |some o=>
  rw[show(⟨b,off,sp⟩:Addr).block=b from rfl,dh] at aR;cases o with
  |cells c e f=>
   simp only at aR;cases sp with
   |some s=>simp at aR
   |none=>
    refine⟨c,e,f,by first|rfl|exact dh,rfl,ae,fun j aX=>?_⟩;have:=aD j aX;rw[WI rfl] at this;unfold World.cell? at this;rw[show(⟨b,off+j,none⟩:Addr).block=b from rfl,dh] at this;simpa using this
  |_=>cases aR
section
variable {H:Type}{enc:TypeId×Value->H}{P:Program}{W:World}{fuel:Nat}{t e:TypeId}{cs:List Value}{x:DataW H×List MemPlace}
abbrev nc(enc:TypeId×Value->H)(P:Program)(W:World):=DataW.trod enc P W 0 (fun _=>true) true
theorem adK{sz:Nat}(aI:P.underlying t=some (.slice e))(eb:P.cellsOf e=sz)(aR:0<sz)(h:nc enc P W fuel t cs=some x):
 ∃(b:Option Addr) (n c:Nat) (rows:List Value) (el:List (List Value)) (ds:List (DataW H×List MemPlace)) (m:Nat),cs.map (gu P W)=[.slice b n c]/\cs.length=1/\(∀bD,fR (ku P W) bD sz (.slice b n c) n (rows.map (gu P W)))/\el.length=n/\ds.length=n/\
  (∀i cG,el[i]?=some cG->cG.length=sz/\(rows.drop (i*sz)).take sz=cG/\∃y,ds[i]?=some y/\nc enc P W m e cG=some y)/\
  (∀y∈ds,∀z∈y.1.weights P e,z∈x.1.weights P t)/\n<=maxLen:=by
 rcases DataW.trod_slice aI h with⟨rfl,rfl⟩|⟨a,len,cap,tW,rest,n,rfl,rfl,rfl,ad,ae,aD,a6,eM,fH,oC⟩
 ·exact⟨none,0,0,[],[],[],0,by rw[rD,DW rfl];rfl,rfl,fun bD=>.nil,rfl,rfl,(fun i cG q=>by simp at q),(fun y ap=>by cases ap),c5 _⟩
 ·have pd:cap<cO:=mU aD (by unfold maxLen cO;decide);have hw:∀y∈tW,∀z∈y.1.weights P e,z∈(DataW.slice (tW.map (·.1)) (rest.map (·.1)):DataW H).weights P t:=fun y ap z aM=>by
   rw[DataW.weights,aI];refine Wa _ (om _ ?_);have:∀l:List (DataW H×List MemPlace),y∈l->z∈DataW.weightsAll P e (l.map (·.1)):=fun l=>by
    induction l with
    |nil=>intro q;cases q
    |cons d r aP=>
     intro q;rw[rD,DataW.weightsAll];rcases gj.1 q with rfl|q
     ·exact om _ aM
     ·exact ki _ (aP q)
   exact this tW ap
  have hf:∀i,i<len->∃cG y,W.cells? 0 (a.add (i*sz)) sz=some cG/\tW[i]?=some y/\nc enc P W n e cG=some y:=fun i ak=>by
   have Rk:=eM i ak;rw[eb] at Rk;have lk:i<tW.length:=by omega
   rw[ey lk] at Rk;obtain⟨cG,aL,aG⟩:=af6.1 Rk;exact⟨cG,_,aL,ey lk,aG⟩
  by_cases aq:len=0
  ·subst aq;have ank:tW=[]:=w'.1 a6;subst ank;by_cases ao:a.spot=none/\(rowOf W a.block).isSome
   ·refine⟨some a,0,cap,[],[],[],n,?_,rfl,fun bD=>?_,rfl,rfl,(fun i cG q=>by simp at q),hw,c5 _⟩
    ·show[gu P W _]=_;unfold gu;simp only;rw[aV ⟨ao.1,ao.2,pd⟩]
    ·obtain⟨b,off,sp⟩:=a;obtain⟨rfl,_⟩:=ao;exact .jH _ _ _ pd
   ·have m3:cap=0:=by
     apply jD;intro aC
     obtain⟨dq,c2⟩:=fH rfl;have aX:=c2 0 (by omega);rw[eb] at aX;have ama:0<rest.length:=by omega
     rw[ey ama] at aX;obtain⟨cG,aL,aG⟩:=af6.1 aX;have hb:a.add ((0+0)*sz)=a:=by simp[Addr.add]
     rw[hb] at aL;obtain⟨c,bD,f,b4,bZ,_⟩:=Qa aL aR;exact ao ⟨bZ,by rw[UB b4];rfl⟩
    subst m3;refine⟨some ⟨0,0,some 0⟩,0,0,[],[],[],n,?_,rfl,fun bD=>.zK,rfl,rfl,(fun i cG q=>by simp at q),hw,c5 _⟩;show[gu P W _]=_;unfold gu;simp only;rw[aQ (fun q=>ao ⟨q.1,q.2.1⟩),aV (by simp)]
  ·obtain⟨jG,kQ,aL,aG,bt⟩:=hf 0 (by omega);have hb:a.add (0*sz)=a:=by simp[Addr.add]
   rw[hb] at aL;obtain⟨c,bD,f,b4,bZ,cH,fX⟩:=Qa aL aR;obtain⟨b,off,sp⟩:=a;have bZ:sp=none:=bZ;subst bZ;have b4:W.heap[b]?=some (.cells c bD f):=b4;have mz:=UB b4;have Y9:∀i,i<len->∃cG y,tW[i]?=some y/\nc enc P W n e cG=some y/\cG.length=sz/\∀j,j<sz->c.toList[off+(i*sz+j)]?=cG[j]?:=fun i ak=>by
    obtain⟨cG,y,aW,aT,bo⟩:=hf i ak;rw[WI rfl] at aW;obtain⟨c',XO,cF,cW,_,mF,tc⟩:=Qa aW aR;have cW:W.heap[b]?=some (.cells c' XO cF):=cW;rw[b4] at cW;injection cW with cW;injection cW with cW _ _
    subst cW;exact⟨cG,y,aT,bo,mF,fun j aX=>by have:=tc j aX;rw[show off+(i*sz+j)=off+i*sz+j by omega];simpa using this⟩
   have hlen:off+len*sz<=c.toList.length:=by
    obtain⟨cG,y,_,_,bo,cu⟩:=Y9 (len -1) (by omega);have:=cu (sz -1) (by omega);rw[ey (show sz -1<cG.length by omega)] at this;have ayG:off+((len -1)*sz+(sz -1))<c.toList.length:=by
     rcases hH (off+((len -1)*sz+(sz -1))) c.toList.length with q|q
     ·exact q
     ·rw[jX q] at this;cases this
    have:len*sz=(len -1)*sz+sz:=by
     rw[<-o2];congr 1;omega
    omega
   refine⟨some ⟨b,off,none⟩,len,cap,(c.toList.drop off).take (len*sz),(List.range len).map fun i=>(c.toList.drop (off+i*sz)).take sz,tW,n,?_,rfl,fun XO=>?_,by simp,a6,fun i cG ak=>?_,hw,cX ae aD⟩
   ·show[gu P W _]=_;unfold gu;simp only;rw[aV (by simp only[true_and];exact⟨by rw[mz];rfl,pd⟩)]
   ·refine .row (NT mz) (by rw[<-V',<-DH]) ?_ (fun _=>⟨ae,pd⟩) (fun q=>by omega);rw[j0,eA,jZ];omega
   ·rw[lC] at ak;have B5:i<len:=by
     rcases hH i len with q|q
     ·exact q
     ·rw[jX (by simpa using q)] at ak;cases ak
    rw[Gn B5] at ak;simp only[KV,cn] at ak;obtain⟨G8,y,aW,aT,bo,cu⟩:=Y9 i B5;have hle:i*sz+sz<=len*sz:=by rw[<-o2];exact fq _ B5
    have g3:(c.toList.drop (off+i*sz)).take sz=G8:=by
     refine ss fun j=>?_;rw[jY];split
     ·rename_i aX;rw[o0,<-cu j aX];congr 1;omega
     ·rw[jX (by omega)]
    rw[g3] at ak;subst ak;refine⟨bo,?_,y,aW,aT⟩;rw[<-g3,KK,zk,su,g6 (by omega)]
theorem Tk(aI:P.underlying t=some (.slice e))(he:P.underlying e=some (.int .i64))(eb:P.cellsOf e=1)(h:nc enc P W fuel t cs=some x):
 ∃(l:List Int) (b:Option Addr) (c:Nat),cs.map (gu P W)=[.slice b l.length c]/\∀bD,fR (ku P W) bD 1 (.slice b l.length c) l.length (l.map (Value.int .i64)):=by
 obtain⟨b,n,c,rows,el,ds,m,ad,ae,aD,a6,eM,fH,_,_⟩:=adK aI eb (by omega) h;have hlen:rows.length=n:=by have:=(aD 0).len;simpa using this
 have hint:∀v∈rows,∃i:Int,v=.int .i64 i:=fun v av=>by
  obtain⟨j,aX⟩:=afK av;have azq:j<n:=by have:=(ff.1 aX).1;omega
  obtain⟨aL,aG,y,bt,du⟩:=fH j _ (ey (show j<el.length by omega));obtain⟨i,dq,_⟩:=DataW.trod_int he du;rw[dq] at aG;rw[ha] at aG;have:((rows.drop j).take 1)[0]?=some v:=by rw[jY,aV (by omega),o0,iD];exact aX
  rw[aG] at this;injection this with this
  exact⟨i,this.symm⟩
 have aq:∃l:List Int,rows=l.map (Value.int .i64):=by
  clear aD fH hlen
  induction rows with
  |nil=>exact⟨[],rfl⟩
  |cons v r aP=>
   obtain⟨i,ak⟩:=hint v (.head _);obtain⟨l,aq⟩:=aP (fun v av=>hint v (.tail _ av));exact⟨i::l,by rw[ak,aq];rfl⟩
 obtain⟨l,rfl⟩:=aq;have l9:n=l.length:=by simpa using hlen.symm
 subst l9;refine⟨l,b,c,ad,fun bD=>?_⟩;have:=aD bD;have ax:(l.map (Value.int .i64)).map (gu P W)=l.map (Value.int .i64):=by
  rw[OP];exact V9 fun i _=>DW rfl
 rwa [ax] at this
theorem yw(aI:P.underlying t=some (.int .i64))(h:nc enc P W fuel t cs=some x):∃i:Int,cs=[.int .i64 i]/\cs.map (gu P W)=[.int .i64 i]:=by
 obtain⟨i,rfl,_⟩:=DataW.trod_int aI h;exact⟨i,rfl,by rw[rD,DW rfl];rfl⟩
def y4 (P:Program)(t:TypeId):Option Nat:=match P.underlying t with|some (.struct e5)=>some e5.size|_=>none
theorem J1{k:Nat}(hk:y4 P t=some k)(h:nc enc P W fuel t cs=some x):∃n,cs.length=P.cellsOf t/\∀i dH off sz,i<k->nW P t i=some (dH,off)->P.cellsOf dH=sz->∃y,nc enc P W n dH ((cs.drop off).take sz)=some y/\∀z∈y.1.weights P dH,z∈x.1.weights P t:=by
 unfold y4 at hk;split at hk
 ·rename_i e5 hu;injection hk with hk;subst hk
  obtain⟨xs,n,rfl,rfl,ad,ae,aD⟩:=DataW.trod_struct hu h;refine⟨n,ad,fun i dH off sz ak aA aM=>?_⟩;unfold nW at aA;rw[hu] at aA;simp only at aA;have RX:=AT ak;rw[RX] at aA;simp only[cn,dr] at aA;obtain⟨rfl,rfl⟩:=aA;subst aM;have YE:=aD i _ RX;have aa:i<xs.length:=by omega
  rw[ey aa] at YE;refine⟨_,YE,fun z aM=>?_⟩;rw[DataW.weights,hu];show z∈DataW.weightsEach P (e5.toList.map (·.type)) (xs.map (·.1));have key:∀(ts:List TypeId) (l:List (DataW H)) (j:Nat) (dH:TypeId) (y:DataW H),ts[j]?=some dH->l[j]?=some y->∀z∈y.weights P dH,z∈DataW.weightsEach P ts l:=by
   intro ts;induction ts with
   |nil=>intro l j dH y q;simp at q
   |cons t0 ts aP=>
    intro l j dH y aL aG z aM;cases l with
    |nil=>simp at aG
    |cons d l=>
     rw[DataW.weightsEach];cases j with
     |zero=>
      simp at aL aG;subst aL;subst aG;exact om _ aM
     |succ j=>exact ki _ (aP l j dH y (by simpa using aL) (by simpa using aG) z aM)
  exact key _ _ i _ _ (by simp[RX]) (by simp[aa]) z aM
 ·cases hk
end
end
end Go.Opn
namespace Go.Opn
noncomputable section
open Go.Cre Go.RowKit Go.ChangeShapes Go.WideShapes
def tb {α:Type}:List (Nat×α)->Nat->Option α
 |[],_=>none
 |(u,v)::l,t=>bif Nat.beq t u then some v else tb l t
def Fu:Nat->List Nat->Bool
 |_,[]=>false
 |t,u::l=>bif Nat.beq t u then true else Fu t l
theorem aer{H:Type}{enc:TypeId×Value->H}{P:Program}{W ot:World}(aq:laidOutB P=true)(ai:Below W.heap.size W ot){sp:Nat->Bool}:
 ∀{ts:List TypeId} {vs:List Value} {ds:List (DataW H)} {ps:List MemPlace},(∀t∈ts,P.readableRec t=true/\t<P.types.size)->DataW.TrodAll enc P W 0 (fun _=>true) true ts vs ds ps->(∀p∈ps,p.block<W.heap.size)->(∀p∈ps,sp p.block=true)->DataW.TrodAll enc P ot 0 sp true ts vs ds ps
 |[],_,_,_,_,h,_,_=>by
  obtain⟨rfl,rfl,rfl⟩:=trodAll_nil h;rfl
 |t::ts,_,_,_,ao,h,cD,hs=>by
  obtain⟨v,awR,d,vQ,a,b,rfl,rfl,rfl,ad,ae⟩:=trodAll_cons h
  exact⟨a,b,WideElems.Trod_stays aq (ao t (.head _)).1 (ao t (.head _)).2 ad (fun x aa=>ai.same (cD x (om _ aa))) (fun x aa=>hs x (om _ aa)),
   aer aq ai (fun u hu=>ao u (.tail _ hu)) ae (fun p aw=>cD p (ki _ aw)) (fun p aw=>hs p (ki _ aw)),rfl⟩
theorem asS{H:Type}{enc:TypeId×Value->H}{P:Program}{f:Func}{s:ChangeSpec}{apart fresh handsOn:Bool}{W ot:World}{args:Array Value}{v:Value}{ds gs:List (DataW H)}{before:List MemPlace}
 (hN:DataW.Whole enc P f.params.toList s.vars apart W args.toList ds gs before)(ai:Below W.heap.size W ot)(aq:laidOutB P=true)(aoo:∀t∈f.params.toList,P.readableRec t=true/\t<P.types.size)(av:s.vars=[])
 (n1:(s.fn H (ds++gs)).args=ds)(aab:(s.fn H (ds++gs)).vars=[])
 (oJ:∀(b:Nat) (sp:Nat->Bool) (au:Bool),DataW.TrodAll enc P ot b sp au f.resultTypes.toList (v.resultList f.resultTypes.size) (s.fn H (ds++gs)).results []):
 s.post enc P f apart fresh handsOn false W args v ot:=by
 have cD:=hN.lt;obtain⟨p,q,ad,ae,rfl,aD,a6⟩:=id hN;have B9:∀x∈p,x.block<W.heap.size:=fun x aa=>cD x (om _ aa);refine⟨ds,gs,p++q,[],p,[],hN,oJ _ _ _,?_,?_,World.keptBut_mono (fun p aw=>by cases aw) (ai.frame fun p=>p∈([]:List MemPlace)),fun h=>by cases h⟩
 ·rw[n1];exact aer aq ai aoo ad B9 (fun x aa=>by simpa using B9 x aa)
 ·rw[av,aab];rfl
end
end Go.Opn
set_option maxRecDepth 100000
namespace Go.Opn
noncomputable section
open Go.Cre Go.RowKit Go.Proofs
theorem re:Tryz.prog.follows .mixedOrders=true:=by kernel_rfl
theorem num:T5 Tryz.prog=true:=by kernel_rfl
abbrev jc:Program:=Tryz.prog
abbrev aU (Q:c7 Tryz.prog)(g0:Nat):dR:=⟨Tryz.prog,Et Tryz.prog,acC re num,Q,g0⟩
section
variable (Q:c7 jc)(g0:Nat)
def Pp:List (Nat×Option Nat):=[(3,none),(4,none),(5,none),(22,none),(23,none),(25,some 3),(26,none),(28,none),(30,some 2),(35,none),(37,some 3),(38,none),(44,none),(45,none),(54,none),(57,none),(59,some 2),(61,none),(63,some 3),(72,some 6),(78,none),(129,none),(146,none),(176,none)]
theorem agx:Pp.map (fun x=>sB jc x.1)=Pp.map (fun x=>some (id x.2)):=by kernel_rfl
def U2:List (Nat×Nat):=[(3,1),(4,1),(25,3),(37,3),(38,1),(45,1),(54,1),(57,1),(59,2),(63,3),(72,6),(78,1),(87,1),(129,1),(147,4)]
theorem avr:U2.map (fun x=>eV jc x.1)=U2.map (fun x=>some (id x.2)):=by kernel_rfl
def QY:List (Nat×Nat):=[(2500,0),(2501,1),(2502,2),(3000,0),(3001,1),(3700,0),(3701,1),(3702,2),(5900,0),(5901,1),(6300,0),(6301,1),(6302,2),(7200,0),(7201,1),(7202,2),(7203,3),(7204,4),(7205,5),(8700,0),(12100,0),(12101,3),(12102,4),(12103,5)]
theorem ak8:QY.map (fun x=>Er jc (x.1 / 100) (x.1 % 100))=QY.map (fun x=>some (id x.2)):=by kernel_rfl
def Pv:List (Nat×(Nat×Nat×Nat)):=[(147,4,146,1),(188,64,5,1)]
theorem agL:Pv.map (fun x=>zy jc x.1)=Pv.map (fun x=>some (id x.2)):=by kernel_rfl
def QE:List (Nat×Nat):=[(22,6),(23,2),(26,1),(27,1),(28,1),(34,1),(35,1),(44,3),(45,1),(54,1),(57,3),(61,1)]
theorem aj6:QE.map (fun x=>Ej jc x.1)=QE.map (fun x=>some (id x.2)):=by kernel_rfl
def Qo:List (Nat×IntKind):=[(20078,.u32),(30078,.u32),(30129,.u64),(30171,.u64),(50003,.i64),(780002,.i64),(780003,.i64),(780129,.u64),(1290002,.i64),(1290003,.i64),(1290005,.u8),(1290078,.u32),(1710003,.i64)]
theorem aiQ:Qo.map (fun x=>isInt jc (x.1 / 10000) (x.1 % 10000))=Qo.map (fun x=>some (id x.2)):=by kernel_rfl
def PV:List (Nat×(Sum (List (Nat×Nat)) Nat×List Value)):=[(25,.inl [(0,1),(1,1),(2,1)],[(.int .i64 (0)),(.slice none 0 0),(.slice none 0 0)]),(30,.inl [(0,1),(1,1)],[(.int .i64 (0)),(.slice none 0 0)]),(37,.inl [(0,1),(1,1),(2,1)],[(.bool false),(.slice none 0 0),(.slice none 0 0)]),(59,.inl [(0,1),(1,1)],[(.int .i64 (0)),(.int .i64 (0))]),(63,.inl [(0,1),(1,1),(2,1)],[(.bool false),(.slice none 0 0),(.slice none 0 0)]),(72,.inl [(0,1),(1,1),(2,1),(3,1),(4,1),(5,1)],[(.int .i64 (0)),(.int .i64 (0)),(.int .i64 (0)),(.slice none 0 0),(.slice none 0 0),(.slice none 0 0)]),(87,.inl [(0,1)],[(.int .i64 (0))]),(121,.inl [(0,3),(3,1),(4,1),(5,1)],[(.int .i64 (0)),(.slice none 0 0),(.slice none 0 0),(.slice none 0 0),(.slice none 0 0),(.slice none 0 0)]),(147,.inr 1,[.nilFunc,.nilFunc,.nilFunc,.nilFunc])]
theorem ag7:PV.map (fun x=>GQ jc x.1)=PV.map (fun x=>some (id x.2)):=by kernel_rfl
def aat:List Nat:=[22,23,26,27,28,34,35,44,45,54,57,61]
theorem isOk:aat.all (fun t=>isSlice jc t)=true:=by kernel_rfl
def aau:List Nat:=[9]
theorem apI:aau.all (fun t=>wA jc t)=true:=by kernel_rfl
def abX:List Nat:=[9,87]
theorem aro:abX.all (fun t=>CM jc t)=true:=by kernel_rfl
def Vy:List (Nat×Value):=[(3,(.int .i64 (0))),(25,(.agg #[(.int .i64 (0)),(.slice none 0 0),(.slice none 0 0)])),(37,(.agg #[(.bool false),(.slice none 0 0),(.slice none 0 0)])),(38,(.int .i64 (0))),(54,(.slice none 0 0)),(57,(.slice none 0 0)),(59,(.agg #[(.int .i64 (0)),(.int .i64 (0))])),(63,(.agg #[(.bool false),(.slice none 0 0),(.slice none 0 0)])),(72,(.agg #[(.int .i64 (0)),(.int .i64 (0)),(.int .i64 (0)),(.slice none 0 0),(.slice none 0 0),(.slice none 0 0)])),(87,(.agg #[(.int .i64 (0))])),(129,(.int .u64 (0))),(147,(.agg #[.nilFunc,.nilFunc,.nilFunc,.nilFunc]))]
theorem axr:Vy.map (fun x=>hA jc x.1)=Vy.map (fun x=>some (id x.2)):=by kernel_rfl
def UK:List (Nat×(TypeId×Nat×List Value)):=[(22,72,6,[(.int .i64 (0)),(.int .i64 (0)),(.int .i64 (0)),(.slice none 0 0),(.slice none 0 0),(.slice none 0 0)]),(23,59,2,[(.int .i64 (0)),(.int .i64 (0))]),(26,44,1,[(.slice none 0 0)]),(27,44,1,[(.slice none 0 0)]),(28,45,1,[(.slice none 0 0)]),(34,78,1,[(.int .u32 (0))]),(35,78,1,[(.int .u32 (0))]),(44,37,3,[(.bool false),(.slice none 0 0),(.slice none 0 0)]),(45,3,1,[(.int .i64 (0))]),(54,57,1,[(.slice none 0 0)]),(57,63,3,[(.bool false),(.slice none 0 0),(.slice none 0 0)]),(61,129,1,[(.int .u64 (0))])]
theorem aud:UK.map (fun x=>mN jc x.1)=UK.map (fun x=>some (id x.2)):=by kernel_rfl
theorem av4:(aU Q g0).P.underlying 27=some (.slice 44):=by kernel_rfl
theorem wX:(aU Q g0).P.underlying 35=some (.slice 78):=by kernel_rfl
theorem av5:(aU Q g0).P.underlying 44=some (.slice 37):=by kernel_rfl
theorem av6:(aU Q g0).P.underlying 45=some (.slice 3):=by kernel_rfl
theorem av7:(aU Q g0).P.underlying 54=some (.slice 57):=by kernel_rfl
theorem Vc:(aU Q g0).P.underlying 61=some (.slice 129):=by kernel_rfl
theorem apu:MR (aU Q g0).P 59=some 2:=by kernel_rfl
theorem aar:isIface (aU Q g0).P 20=true:=by kernel_rfl
end
end
end Go.Opn
namespace Go.Opn
noncomputable section
open Go.Cre Go.RowKit
section
variable {K:dR}{B:dv}{o:Oper}{n:Nat}{ds:ee}{l:List (Nat×Value)}{m m':aN}{J:aj}{fk:ca->aN->aj->Prop}{d:Nat}
def Ed (k:IntKind)(a b:Int):BinOp->Option Value
 |.quo=>some (.int k (k.wrap (a.tdiv b)))
 |.rem=>some (.int k (a.tmod b))
 |_=>none
theorem awh{op:BinOp}{t dH:TypeId}{x y:Operand}{k:IntKind}{a b:Int}{v:Value}(ah:o.op=.binOp op t x y dH)(aa:bJ l x=some (.int k a))(ap:bJ l y=some (.int k b))(av:Ed k a b op=some v)(ai:b≠0):cY K B o n ds l m J v:=by
 intro call aJ S H al aB;unfold cz e4;simp only[ah];show lU K.P _ op t (a3 S.T H x) (a3 S.T H y)=_;rw[de al H aa,de al H ap];show(bif mD k k then jJ H k a b _ op else _)=_;rw[Fj,cd];have key:∀(yM:BinOp),op=yM->(yM=.quo\/yM=.rem)->fl K.P S.T H o=some (.val v H):=by
  intro yM e h;subst e;refine pt al (by rw[ah];rfl) aa ap rfl rfl ?_ ?_
  ·unfold execOp;simp only[ah];rw[hK al H aa,hK al H ap];rcases h with rfl|rfl
   ·simp only[Ed,cn] at av;subst av;have ay:eR K.P (eqGuard .quo t x y (.int k a) (.int k b))=some ():=rfl;have kr:binOp .quo t (.int k a) (.int k b)=pure (.int k (k.wrap (a.tdiv b))):=by simp[binOp,Op.intDiv,ai]
    rw[eL (a:=.int k (k.wrap (a.tdiv b)))]
    ·rfl
    rw[eL ay,kr];rfl
   ·simp only[Ed,cn] at av;subst av;have ay:eR K.P (eqGuard .rem t x y (.int k a) (.int k b))=some ():=rfl;have kr:binOp .rem t (.int k a) (.int k b)=pure (.int k (a.tmod b)):=by simp[binOp,Op.intDiv,ai]
    rw[eL (a:=.int k (a.tmod b))]
    ·rfl
    rw[eL ay,kr];rfl
  ·rcases h with rfl|rfl<;>simp only[Ed,cn] at av<;>subst av<;>rfl
 cases op<;>simp only[Ed,reduceCtorEq] at av
 ·exact key _ rfl (.inl rfl)
 ·exact key _ rfl (.inr rfl)
end
structure dD {α:Type} (J:aj) (e:TypeId) (sz:Nat) (R:α->List Value->Prop) (v:Value) (xs:List α):Prop where
 ex:∃cs,fR J e sz v xs.length cs/\∀i x,xs[i]?=some x->R x ((cs.drop (i*sz)).take sz)
theorem dD.mono{α:Type}{J af:aj}{e:TypeId}{sz:Nat}{R R':α->List Value->Prop}{v:Value}{xs:List α}(hle:J.le af)(c1:∀x cs,R x cs->R' x cs)(h:dD J e sz R v xs):dD af e sz R' v xs:=by
 obtain⟨cs,ad,ae⟩:=h;exact⟨cs,ad.mono hle,fun i x aa=>c1 _ _ (ae i x aa)⟩
theorem fR.addr{J:aj}{e:TypeId}{sz n c:Nat}{b:Option Addr}{cs:List Value}{k:Nat}(h:fR J e sz (.slice b n c) k cs):addrEq b b=true:=by
 cases h with
 |nil=>rfl
 |jH a off cap h=>simp[addrEq]
 |zK=>rfl
 |row ad ae aD a6 eM=>simp[addrEq]
theorem dD.addr{α:Type}{J:aj}{e:TypeId}{sz n c:Nat}{b:Option Addr}{R:α->List Value->Prop}{xs:List α}(h:dD J e sz R (.slice b n c) xs):addrEq b b=true:=by
 obtain⟨cs,ad,_⟩:=h;exact ad.addr
theorem dD.get{α:Type}{J:aj}{e:TypeId}{sz n c:Nat}{b:Option Addr}{R:α->List Value->Prop}{xs:List α}(h:dD J e sz R (.slice b n c) xs):n=xs.length/\(0<xs.length->∃a off cells bD,b=some ⟨a,off,none⟩/\J a=some (cells,bD)/\
 ∀(i:Nat) (x:α),xs[i]?=some x->∃cs,takeN sz (pY (off+((i:Nat):Int).toNat*sz) cells)=some cs/\R x cs):=by
 obtain⟨cs,ad,ae⟩:=h;have aE:n=xs.length:=by
  obtain⟨b',c',aD,_⟩:=ad.inv;injection aD
 refine⟨aE,fun ZR=>?_⟩;generalize hk:xs.length=k at ad;cases ad with
 |nil=>omega
 |jH=>omega
 |zK=>omega
 |@row a off len cap cells cs bD aW aT bo cu fm=>
  refine⟨a,off,cells,bD,rfl,aW,fun i x aa=>⟨_,?_,ae i x aa⟩⟩;have ak:i<xs.length:=(ff.1 aa).1;rw[<-hk] at aT bo;have hle:i*sz+sz<=xs.length*sz:=by rw[<-o2];exact fq _ ak
  have aC:xs.length*sz<=(cells.drop off).length:=by
   have:((cells.drop off).take (xs.length*sz)).length=xs.length*sz:=by rw[aT];exact bo
   rw[eA] at this;omega
  rw[jZ] at aC;rw[xO,y5 (by rw[jZ];simp;omega),<-aT];congr 1
  rw[KK,zk,su,g6 (by omega)];simp
open Classical
section
variable {K:dR}
end
section
variable {K:dR}{B:dv}{o:Oper}{n:Nat}{ds:ee}{l:List (Nat×Value)}{m m':aN}{J:aj}{fk:ca->aN->aj->Prop}{d:Nat}{cw:Exit->ca->aN->aj->Prop}
end
end
end Go.Opn
