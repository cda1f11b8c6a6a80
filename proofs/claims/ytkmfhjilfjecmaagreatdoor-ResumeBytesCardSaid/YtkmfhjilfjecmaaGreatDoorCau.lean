/- A part of the proof of ResumeBytes. -/
import Derived.Test.YtkmfhjilfjecmaaGreatDoorCat
import Derived.ChangeArms
import Derived.DataReads
import Derived.Carry
import Derived.ChangeSame
import Derived.OpenShut
import Derived.Test.YtkmfhjilfjecmaaGreatDoorProg
import Derived.KernelRfl
set_option linter.unusedVariables false
set_option linter.unusedSimpArgs false
namespace Go.Opn
noncomputable section
open Go.Cre Go.RowKit
open Classical
def rowOf (w:World)(g:Nat):Option (List Value×TypeId):=match w.heap[g]? with
 |some (.cells c e _)=>some (c.toList,e)
 |_=>none
theorem Y5{w:World}{g:Nat}{cs:List Value}{e:TypeId}(h:rowOf w g=some (cs,e)):∃c f,w.heap[g]?=some (.cells c e f)/\c.toList=cs:=by
 unfold rowOf at h;split at h
 ·rename_i c bz f aC;injection h with h;injection h with aa ae
  subst aa;subst ae;exact⟨c,f,aC,rfl⟩
 ·cases h
theorem Y6{w:World}{g:Nat}{c:Array Value}{e:TypeId}{f:Nat×Nat}(h:w.heap[g]?=some (.cells c e f)):rowOf w g=some (c.toList,e):=by
 unfold rowOf;rw[h]
def rV (P:Program)(w:World):bY:=fun g=>match rowOf w g with
 |some (cs,e)=>some ⟨g,cs.length,P.cellsOf e⟩
 |none=>none
theorem Iy{P:Program}{w:World}{g:Nat}{L:Cre.Loc}(h:rV P w g=some L):∃cs e,rowOf w g=some (cs,e)/\L=⟨g,cs.length,P.cellsOf e⟩:=by
 unfold rV at h;cases aw:rowOf w g with
 |none=>rw[aw] at h;cases h
 |some x=>obtain⟨cs,e⟩:=x;rw[aw] at h;injection h with h;exact⟨cs,e,rfl,h.symm⟩
theorem XQ{P:Program}{w:World}{g:Nat}(h:(rowOf w g).isSome):∃L,rV P w g=some L/\L.r=g:=by
 obtain⟨⟨cs,e⟩,U⟩:=Option.isSome_iff_exists.1 h;unfold rV;rw[U];exact⟨_,rfl,rfl⟩
theorem S4{μ:bY}:∀(n:Nat) (v:Value),SizeOf.sizeOf v<=n->∃v0,bB μ v0 v:=by
 intro n;induction n with
 |zero=>intro v h;cases v<;>simp at h
 |succ n aI=>
  intro v h;have arr:∀cs:Array Value,SizeOf.sizeOf cs<=n->∃bT:Array Value,bT.size=cs.size/\∀(i:Nat) v v',bT[i]?=some v->cs[i]?=some v'->bB μ v v':=fun cs hs=>by
   have key:∀i:Fin cs.size,∃v0,bB μ v0 cs[i]:=fun i=>aI _ (by have:=Array.sizeOf_getElem cs i.1 i.2;have e:cs[i]=cs[i.1]:=rfl;rw[e];omega);refine⟨Array.ofFn fun i=>Classical.choose (key i),by simp,fun i v v' aa ae=>?_⟩;rw[Array.getElem?_ofFn] at aa;split at aa
   ·rename_i ao;injection aa with aa;subst aa
    rw[CT ao] at ae;injection ae with ae;subst ae
    exact aaS (key ⟨i,ao⟩)
   ·cases aa
  by_cases ar:eM v=true
  ·exact⟨_,.yr v ar⟩
  ·cases v with
   |agg cs=>
    obtain⟨bT,aa,ae⟩:=arr cs (by simp at h;omega);exact⟨_,.agg bT cs aa ae⟩
   |tuple cs=>
    obtain⟨bT,aa,ae⟩:=arr cs (by simp at h;omega);exact⟨_,.tuple bT cs aa ae⟩
   |_=>exact absurd rfl ar
def mT (P:Program)(w:World)(v:Value):Value:=match v with
 |.pointer (some ⟨r,off,none⟩)=>if(rowOf w r).isSome then v else .chan none
 |.slice (some a) len cap=>if a.spot=none/\(rowOf w a.block).isSome/\cap<cZ then v else if len=0/\cap=0 then .slice (some ⟨0,0,some 0⟩) 0 0 else .chan none
 |v=>if isAtom v=true then v else Classical.choose (S4 (μ:=rV P w) (SizeOf.sizeOf v) v (cW _))
theorem J0{P:Program}{w:World}{v:Value}(h:isAtom v=true):mT P w v=v:=by
 unfold mT;split
 ·simp[isAtom] at h
 ·simp[isAtom] at h
 ·rw[aE h]
theorem AG{P:Program}{w:World}(v:Value):bB (rV P w) (mT P w v) v:=by
 unfold mT;split
 ·rename_i r off;split
  ·rename_i q;obtain⟨L,aa,ae⟩:=XQ (P:=P) q;have:=bB.ptr r off L aa;rwa [ae] at this
  ·exact .yr _ rfl
 ·rename_i a len cap;split
  ·rename_i q;obtain⟨r,off,sp⟩:=a;obtain⟨np,bb,a7⟩:=q;have np:sp=none:=np;subst np;obtain⟨L,aa,ae⟩:=XQ (P:=P) bb;have ae:L.r=r:=ae;have:=bB.nU r off len cap L aa a7;rwa [ae] at this
  ·split
   ·rename_i q;obtain⟨rfl,rfl⟩:=q;exact .yk a
   ·exact .yr _ rfl
 ·split
  ·exact .atom _ (by assumption)
  ·exact aaS (S4 (μ:=rV P w) (SizeOf.sizeOf v) v (cW _))
def wu (P:Program)(w:World)(g:Nat):Option (List Value×TypeId):=match rowOf w g with
 |some (cs,e)=>some (cs.map (mT P w),e)
 |none=>none
theorem Y3{P:Program}{w:World}{g:Nat}{cs:List Value}{e:TypeId}(h:wu P w g=some (cs,e)):∃c,rowOf w g=some (c,e)/\cs=c.map (mT P w):=by
 unfold wu at h;split at h
 ·rename_i c bz q;injection h with h;injection h with aa ae
  subst aa;subst ae;exact⟨c,q,rfl⟩
 ·cases h
theorem Ro{P:Program}{w:World}{g:Nat}{cs:List Value}{e:TypeId}(h:rowOf w g=some (cs,e)):wu P w g=some (cs.map (mT P w),e):=by
 unfold wu;rw[h]
def Dg (P:Program)(w:World)(g:Nat):fg:=match wu P w g with
 |some (cs,e)=>.row cs e false 0 cs.length true
 |none=>.dead
def B0 (P:Program)(w:World):bg fg:=match yn ((List.range w.heap.size).map (Dg P w)) 0 .leaf with|some t=>t|none=>.leaf
theorem Lz{P:Program}{w:World}(g:Nat):(B0 P w).get g=if g<w.heap.size then some (Dg P w g) else none:=by
 obtain⟨T,dn⟩:=ZW ((List.range w.heap.size).map (Dg P w)) 0 .leaf (fun k aO=>absurd aO (by omega));unfold B0;rw[dn];simp only
 rw[RO dn];simp only[cy,true_and,lB,List.length_range,lC,Az];split
 ·rename_i h;rw[oF,FJ h];rfl
 ·rfl
def xQ (P:Program)(w:World):aA:=⟨B0 P w,w.heap.size,.leaf,0,w.heap.size⟩
theorem Y4{P:Program}{w:World}{g:Nat}{x:List Value×TypeId}(h:wu P w g=some x):g<w.heap.size:=by
 obtain⟨cs,e⟩:=x;obtain⟨c,aa,_⟩:=Y3 h;obtain⟨cd,f,ae,_⟩:=Y5 aa;exact(Sk.1 ae).1
theorem Wt{P:Program}{w:World}{g:Nat}{cs:List Value}{e:TypeId}(h:wu P w g=some (cs,e)):(xQ P w).mem.get g=some (.row cs e false 0 cs.length true):=by
 show(B0 P w).get g=_;rw[Lz,aE (Y4 h)];unfold Dg;rw[h]
theorem Ws{P:Program}{w:World}{g:Nat}{b:fg}(h:(xQ P w).mem.get g=some b):g<w.heap.size/\(b=.dead\/∃cs e,wu P w g=some (cs,e)/\b=.row cs e false 0 cs.length true):=by
 have h:(B0 P w).get g=some b:=h;rw[Lz] at h;split at h
 ·rename_i aq;refine⟨aq,?_⟩;injection h with h
  unfold Dg at h;cases aw:wu P w g with
  |none=>rw[aw] at h;exact .inl h.symm
  |some x=>obtain⟨cs,e⟩:=x;rw[aw] at h;exact .inr ⟨cs,e,rfl,h.symm⟩
 ·cases h
theorem afr(P:Program)(w:World):b9 P (fun k=>k<w.heap.size) w (rV P w) (xQ P w) w:=by
 have mlt:∀x L,rV P w x=some L->x<w.heap.size:=fun x L U=>by
  obtain⟨cs,e,aa,_⟩:=Iy U;exact Y4 (Ro (P:=P) aa)
 refine⟨Kept.refl _ _,fun _ aO=>aO,?_,?_,mlt,?_,?_,?_,cW _,?_,?_,?_⟩
 ·intro g L q;obtain⟨c,e,ae,rfl⟩:=Iy q;obtain⟨cd,f,aF,rfl⟩:=Y5 ae;refine⟨_,_,Wt (Ro ae),aF,rfl,by simp,rfl,by simp,fun _=>by simp,fun i v v' x y=>?_,⟨fun off ar _ _=>by simpa using ar,fun q=>by cases q⟩⟩;rw[oF] at x;have iQ:cd.toList[i]?=some v':=by simpa using y
  rw[iQ] at x;injection x with x;subst x
  exact AG v'
 ·intro x y eN gv eZ U ai aw;obtain⟨_,_,_,rfl⟩:=Iy U;obtain⟨_,_,_,rfl⟩:=Iy ai;exact absurd aw eZ
 ·intro x L U _;obtain⟨_,_,_,rfl⟩:=Iy U;rfl
 ·intro x L U aq _;have:=mlt x L U;have aq:w.heap.size<=x:=aq;omega
 ·intro g c e o f z s _ hm;obtain⟨aq,q⟩:=Ws hm;rcases q with q|⟨cs,bz,bb,a7⟩
  ·cases q
  ·obtain⟨dS,aa,_⟩:=Y3 bb;refine⟨⟨g,dS.length,P.cellsOf bz⟩,?_⟩;unfold rV;rw[aa]
 ·intro x c e f z s hm;obtain⟨_,q⟩:=Ws hm;rcases q with q|⟨_,_,_,q⟩<;>cases q
 ·intro f l x av;cases av
 ·intro f l av;cases av
def x1 (P:Program)(w:World):aH:=wu P w
theorem aks(P:Program)(w:World):Inv w.heap.size (lo [] (xQ P w) (x1 P w)) (x1 P w) [] (xQ P w):=by
 refine⟨⟨fun a a1=>?_,fun a a1=>?_,fun f aD=>absurd aD (Nat.not_lt_zero _),fun f _=>rfl,cW _⟩,rfl,cW _,cW _,fun _ _ _=>rfl,fun _ _=>rfl,fun a c e h=>?_,aH.le.refl _,fun a x aa ae=>?_,fun a b h=>(by cases h),(fun a b h=>by cases h),List.nodup_nil⟩
 ·refine⟨Dg P w a,?_⟩;show(B0 P w).get a=_;rw[Lz,aE (show a<w.heap.size from a1)]
 ·show(B0 P w).get a=none;rw[Lz,an (by have a1:w.heap.size<=a:=a1;omega)]
 ·exact⟨_,_,_,_,Wt h⟩
 ·rw[show x1 P w a=none from aa] at ae;cases ae
section
variable {K:eE}
theorem amj{w:World}{f:FuncId}{fn:Func}{c:Code}{args:List Value}{cz:Array Value}{b:Bool}(fU:K.Q.ok (fun k=>k<w.heap.size) w)(aq:K.g0=w.heap.size)(aD:K.P.funcs[f]?=some fn)(ap:fn.body=some c)(av:b0 (rV K.P w) args cz.toList)(fJ:Fn K f args [] (x1 K.P w) (fun v m J=>v=.bool b)):
 Calls K.P f cz w fun e br=>e=.returned (.bool b)/\Below w.heap.size w br:=by
 have aJ:Inv K.g0 (lo [] (xQ K.P w) (x1 K.P w)) (x1 K.P w) [] (xQ K.P w):=by rw[aq];exact aks K.P w
 obtain⟨v,H',af,m',aa,ae,rfl⟩:=fJ (xQ K.P w) aJ;have hs:=aa _ w fU f args (xQ K.P w) (.returned (.bool b)) H' (by unfold k8;rw[aE ⟨rfl,rfl,rfl⟩]) (rV K.P w) w cz.toList (afr K.P w) av;rcases hs with⟨v,v',br,bD,_,q,_⟩|⟨_,q⟩
 ·rw[DL aD ap (K.dt.num f fn aD (by rw[ap];rfl))] at q;cases q
 ·refine Calls.mono q fun bz br c8=>?_;obtain⟨bD,g1,g2,g3⟩:=c8;cases bz with
  |returned v'=>
   have ay:bB bD (.bool b) v':=g3;rw[ay.Gb];exact⟨rfl,g1.below.below⟩
  |panicked c=>exact g3.elim
  |outgrown=>exact g3.elim
theorem Fn.closed{H0:aA}{f:FuncId}{fn:Func}{c:Code}{v:Value}{J:aH}(au:plain v=true)(aD:K.P.funcs[f]?=some fn)(ap:fn.body=some c)(dq:∀B w,K.Q.ok B w->Laid K.P w H0/\JD H0 B)
 (aC:∀w,Laid K.P w H0->Calls K.P f #[] w fun e br=>e=.returned v/\Below w.heap.size w br):Fn K f [] [] J (fun u m' af=>u=v/\m'=[]/\af=J):=by
 intro H aJ;refine⟨v,H,J,[],fun B w0 fU=>?_,aJ,rfl,rfl,rfl⟩;obtain⟨lO,dd⟩:=dq B w0 fU;intro cP cz H' e pi he μ w abF h av;unfold k8 at he;split at he
 ·rename_i q;obtain⟨rfl,rfl,rfl⟩:=q;simp only[cp,dB] at he;obtain⟨rfl,rfl⟩:=he;obtain rfl:=av.lm;refine .inr ⟨DL aD ap (K.dt.num cP fn aD (by rw[ap];rfl)) _ w,?_⟩;refine Calls.mono (aC w (lO.eC dd h.below)) fun bz br ⟨oY,tX⟩=>?_;subst oY;exact⟨μ,h.grow tX,Step.refl _ _,qG au⟩
 ·cases he
def Js(P:Program)(H0:aA):dD P where
 ok B w:=Laid P w H0/\JD H0 B
 up B w0 h4 iI h dd aO:=⟨h.1.eC h.2 aO,fun g b aq ap=>dd g (h.2 g b aq ap)⟩
end
theorem aal{b:Option Addr}(h:addrEq b b=true)(l c n:Nat):j3 (n+1) (.slice b l c) (.slice b l c)=true:=by
 show(addrEq b b&&Nat.beq l l&&Nat.beq c c)=true;rw[hz,hz,h];rfl
theorem apF{n:Nat}:∀{l:List Value},(∀v∈l,j3 n v v=true)->j3 (n+1) (.agg l.toArray) (.agg l.toArray)=true:=by
 intro l h;show vb (j3 n) l l=true;induction l with
 |nil=>rfl
 |cons a l aI=>
  show(j3 n a a&&vb (j3 n) l l)=true;rw[h a (.head _),aI (fun v ay=>h v (.tail _ ay))];rfl
theorem apI{n:Nat}:∀v∈([]:List Value),j3 n v v=true:=fun v ay=>by cases ay
theorem apH{n:Nat}{a:Value}{l:List Value}(h:j3 n a a=true)(av:∀v∈l,j3 n v v=true):∀v∈a::l,j3 n v v=true:=fun v ay=>by
 rcases e3.1 ay with rfl|q
 ·exact h
 ·exact av v q
section
variable {K:eE}{B:dV}{o:Oper}{n:Nat}{ds:e7}{l:List (Nat×Value)}{m m':aN}{J:aH}{ey:cf->aN->aH->Prop}{d:Nat}{cX:Exit->cf->aN->aH->Prop}
theorem ab.gN{c:Code}{E:cf}(au:m'.Perm m)(h:ab K B c E m' J cX):ab K B c E m J cX:=fun S H ax aJ=>h S H ax (aJ.perm au.symm)
theorem mR.perm{g0 sz k:Nat}{v:Value}{cs:List Value}(au:m.Perm m')(h:mR g0 B J m sz v k cs):mR g0 B J m' sz v k cs:=fun H aJ=>h H (aJ.perm au.symm)
theorem EZ{α:Type}{x:α}{aY r:List α}:(x::(aY++r)).Perm (aY++x::r):=List.perm_middle.symm
theorem LX{α:Type}{x y:α}{aY r:List α}:(x::y::(aY++r)).Perm (aY++x::y::r):=(EZ.cons x).trans EZ
theorem Rf{α:Type}{x y z:α}{aY r:List α}:(x::y::z::(aY++r)).Perm (aY++x::y::z::r):=(LX.cons x).trans EZ
theorem mR.own{g0:Nat}{e:TypeId}{sz k c a:Nat}{cells:List Value}(hm:(a,cC.row cells e)∈m)(av:cells.length=k*sz):mR g0 B J m sz (.slice (some ⟨a,0,none⟩) k c) k cells:=by
 intro H aJ;refine⟨rfl,?_⟩;have g:=(aJ.own _ _ hm).1;have g:H.mem.get a=some (.row cells e false 0 0 false):=g;unfold js;cases k with
 |zero=>
  simp only
  rw[JR] at av;rw[yA av]
 |succ k=>
  simp only[g];rw[tJ,mr,wA (by omega),eo (by omega)]
theorem kk{c:Call}{t hx e:TypeId}{sz k j:Nat}{gi cells new:List Value}{v x:Value}{aY m0:aN}{hn:TypeDesc}(ar:o.op=.call c)(aC:c.callee=.builtin .append)(aV:o.dst=some d)(aP:Nat.blt d n=true)(a1:hY l c.args.toList=some [v,x])(o6:c.argTypes.toList=[t,hx])(aB:j2 K.P t=some (e,sz,gi))(jO:K.P.underlying hx=some hn)(vW:∀i,hn≠.int i)
 (ay:Acc e sz v k cells aY)(hm:m.Perm (aY++m0))(U:mR K.g0 B J m sz x j new)(cr:new.length=j*sz)(ca:new.all eM=true)(av:k+j<=1000000)
 (h:∀w hF,Acc e sz w (k+j) (cells++new) hF->ey ⟨n,ds,(d,w)::l⟩ (hF++m0) J):hq K B o ⟨n,ds,l⟩ m J ey:=fun S H ax aJ=>
 aqc ar aC aV aP a1 o6 aB jO vW ay rfl (U.perm hm) cr ca av h S H ax (aJ.perm hm)
theorem Acc.hQ{c:Code}{e:TypeId}{sz k:Nat}{v:Value}{cells:List Value}{aY m0:aN}{E:cf}(h:Acc e sz v k cells aY)(hm:m.Perm (aY++m0))(aO:∀af,J.le af->hL af e sz v k cells->ab K B c E m0 af cX):ab K B c E m J cX:=
 ab.gN hm.symm (h.fw rfl aO)
end
section
variable {K:eE}{B:dV}{o:Oper}{n:Nat}{ds:e7}{l:List (Nat×Value)}{m m':aN}{J:aH}{ey:cf->aN->aH->Prop}{d:Nat}
theorem Acc.iN{e:TypeId}{sz k:Nat}{v:Value}{cells:List Value}{aY:aN}(h:Acc e sz v k cells aY):∃b c,v=.slice b k c/\addrEq b b=true:=by
 cases h with
 |nil=>exact⟨_,_,rfl,rfl⟩
 |kt a=>exact⟨_,_,rfl,by simp[addrEq]⟩
 |opn h=>exact⟨_,_,rfl,by simp[addrEq]⟩
 |cap=>exact⟨_,_,rfl,by simp[addrEq]⟩
end
end
end Go.Opn
namespace Go.Opn
noncomputable section
open Go.Cre Go.RowKit Go.ChangeShapes
theorem S5{b off i:Nat}{sp:Option Nat}(h:sp=none):(⟨b,off,sp⟩:Addr).add i=⟨b,off+i,none⟩:=by
 subst h;unfold Addr.add;split
 ·rename_i q;subst q;rfl
 ·rfl
theorem Nw{W:World}{base k:Nat}{a:Addr}{cs:List Value}(h:W.cells? base a k=some cs)(aO:0<k):∃c e f,W.heap[a.block]?=some (.cells c e f)/\a.spot=none/\cs.length=k/\∀j,j<k->c[a.off+j]?=cs[j]?:=by
 obtain⟨_,ae,aF⟩:=World.cells?_some h;obtain⟨b,off,sp⟩:=a;have bw:=aF 0 aO;have ib:∃v,cs[0]?=some v:=⟨cs[0]'(by omega),dj _⟩;obtain⟨v0,Le⟩:=ib;have iL:(⟨b,off,sp⟩:Addr).add 0=⟨b,off,sp⟩:=rfl;rw[iL,Le] at bw;unfold World.cell? at bw;cases dZ:W.heap[b]? with
 |none=>rw[show(⟨b,off,sp⟩:Addr).block=b from rfl,dZ] at bw;cases bw
 |some o=>
  rw[show(⟨b,off,sp⟩:Addr).block=b from rfl,dZ] at bw;cases o with
  |cells c e f=>
   simp only at bw;cases sp with
   |some s=>simp at bw
   |none=>
    refine⟨c,e,f,by first|rfl|exact dZ,rfl,ae,fun j a'=>?_⟩;have:=aF j a';rw[S5 rfl] at this;unfold World.cell? at this;rw[show(⟨b,off+j,none⟩:Addr).block=b from rfl,dZ] at this;simpa using this
  |_=>cases bw
section
variable {H:Type}{enc:TypeId×Value->H}{P:Program}{W:World}{fuel:Nat}{t e:TypeId}{cs:List Value}{x:DataW H×List MemPlace}
abbrev CD(enc:TypeId×Value->H)(P:Program)(W:World):=DataW.trod enc P W 0 (fun _=>true) true
theorem Zy{sz:Nat}(aB:P.underlying t=some (.slice e))(eV:P.cellsOf e=sz)(bw:0<sz)(h:CD enc P W fuel t cs=some x):
 ∃(b:Option Addr) (n c:Nat) (rows:List Value) (el:List (List Value)) (ds:List (DataW H×List MemPlace)) (m:Nat),cs.map (mT P W)=[.slice b n c]/\cs.length=1/\(∀bz,hL (x1 P W) bz sz (.slice b n c) n (rows.map (mT P W)))/\el.length=n/\ds.length=n/\
  (∀i cS,el[i]?=some cS->cS.length=sz/\(rows.drop (i*sz)).take sz=cS/\∃y,ds[i]?=some y/\CD enc P W m e cS=some y)/\
  (∀y∈ds,∀z∈y.1.weights P e,z∈x.1.weights P t)/\n<=maxLen:=by
 rcases DataW.trod_slice aB h with⟨rfl,rfl⟩|⟨a,len,cap,sA,rest,n,rfl,rfl,rfl,aa,ae,aF,bo,eB,ht,lI⟩
 ·exact⟨none,0,0,[],[],[],0,by rw[nz,J0 rfl];rfl,rfl,fun bz=>.nil,rfl,rfl,(fun i cS q=>by simp at q),(fun y ai=>by cases ai),cy _⟩
 ·have qj:cap<cZ:=wN aF (by unfold maxLen cZ;decide);have hw:∀y∈sA,∀z∈y.1.weights P e,z∈(DataW.slice (sA.map (·.1)) (rest.map (·.1)):DataW H).weights P t:=fun y ai z bE=>by
   rw[DataW.weights,aB];refine aa6 _ (nX _ ?_);have:∀l:List (DataW H×List MemPlace),y∈l->z∈DataW.weightsAll P e (l.map (·.1)):=fun l=>by
    induction l with
    |nil=>intro q;cases q
    |cons d r aI=>
     intro q;rw[nz,DataW.weightsAll];rcases e3.1 q with rfl|q
     ·exact nX _ bE
     ·exact hT _ (aI q)
   exact this sA ai
  have kw:∀i,i<len->∃cS y,W.cells? 0 (a.add (i*sz)) sz=some cS/\sA[i]?=some y/\CD enc P W n e cS=some y:=fun i ao=>by
   have Ou:=eB i ao;rw[eV] at Ou;have hi':i<sA.length:=by omega
   rw[dj hi'] at Ou;obtain⟨cS,bb,a7⟩:=aba.1 Ou;exact⟨cS,_,bb,dj hi',a7⟩
  by_cases av:len=0
  ·subst av;have ahV:sA=[]:=q5.1 bo;subst ahV;by_cases aw:a.spot=none/\(rowOf W a.block).isSome
   ·refine⟨some a,0,cap,[],[],[],n,?_,rfl,fun bz=>?_,rfl,rfl,(fun i cS q=>by simp at q),hw,cy _⟩
    ·show[mT P W _]=_;unfold mT;simp only;rw[aE ⟨aw.1,aw.2,qj⟩]
    ·obtain⟨b,off,sp⟩:=a;obtain⟨rfl,_⟩:=aw;exact .kt _ _ _ qj
   ·have ib:cap=0:=by
     apply qW;intro aC
     obtain⟨cO,ed⟩:=ht rfl;have a':=ed 0 (by omega);rw[eV] at a';have agQ:0<rest.length:=by omega
     rw[dj agQ] at a';obtain⟨cS,bb,a7⟩:=aba.1 a';have iL:a.add ((0+0)*sz)=a:=by simp[Addr.add]
     rw[iL] at bb;obtain⟨c,bz,f,g1,g2,_⟩:=Nw bb bw;exact aw ⟨g2,by rw[Y6 g1];rfl⟩
    subst ib;refine⟨some ⟨0,0,some 0⟩,0,0,[],[],[],n,?_,rfl,fun bz=>.y6,rfl,rfl,(fun i cS q=>by simp at q),hw,cy _⟩;show[mT P W _]=_;unfold mT;simp only;rw[an (fun q=>aw ⟨q.1,q.2.1⟩),aE (by simp)]
  ·obtain⟨jo,aaD,bb,a7,b8⟩:=kw 0 (by omega);have iL:a.add (0*sz)=a:=by simp[Addr.add]
   rw[iL] at bb;obtain⟨c,bz,f,g1,g2,g3,g4⟩:=Nw bb bw;obtain⟨b,off,sp⟩:=a;have g2:sp=none:=g2;subst g2;have g1:W.heap[b]?=some (.cells c bz f):=g1;have fV:=Y6 g1;have KR:∀i,i<len->∃cS y,sA[i]?=some y/\CD enc P W n e cS=some y/\cS.length=sz/\∀j,j<sz->c.toList[off+(i*sz+j)]?=cS[j]?:=fun i ao=>by
    obtain⟨cS,y,bl,bp,bQ⟩:=kw i ao;rw[S5 rfl] at bl;obtain⟨cd,UD,cP,m1,_,m3,m4⟩:=Nw bl bw;have m1:W.heap[b]?=some (.cells cd UD cP):=m1;rw[g1] at m1;injection m1 with m1;injection m1 with m1 _ _
    subst m1;exact⟨cS,y,bp,bQ,m3,fun j a'=>by have:=m4 j a';rw[show off+(i*sz+j)=off+i*sz+j by omega];simpa using this⟩
   have hlen:off+len*sz<=c.toList.length:=by
    obtain⟨cS,y,_,_,bQ,cU⟩:=KR (len -1) (by omega);have:=cU (sz -1) (by omega);rw[dj (show sz -1<cS.length by omega)] at this;have ass:off+((len -1)*sz+(sz -1))<c.toList.length:=by
     rcases ji (off+((len -1)*sz+(sz -1))) c.toList.length with q|q
     ·exact q
     ·rw[fo q] at this;cases this
    have:len*sz=(len -1)*sz+sz:=by
     rw[<-po];congr 1;omega
    omega
   refine⟨some ⟨b,off,none⟩,len,cap,(c.toList.drop off).take (len*sz),(List.range len).map fun i=>(c.toList.drop (off+i*sz)).take sz,sA,n,?_,rfl,fun UD=>?_,by simp,bo,fun i cS ao=>?_,hw,p7 ae aF⟩
   ·show[mT P W _]=_;unfold mT;simp only;rw[aE (by simp only[true_and];exact⟨by rw[fV];rfl,qj⟩)]
   ·refine .row (Ro fV) (by rw[<-List.map_drop,<-List.map_take]) ?_ (fun _=>⟨ae,qj⟩) (fun q=>by omega);rw[lB,iu,ms];omega
   ·rw[oF] at ao;have mE:i<len:=by
     rcases ji i len with q|q
     ·exact q
     ·rw[fo (by simpa using q)] at ao;cases ao
    rw[FJ mE] at ao;simp only[FN,cp] at ao;obtain⟨Kl,y,bl,bp,bQ,cU⟩:=KR i mE;have hle:i*sz+sz<=len*sz:=by rw[<-po];exact nB _ mE
    have gU:(c.toList.drop (off+i*sz)).take sz=Kl:=by
     refine lA fun j=>?_;rw[kK];split
     ·rename_i a';rw[q4,<-cU j a'];congr 1;omega
     ·rw[fo (by omega)]
    rw[gU] at ao;subst ao;refine⟨bQ,?_,y,bl,bp⟩;rw[<-gU,FH,yz,yC,mu (by omega)]
theorem akr(aB:P.underlying t=some (.slice e))(he:P.underlying e=some (.int .i64))(eV:P.cellsOf e=1)(h:CD enc P W fuel t cs=some x):
 ∃(l:List Int) (b:Option Addr) (c:Nat),cs.map (mT P W)=[.slice b l.length c]/\∀bz,hL (x1 P W) bz 1 (.slice b l.length c) l.length (l.map (Value.int .i64)):=by
 obtain⟨b,n,c,rows,el,ds,m,aa,ae,aF,bo,eB,ht,_,_⟩:=Zy aB eV (by omega) h;have hlen:rows.length=n:=by have:=(aF 0).len;simpa using this
 have hint:∀v∈rows,∃i:Int,v=.int .i64 i:=fun v ay=>by
  obtain⟨j,a'⟩:=List.getElem?_of_mem ay;have atc:j<n:=by have:=(dY.1 a').1;omega
  obtain⟨bb,a7,y,b8,fl⟩:=ht j _ (dj (show j<el.length by omega));obtain⟨i,cO,_⟩:=DataW.trod_int he fl;rw[cO] at a7;rw[yE] at a7;have:((rows.drop j).take 1)[0]?=some v:=by rw[kK,aE (by omega),q4,tn];exact a'
  rw[a7] at this;injection this with this
  exact⟨i,this.symm⟩
 have av:∃l:List Int,rows=l.map (Value.int .i64):=by
  clear aF ht hlen
  induction rows with
  |nil=>exact⟨[],rfl⟩
  |cons v r aI=>
   obtain⟨i,ao⟩:=hint v (.head _);obtain⟨l,av⟩:=aI (fun v ay=>hint v (.tail _ ay));exact⟨i::l,by rw[ao,av];rfl⟩
 obtain⟨l,rfl⟩:=av;have hE:n=l.length:=by simpa using hlen.symm
 subst hE;refine⟨l,b,c,aa,fun bz=>?_⟩;have:=aF bz;have aL:(l.map (Value.int .i64)).map (mT P W)=l.map (Value.int .i64):=by
  rw[List.map_map];exact List.map_congr_left fun i _=>J0 rfl
 rwa [aL] at this
theorem Lk(aB:P.underlying t=some (.int .i64))(h:CD enc P W fuel t cs=some x):∃i:Int,cs=[.int .i64 i]/\cs.map (mT P W)=[.int .i64 i]:=by
 obtain⟨i,rfl,_⟩:=DataW.trod_int aB h;exact⟨i,rfl,by rw[nz,J0 rfl];rfl⟩
end
end
end Go.Opn
namespace Go.Opn
noncomputable section
open Go.Cre Go.RowKit Go.ChangeShapes Go.WideShapes
def wc {α:Type}:List (Nat×α)->Nat->Option α
 |[],_=>none
 |(u,v)::l,t=>bif Nat.beq t u then some v else wc l t
def EJ:Nat->List Nat->Bool
 |_,[]=>false
 |t,u::l=>bif Nat.beq t u then true else EJ t l
theorem ZY{H:Type}{enc:TypeId×Value->H}{P:Program}{W tt:World}(av:laidOutB P=true)(ap:Below W.heap.size W tt){sp:Nat->Bool}:
 ∀{hh:List TypeId} {vs:List Value} {ds:List (DataW H)} {ew:List MemPlace},(∀t∈hh,P.readableRec t=true/\t<P.types.size)->DataW.TrodAll enc P W 0 (fun _=>true) true hh vs ds ew->(∀p∈ew,p.block<W.heap.size)->(∀p∈ew,sp p.block=true)->DataW.TrodAll enc P tt 0 sp true hh vs ds ew
 |[],_,_,_,_,h,_,_=>by
  obtain⟨rfl,rfl,rfl⟩:=trodAll_nil h;rfl
 |t::hh,_,_,_,aw,h,cV,hs=>by
  obtain⟨v,apK,d,vr,a,b,rfl,rfl,rfl,aa,ae⟩:=trodAll_cons h
  exact⟨a,b,WideElems.Trod_stays av (aw t (.head _)).1 (aw t (.head _)).2 aa (fun x U=>ap.same (cV x (nX _ U))) (fun x U=>hs x (nX _ U)),
   ZY av ap (fun u hu=>aw u (.tail _ hu)) ae (fun p au=>cV p (hT _ au)) (fun p au=>hs p (hT _ au)),rfl⟩
theorem amZ{H:Type}{enc:TypeId×Value->H}{P:Program}{f:Func}{s:ChangeSpec}{apart fresh handsOn:Bool}{W tt:World}{args:Array Value}{v:Value}{ds gs:List (DataW H)}{before:List MemPlace}
 (jM:DataW.Whole enc P f.params.toList s.vars apart W args.toList ds gs before)(ap:Below W.heap.size W tt)(av:laidOutB P=true)(P1:∀t∈f.params.toList,P.readableRec t=true/\t<P.types.size)(ay:s.vars=[])
 (sK:(s.fn H (ds++gs)).args=ds)(H3:(s.fn H (ds++gs)).vars=[])
 (P2:∀(b:Nat) (sp:Nat->Bool) (aV:Bool),DataW.TrodAll enc P tt b sp aV f.resultTypes.toList (v.resultList f.resultTypes.size) (s.fn H (ds++gs)).results []):
 s.post enc P f apart fresh handsOn false W args v tt:=by
 have cV:=jM.lt;obtain⟨p,q,aa,ae,rfl,aF,bo⟩:=id jM;have zl:∀x∈p,x.block<W.heap.size:=fun x U=>cV x (nX _ U);refine⟨ds,gs,p++q,[],p,[],jM,P2 _ _ _,?_,?_,World.keptBut_mono (fun p au=>by cases au) (ap.frame fun p=>p∈([]:List MemPlace)),fun h=>by cases h⟩
 ·rw[sK];exact ZY av ap P1 aa zl (fun x U=>by simpa using zl x U)
 ·rw[ay,H3];rfl
end
end Go.Opn
set_option maxRecDepth 100000
namespace Go.Opn
noncomputable section
open Go.Cre Go.RowKit Go.Proofs
theorem rU:Tryz.prog.follows .mixedOrders=true:=by kernel_rfl
theorem num:QW Tryz.prog=true:=by kernel_rfl
abbrev k3:Program:=Tryz.prog
abbrev bd (Q:dD Tryz.prog)(g0:Nat):eE:=⟨Tryz.prog,DU Tryz.prog,YE rU num,Q,g0⟩
section
variable (Q:dD k3)(g0:Nat)
def M7:List (Nat×Option Nat):=[(3,none),(4,none),(5,none),(9,none),(22,none),(24,none),(25,none),(27,some 3),(28,none),(30,some 4),(33,none),(36,none),(39,some 2),(47,some 6),(56,none),(65,some 2),(73,none),(77,some 2),(79,none),(82,none),(83,none),(88,some 3),(106,none),(136,some 4),(141,none),(144,some 2),(145,some 2),(151,none),(153,some 2),(159,none)]
theorem abo:M7.map (fun x=>sl k3 x.1)=M7.map (fun x=>some (id x.2)):=by kernel_rfl
def RM:List (Nat×Nat):=[(3,1),(4,1),(5,1),(22,1),(24,1),(25,1),(27,3),(28,1),(30,4),(36,1),(39,2),(47,6),(56,1),(65,2),(73,1),(77,2),(82,1),(83,1),(88,3),(136,4),(141,1),(144,2),(145,2),(153,2),(160,4)]
theorem aoL:RM.map (fun x=>ef k3 x.1)=RM.map (fun x=>some (id x.2)):=by kernel_rfl
def N':List (Nat×Nat):=[(2700,0),(2701,1),(2702,2),(3000,0),(3001,1),(3002,2),(3003,3),(3900,0),(4700,0),(4701,1),(4702,2),(4703,3),(4704,4),(4705,5),(5800,0),(5801,1),(6000,0),(6900,0),(6901,1),(7700,0),(7701,1),(8100,0),(8101,1),(8500,0),(8501,1),(8502,2),(8503,3),(8504,4),(8505,5),(8507,7),(8800,0),(8801,1),(8802,2),(13000,0),(13001,3),(13002,4),(13003,5),(13600,0),(13601,1),(13602,2),(13603,3),(15000,0),(15002,2),(15300,0),(15301,1)]
theorem afw:N'.map (fun x=>DR k3 (x.1 / 100) (x.1 % 100))=N'.map (fun x=>some (id x.2)):=by kernel_rfl
def Nc:List (Nat×(Nat×Nat×Nat)):=[(145,2,3,1),(160,4,159,1)]
theorem abD:Nc.map (fun x=>AI k3 x.1)=Nc.map (fun x=>some (id x.2)):=by kernel_rfl
def N0:List (Nat×Nat):=[(22,1),(24,6),(25,2),(28,1),(36,1),(82,3),(83,4),(119,1),(141,2),(163,4)]
theorem aeG:N0.map (fun x=>DJ k3 x.1)=N0.map (fun x=>some (id x.2)):=by kernel_rfl
def NN:List (Nat×IntKind):=[(50003,.i64)]
theorem adE:NN.map (fun x=>isInt k3 (x.1 / 10000) (x.1 % 10000))=NN.map (fun x=>some (id x.2)):=by kernel_rfl
def Ni:List (Nat×(Sum (List (Nat×Nat)) Nat×List Value)):=[(30,.inl [(0,1),(1,1),(2,1),(3,1)],[(.int .i64 (0)),(.int .i64 (0)),(.slice none 0 0),(.slice none 0 0)]),(39,.inl [(0,1),(1,1)],[(.int .i64 (0)),(.int .i64 (0))]),(47,.inl [(0,1),(1,1),(2,1),(3,1),(4,1),(5,1)],[(.int .i64 (0)),(.int .i64 (0)),(.int .i64 (0)),(.slice none 0 0),(.slice none 0 0),(.slice none 0 0)]),(65,.inl [(0,1),(1,1)],[(.int .i64 (0)),(.int .i64 (0))]),(69,.inl [(0,1),(1,1)],[(.string ⟨⟨[]⟩⟩),(.int .i64 (0))]),(77,.inl [(0,1),(1,1)],[(.int .i64 (0)),(.int .i64 (0))]),(81,.inl [(0,1),(1,1)],[(.slice none 0 0),(.int .i64 (0))]),(85,.inl [(0,1),(1,1),(2,1),(3,1),(4,1),(5,1),(6,1),(7,3)],[(.pointer none),(.slice none 0 0),(.slice none 0 0),(.int .i64 (0)),(.int .i64 (0)),(.bool false),(.bool false),(.int .i64 (0)),(.slice none 0 0),(.slice none 0 0)]),(88,.inl [(0,1),(1,1),(2,1)],[(.int .i64 (0)),(.int .i64 (0)),(.int .i64 (0))]),(130,.inl [(0,3),(3,1),(4,1),(5,1)],[(.int .i64 (0)),(.slice none 0 0),(.slice none 0 0),(.slice none 0 0),(.slice none 0 0),(.slice none 0 0)]),(136,.inl [(0,1),(1,1),(2,1),(3,1)],[(.int .i64 (0)),(.int .i64 (0)),(.slice none 0 0),(.int .i64 (0))]),(144,.inl [(0,1),(1,1)],[(.int .i64 (0)),(.int .i64 (0))]),(145,.inr 1,[(.int .i64 (0)),(.int .i64 (0))]),(150,.inl [(0,1),(1,1),(2,1),(3,1)],[(.int .i64 (0)),(.int .i64 (0)),(.int .i64 (0)),(.int .i64 (0))]),(153,.inl [(0,1),(1,1)],[(.pointer none),.nilFunc]),(160,.inr 1,[.nilFunc,.nilFunc,.nilFunc,.nilFunc])]
theorem ab0:Ni.map (fun x=>Gg k3 x.1)=Ni.map (fun x=>some (id x.2)):=by kernel_rfl
def Xd:List Nat:=[22,24,25,28,36,82,83,113,141,163]
theorem isOk:Xd.all (fun t=>isSlice k3 t)=true:=by kernel_rfl
def Xf:List Nat:=[9]
theorem akA:Xf.all (fun t=>sW k3 t)=true:=by kernel_rfl
def XY:List Nat:=[9,65]
theorem alu:XY.all (fun t=>B9 k3 t)=true:=by kernel_rfl
theorem aaE:fy (bd Q g0).P 3=some (.int .i64 (0)):=by kernel_rfl
theorem aqz:fy (bd Q g0).P 4=some (.bool false):=by kernel_rfl
theorem MK:fy (bd Q g0).P 27=some (.agg #[(.int .i64 (0)),(.slice none 0 0),(.slice none 0 0)]):=by kernel_rfl
theorem kY:fy (bd Q g0).P 30=some (.agg #[(.int .i64 (0)),(.int .i64 (0)),(.slice none 0 0),(.slice none 0 0)]):=by kernel_rfl
theorem R9:fy (bd Q g0).P 39=some (.agg #[(.int .i64 (0)),(.int .i64 (0))]):=by kernel_rfl
theorem oB:fy (bd Q g0).P 47=some (.agg #[(.int .i64 (0)),(.int .i64 (0)),(.int .i64 (0)),(.slice none 0 0),(.slice none 0 0),(.slice none 0 0)]):=by kernel_rfl
theorem aqA:fy (bd Q g0).P 60=some (.agg #[(.pointer none),(.slice none 0 0)]):=by kernel_rfl
theorem aaF:fy (bd Q g0).P 65=some (.agg #[(.int .i64 (0)),(.int .i64 (0))]):=by kernel_rfl
theorem aqB:fy (bd Q g0).P 73=some (.int .i64 (0)):=by kernel_rfl
theorem aaG:fy (bd Q g0).P 77=some (.agg #[(.int .i64 (0)),(.int .i64 (0))]):=by kernel_rfl
theorem aqC:fy (bd Q g0).P 88=some (.agg #[(.int .i64 (0)),(.int .i64 (0)),(.int .i64 (0))]):=by kernel_rfl
theorem aqu:fy (bd Q g0).P 136=some (.agg #[(.int .i64 (0)),(.int .i64 (0)),(.slice none 0 0),(.int .i64 (0))]):=by kernel_rfl
theorem aqv:fy (bd Q g0).P 141=some (.slice none 0 0):=by kernel_rfl
theorem aqw:fy (bd Q g0).P 144=some (.agg #[(.int .i64 (0)),(.int .i64 (0))]):=by kernel_rfl
theorem aqx:fy (bd Q g0).P 153=some (.agg #[(.pointer none),.nilFunc]):=by kernel_rfl
theorem aqy:fy (bd Q g0).P 160=some (.agg #[.nilFunc,.nilFunc,.nilFunc,.nilFunc]):=by kernel_rfl
theorem e0:j2 (bd Q g0).P 22=some (3,1,[(.int .i64 (0))]):=by kernel_rfl
theorem Rt:j2 (bd Q g0).P 24=some (47,6,[(.int .i64 (0)),(.int .i64 (0)),(.int .i64 (0)),(.slice none 0 0),(.slice none 0 0),(.slice none 0 0)]):=by kernel_rfl
theorem Ru:j2 (bd Q g0).P 25=some (77,2,[(.int .i64 (0)),(.int .i64 (0))]):=by kernel_rfl
theorem nt:j2 (bd Q g0).P 28=some (22,1,[(.slice none 0 0)]):=by kernel_rfl
theorem Rv:j2 (bd Q g0).P 36=some (5,1,[(.int .u8 (0))]):=by kernel_rfl
theorem Zg:j2 (bd Q g0).P 82=some (88,3,[(.int .i64 (0)),(.int .i64 (0)),(.int .i64 (0))]):=by kernel_rfl
theorem Rw:j2 (bd Q g0).P 83=some (136,4,[(.int .i64 (0)),(.int .i64 (0)),(.slice none 0 0),(.int .i64 (0))]):=by kernel_rfl
theorem Mc:j2 (bd Q g0).P 113=some (144,2,[(.int .i64 (0)),(.int .i64 (0))]):=by kernel_rfl
theorem Rs:j2 (bd Q g0).P 119=some (4,1,[(.bool false)]):=by kernel_rfl
theorem E6:j2 (bd Q g0).P 141=some (145,2,[(.int .i64 (0)),(.int .i64 (0))]):=by kernel_rfl
theorem E7:j2 (bd Q g0).P 163=some (150,4,[(.int .i64 (0)),(.int .i64 (0)),(.int .i64 (0)),(.int .i64 (0))]):=by kernel_rfl
theorem apa:(bd Q g0).P.underlying 9=some .string:=by kernel_rfl
theorem pZ:(bd Q g0).P.underlying 22=some (.slice 3):=by kernel_rfl
theorem ao6:(bd Q g0).P.underlying 24=some (.slice 47):=by kernel_rfl
theorem ao7:(bd Q g0).P.underlying 25=some (.slice 77):=by kernel_rfl
theorem CF:(bd Q g0).P.underlying 28=some (.slice 22):=by kernel_rfl
theorem ao8:(bd Q g0).P.underlying 36=some (.slice 5):=by kernel_rfl
theorem ao9:(bd Q g0).P.underlying 82=some (.slice 88):=by kernel_rfl
theorem ao':(bd Q g0).P.underlying 83=some (.slice 136):=by kernel_rfl
theorem Z0:(bd Q g0).P.underlying 113=some (.slice 144):=by kernel_rfl
theorem RS:(bd Q g0).P.underlying 141=some (.slice 145):=by kernel_rfl
theorem RT:(bd Q g0).P.underlying 163=some (.slice 150):=by kernel_rfl
theorem akl:Ll (bd Q g0).P 77=some 2:=by kernel_rfl
theorem RG:Ja (bd Q g0).P 9 36=some 5:=by kernel_rfl
end
end
end Go.Opn
