/- A part of the proof of ResumeBack. -/
import Derived.Test.YtiemfjdacfioeaaGreatDoorCas
import Derived.ChangeArms
import Derived.DataReads
import Derived.Carry
import Derived.ChangeSame
import Derived.OpenShut
import Derived.Test.YtiemfjdacfioeaaGreatDoorProg
import Derived.KernelRfl
set_option linter.unusedVariables false
set_option linter.unusedSimpArgs false
namespace Go.Opn
noncomputable section
open Go.Cre Go.RowKit
open Classical
def rowOf (w:World)(g:Nat):Option (List Value×TypeId):=match w.heap[g]? with
 |some (.cells c e _)=>some (c.toList,e)
 |_=>none
theorem YD{w:World}{g:Nat}{cs:List Value}{e:TypeId}(h:rowOf w g=some (cs,e)):∃c f,w.heap[g]?=some (.cells c e f)/\c.toList=cs:=by
 unfold rowOf at h;split at h
 ·rename_i c bG f aH;injection h with h;injection h with aa ae
  subst aa;subst ae;exact⟨c,f,aH,rfl⟩
 ·cases h
theorem YE{w:World}{g:Nat}{c:Array Value}{e:TypeId}{f:Nat×Nat}(h:w.heap[g]?=some (.cells c e f)):rowOf w g=some (c.toList,e):=by
 unfold rowOf;rw[h]
def rI (P:Program)(w:World):b1:=fun g=>match rowOf w g with
 |some (cs,e)=>some ⟨g,cs.length,P.cellsOf e⟩
 |none=>none
theorem Ie{P:Program}{w:World}{g:Nat}{L:Cre.Loc}(h:rI P w g=some L):∃cs e,rowOf w g=some (cs,e)/\L=⟨g,cs.length,P.cellsOf e⟩:=by
 unfold rI at h;cases ay:rowOf w g with
 |none=>rw[ay] at h;cases h
 |some x=>obtain⟨cs,e⟩:=x;rw[ay] at h;injection h with h;exact⟨cs,e,rfl,h.symm⟩
theorem Xn{P:Program}{w:World}{g:Nat}(h:(rowOf w g).isSome):∃L,rI P w g=some L/\L.r=g:=by
 obtain⟨⟨cs,e⟩,U⟩:=Option.isSome_iff_exists.1 h;unfold rI;rw[U];exact⟨_,rfl,rfl⟩
theorem SG{μ:b1}:∀(n:Nat) (v:Value),SizeOf.sizeOf v<=n->∃v0,bF μ v0 v:=by
 intro n;induction n with
 |zero=>intro v h;cases v<;>simp at h
 |succ n aK=>
  intro v h;have arr:∀cs:Array Value,SizeOf.sizeOf cs<=n->∃b6:Array Value,b6.size=cs.size/\∀(i:Nat) v v',b6[i]?=some v->cs[i]?=some v'->bF μ v v':=fun cs af=>by
   have key:∀i:Fin cs.size,∃v0,bF μ v0 cs[i]:=fun i=>aK _ (by have:=Array.sizeOf_getElem cs i.1 i.2;have e:cs[i]=cs[i.1]:=rfl;rw[e];omega);refine⟨Array.ofFn fun i=>Classical.choose (key i),by simp,fun i v v' aa ae=>?_⟩;rw[Array.getElem?_ofFn] at aa;split at aa
   ·rename_i ao;injection aa with aa;subst aa
    rw[CD ao] at ae;injection ae with ae;subst ae
    exact aat (key ⟨i,ao⟩)
   ·cases aa
  by_cases ar:eQ v=true
  ·exact⟨_,.yd v ar⟩
  ·cases v with
   |agg cs=>
    obtain⟨b6,aa,ae⟩:=arr cs (by simp at h;omega);exact⟨_,.agg b6 cs aa ae⟩
   |tuple cs=>
    obtain⟨b6,aa,ae⟩:=arr cs (by simp at h;omega);exact⟨_,.tuple b6 cs aa ae⟩
   |_=>exact absurd rfl ar
def nw (P:Program)(w:World)(v:Value):Value:=match v with
 |.pointer (some ⟨r,off,none⟩)=>if(rowOf w r).isSome then v else .chan none
 |.slice (some a) len cap=>if a.spot=none/\(rowOf w a.block).isSome/\cap<c9 then v else if len=0/\cap=0 then .slice (some ⟨0,0,some 0⟩) 0 0 else .chan none
 |v=>if isAtom v=true then v else Classical.choose (SG (μ:=rI P w) (SizeOf.sizeOf v) v (cZ _))
theorem MD{P:Program}{w:World}{v:Value}(h:isAtom v=true):nw P w v=v:=by
 unfold nw;split
 ·simp[isAtom] at h
 ·simp[isAtom] at h
 ·rw[aE h]
theorem FI{P:Program}{w:World}(v:Value):bF (rI P w) (nw P w v) v:=by
 unfold nw;split
 ·rename_i r off;split
  ·rename_i q;obtain⟨L,aa,ae⟩:=Xn (P:=P) q;have:=bF.ptr r off L aa;rwa [ae] at this
  ·exact .yd _ rfl
 ·rename_i a len cap;split
  ·rename_i q;obtain⟨r,off,sp⟩:=a;obtain⟨nN,bd,a6⟩:=q;have nN:sp=none:=nN;subst nN;obtain⟨L,aa,ae⟩:=Xn (P:=P) bd;have ae:L.r=r:=ae;have:=bF.nP r off len cap L aa a6;rwa [ae] at this
  ·split
   ·rename_i q;obtain⟨rfl,rfl⟩:=q;exact .x3 a
   ·exact .yd _ rfl
 ·split
  ·exact .atom _ (by assumption)
  ·exact aat (SG (μ:=rI P w) (SizeOf.sizeOf v) v (cZ _))
def vZ (P:Program)(w:World)(g:Nat):Option (List Value×TypeId):=match rowOf w g with
 |some (cs,e)=>some (cs.map (nw P w),e)
 |none=>none
theorem YB{P:Program}{w:World}{g:Nat}{cs:List Value}{e:TypeId}(h:vZ P w g=some (cs,e)):∃c,rowOf w g=some (c,e)/\cs=c.map (nw P w):=by
 unfold vZ at h;split at h
 ·rename_i c bG q;injection h with h;injection h with aa ae
  subst aa;subst ae;exact⟨c,q,rfl⟩
 ·cases h
theorem QY{P:Program}{w:World}{g:Nat}{cs:List Value}{e:TypeId}(h:rowOf w g=some (cs,e)):vZ P w g=some (cs.map (nw P w),e):=by
 unfold vZ;rw[h]
def C3 (P:Program)(w:World)(g:Nat):ff:=match vZ P w g with
 |some (cs,e)=>.row cs e false 0 cs.length true
 |none=>.dead
def BP (P:Program)(w:World):bg ff:=match x7 ((List.range w.heap.size).map (C3 P w)) 0 .leaf with|some t=>t|none=>.leaf
theorem Le{P:Program}{w:World}(g:Nat):(BP P w).get g=if g<w.heap.size then some (C3 P w g) else none:=by
 obtain⟨T,dy⟩:=Zx ((List.range w.heap.size).map (C3 P w)) 0 .leaf (fun k aU=>absurd aU (by omega));unfold BP;rw[dy];simp only
 rw[Rp dy];simp only[cB,true_and,mc,List.length_range,ls,Au];split
 ·rename_i h;rw[pb,Fv h];rfl
 ·rfl
def xB (P:Program)(w:World):aB:=⟨BP P w,w.heap.size,.leaf,0,w.heap.size⟩
theorem YC{P:Program}{w:World}{g:Nat}{x:List Value×TypeId}(h:vZ P w g=some x):g<w.heap.size:=by
 obtain⟨cs,e⟩:=x;obtain⟨c,aa,_⟩:=YB h;obtain⟨ch,f,ae,_⟩:=YD aa;exact(RT.1 ae).1
theorem V6{P:Program}{w:World}{g:Nat}{cs:List Value}{e:TypeId}(h:vZ P w g=some (cs,e)):(xB P w).mem.get g=some (.row cs e false 0 cs.length true):=by
 show(BP P w).get g=_;rw[Le,aE (YC h)];unfold C3;rw[h]
theorem V5{P:Program}{w:World}{g:Nat}{b:ff}(h:(xB P w).mem.get g=some b):g<w.heap.size/\(b=.dead\/∃cs e,vZ P w g=some (cs,e)/\b=.row cs e false 0 cs.length true):=by
 have h:(BP P w).get g=some b:=h;rw[Le] at h;split at h
 ·rename_i aq;refine⟨aq,?_⟩;injection h with h
  unfold C3 at h;cases ay:vZ P w g with
  |none=>rw[ay] at h;exact .inl h.symm
  |some x=>obtain⟨cs,e⟩:=x;rw[ay] at h;exact .inr ⟨cs,e,rfl,h.symm⟩
 ·cases h
theorem aeV(P:Program)(w:World):ca P (fun k=>k<w.heap.size) w (rI P w) (xB P w) w:=by
 have mlt:∀x L,rI P w x=some L->x<w.heap.size:=fun x L U=>by
  obtain⟨cs,e,aa,_⟩:=Ie U;exact YC (QY (P:=P) aa)
 refine⟨Kept.refl _ _,fun _ aU=>aU,?_,?_,mlt,?_,?_,?_,cZ _,?_,?_,?_⟩
 ·intro g L q;obtain⟨c,e,ae,rfl⟩:=Ie q;obtain⟨ch,f,aG,rfl⟩:=YD ae;refine⟨_,_,V6 (QY ae),aG,rfl,by simp,rfl,by simp,fun _=>by simp,fun i v v' x y=>?_,⟨fun off ar _ _=>by simpa using ar,fun q=>by cases q⟩⟩;rw[pb] at x;have iM:ch.toList[i]?=some v':=by simpa using y
  rw[iM] at x;injection x with x;subst x
  exact FI v'
 ·intro x y eM gr fl U ai ay;obtain⟨_,_,_,rfl⟩:=Ie U;obtain⟨_,_,_,rfl⟩:=Ie ai;exact absurd ay fl
 ·intro x L U _;obtain⟨_,_,_,rfl⟩:=Ie U;rfl
 ·intro x L U aq _;have:=mlt x L U;have aq:w.heap.size<=x:=aq;omega
 ·intro g c e o f z s _ hm;obtain⟨aq,q⟩:=V5 hm;rcases q with q|⟨cs,bG,bd,a6⟩
  ·cases q
  ·obtain⟨dU,aa,_⟩:=YB bd;refine⟨⟨g,dU.length,P.cellsOf bG⟩,?_⟩;unfold rI;rw[aa]
 ·intro x c e f z s hm;obtain⟨_,q⟩:=V5 hm;rcases q with q|⟨_,_,_,q⟩<;>cases q
 ·intro f l x av;cases av
 ·intro f l av;cases av
def xN (P:Program)(w:World):aI:=vZ P w
theorem ajS(P:Program)(w:World):Inv w.heap.size (lg [] (xB P w) (xN P w)) (xN P w) [] (xB P w):=by
 refine⟨⟨fun a a'=>?_,fun a a'=>?_,fun f aC=>absurd aC (Nat.not_lt_zero _),fun f _=>rfl,cZ _⟩,rfl,cZ _,cZ _,fun _ _ _=>rfl,fun _ _=>rfl,fun a c e h=>?_,aI.le.refl _,fun a x aa ae=>?_,fun a b h=>(by cases h),(fun a b h=>by cases h),List.nodup_nil⟩
 ·refine⟨C3 P w a,?_⟩;show(BP P w).get a=_;rw[Le,aE (show a<w.heap.size from a')]
 ·show(BP P w).get a=none;rw[Le,ap (by have a':w.heap.size<=a:=a';omega)]
 ·exact⟨_,_,_,_,V6 h⟩
 ·rw[show xN P w a=none from aa] at ae;cases ae
section
variable {K:eL}
theorem alH{w:World}{f:FuncId}{fn:Func}{c:Code}{args:List Value}{cz:Array Value}{b:Bool}(fR:K.Q.ok (fun k=>k<w.heap.size) w)(aq:K.g0=w.heap.size)(aC:K.P.funcs[f]?=some fn)(au:fn.body=some c)(av:b4 (rI K.P w) args cz.toList)(fQ:Fn K f args [] (xN K.P w) (fun v m J=>v=.bool b)):
 Calls K.P f cz w fun e bu=>e=.returned (.bool b)/\Below w.heap.size w bu:=by
 have aJ:Inv K.g0 (lg [] (xB K.P w) (xN K.P w)) (xN K.P w) [] (xB K.P w):=by rw[aq];exact ajS K.P w
 obtain⟨v,H',ag,m',aa,ae,rfl⟩:=fQ (xB K.P w) aJ;have af:=aa _ w fR f args (xB K.P w) (.returned (.bool b)) H' (by unfold nz;rw[aE ⟨rfl,rfl,rfl⟩]) (rI K.P w) w cz.toList (aeV K.P w) av;rcases af with⟨v,v',bu,bI,_,q,_⟩|⟨_,q⟩
 ·rw[Dv aC au (K.dD.num f fn aC (by rw[au];rfl))] at q;cases q
 ·refine Calls.mono q fun bG bu c7=>?_;obtain⟨bI,g1,g2,g3⟩:=c7;cases bG with
  |returned v'=>
   have az:bF bI (.bool b) v':=g3;rw[az.FY];exact⟨rfl,g1.below.below⟩
  |panicked c=>exact g3.elim
  |outgrown=>exact g3.elim
theorem Fn.closed{H0:aB}{f:FuncId}{fn:Func}{c:Code}{v:Value}{J:aI}(aw:plain v=true)(aC:K.P.funcs[f]?=some fn)(au:fn.body=some c)(dt:∀B w,K.Q.ok B w->Laid K.P w H0/\Jk H0 B)
 (aH:∀w,Laid K.P w H0->Calls K.P f #[] w fun e bu=>e=.returned v/\Below w.heap.size w bu):Fn K f [] [] J (fun u m' ag=>u=v/\m'=[]/\ag=J):=by
 intro H aJ;refine⟨v,H,J,[],fun B w0 fR=>?_,aJ,rfl,rfl,rfl⟩;obtain⟨j8,cY⟩:=dt B w0 fR;intro cW cz H' e qQ he μ w abd h av;unfold nz at he;split at he
 ·rename_i q;obtain⟨rfl,rfl,rfl⟩:=q;simp only[cp,dC] at he;obtain⟨rfl,rfl⟩:=he;obtain rfl:=av.lf;refine .inr ⟨Dv aC au (K.dD.num cW fn aC (by rw[au];rfl)) _ w,?_⟩;refine Calls.mono (aH w (j8.eF cY h.below)) fun bG bu ⟨oP,su⟩=>?_;subst oP;exact⟨μ,h.grow su,Step.refl _ _,qD aw⟩
 ·cases he
def I'(P:Program)(H0:aB):dI P where
 ok B w:=Laid P w H0/\Jk H0 B
 up B w0 hY iE h cY aU:=⟨h.1.eF h.2 aU,fun g b aq au=>cY g (h.2 g b aq au)⟩
end
theorem ZZ{b:Option Addr}(h:addrEq b b=true)(l c n:Nat):iC (n+1) (.slice b l c) (.slice b l c)=true:=by
 show(addrEq b b&&Nat.beq l l&&Nat.beq c c)=true;rw[hA,hA,h];rfl
theorem aoT{n:Nat}:∀{l:List Value},(∀v∈l,iC n v v=true)->iC (n+1) (.agg l.toArray) (.agg l.toArray)=true:=by
 intro l h;show u5 (iC n) l l=true;induction l with
 |nil=>rfl
 |cons a l aK=>
  show(iC n a a&&u5 (iC n) l l)=true;rw[h a (.head _),aK (fun v az=>h v (.tail _ az))];rfl
theorem aoW{n:Nat}:∀v∈([]:List Value),iC n v v=true:=fun v az=>by cases az
theorem aoV{n:Nat}{a:Value}{l:List Value}(h:iC n a a=true)(av:∀v∈l,iC n v v=true):∀v∈a::l,iC n v v=true:=fun v az=>by
 rcases fg.1 az with rfl|q
 ·exact h
 ·exact av v q
section
variable {K:eL}{B:ea}{o:Oper}{n:Nat}{ds:e7}{l:List (Nat×Value)}{m m':aO}{J:aI}{eR:cn->aO->aI->Prop}{d:Nat}{c0:Exit->cn->aO->aI->Prop}
theorem ab.gB{c:Code}{E:cn}(aw:m'.Perm m)(h:ab K B c E m' J c0):ab K B c E m J c0:=fun S H ax aJ=>h S H ax (aJ.perm aw.symm)
theorem mQ.perm{g0 sz k:Nat}{v:Value}{cs:List Value}(aw:m.Perm m')(h:mQ g0 B J m sz v k cs):mQ g0 B J m' sz v k cs:=fun H aJ=>h H (aJ.perm aw.symm)
theorem B8{α:Type}{x:α}{aY r:List α}:(x::(aY++r)).Perm (aY++x::r):=List.perm_middle.symm
theorem LA{α:Type}{x y:α}{aY r:List α}:(x::y::(aY++r)).Perm (aY++x::y::r):=(B8.cons x).trans B8
theorem LB{α:Type}{x y z:α}{aY r:List α}:(x::y::z::(aY++r)).Perm (aY++x::y::z::r):=(LA.cons x).trans B8
theorem al5{α:Type}{x y z u:α}{aY r:List α}:(x::y::z::u::(aY++r)).Perm (aY++x::y::z::u::r):=(LB.cons x).trans B8
theorem mQ.own{g0:Nat}{e:TypeId}{sz k c a:Nat}{cells:List Value}(hm:(a,cK.row cells e)∈m)(av:cells.length=k*sz):mQ g0 B J m sz (.slice (some ⟨a,0,none⟩) k c) k cells:=by
 intro H aJ;refine⟨rfl,?_⟩;have g:=(aJ.own _ _ hm).1;have g:H.mem.get a=some (.row cells e false 0 0 false):=g;unfold jM;cases k with
 |zero=>
  simp only
  rw[Jv] at av;rw[yq av]
 |succ k=>
  simp only[g];rw[wY,mP,x6 (by omega),et (by omega)]
theorem kf{c:Call}{t hy e:TypeId}{sz k j:Nat}{gf cells new:List Value}{v x:Value}{aY m0:aO}{hn:TypeDesc}(ar:o.op=.call c)(aH:c.callee=.builtin .append)(aZ:o.dst=some d)(aP:Nat.blt d n=true)(a':h5 l c.args.toList=some [v,x])(oY:c.argTypes.toList=[t,hy])(aD:jS K.P t=some (e,sz,gf))(jQ:K.P.underlying hy=some hn)(vL:∀i,hn≠.int i)
 (az:Acc e sz v k cells aY)(hm:m.Perm (aY++m0))(U:mQ K.g0 B J m sz x j new)(cr:new.length=j*sz)(cc:new.all eQ=true)(av:k+j<=1000000)
 (h:∀w hF,Acc e sz w (k+j) (cells++new) hF->eR ⟨n,ds,(d,w)::l⟩ (hF++m0) J):hZ K B o ⟨n,ds,l⟩ m J eR:=fun S H ax aJ=>
 apr ar aH aZ aP a' oY aD jQ vL az rfl (U.perm hm) cr cc av h S H ax (aJ.perm hm)
theorem Acc.hx{c:Code}{e:TypeId}{sz k:Nat}{v:Value}{cells:List Value}{aY m0:aO}{E:cn}(h:Acc e sz v k cells aY)(hm:m.Perm (aY++m0))(aU:∀ag,J.le ag->hL ag e sz v k cells->ab K B c E m0 ag c0):ab K B c E m J c0:=
 ab.gB hm.symm (h.fz rfl aU)
end
section
variable {K:eL}{B:ea}{o:Oper}{n:Nat}{ds:e7}{l:List (Nat×Value)}{m m':aO}{J:aI}{eR:cn->aO->aI->Prop}{d:Nat}
theorem Acc.iJ{e:TypeId}{sz k:Nat}{v:Value}{cells:List Value}{aY:aO}(h:Acc e sz v k cells aY):∃b c,v=.slice b k c/\addrEq b b=true:=by
 cases h with
 |nil=>exact⟨_,_,rfl,rfl⟩
 |kp a=>exact⟨_,_,rfl,by simp[addrEq]⟩
 |opn h=>exact⟨_,_,rfl,by simp[addrEq]⟩
 |cap=>exact⟨_,_,rfl,by simp[addrEq]⟩
end
end
end Go.Opn
namespace Go.Opn
noncomputable section
open Go.Cre Go.RowKit Go.ChangeShapes
theorem SH{b off i:Nat}{sp:Option Nat}(h:sp=none):(⟨b,off,sp⟩:Addr).add i=⟨b,off+i,none⟩:=by
 subst h;unfold Addr.add;split
 ·rename_i q;subst q;rfl
 ·rfl
theorem M5{W:World}{base k:Nat}{a:Addr}{cs:List Value}(h:W.cells? base a k=some cs)(aU:0<k):∃c e f,W.heap[a.block]?=some (.cells c e f)/\a.spot=none/\cs.length=k/\∀j,j<k->c[a.off+j]?=cs[j]?:=by
 obtain⟨_,ae,aG⟩:=World.cells?_some h;obtain⟨b,off,sp⟩:=a;have bD:=aG 0 aU;have ho:∃v,cs[0]?=some v:=⟨cs[0]'(by omega),de _⟩;obtain⟨v0,KX⟩:=ho;have iH:(⟨b,off,sp⟩:Addr).add 0=⟨b,off,sp⟩:=rfl;rw[iH,KX] at bD;unfold World.cell? at bD;cases dE:W.heap[b]? with
 |none=>rw[show(⟨b,off,sp⟩:Addr).block=b from rfl,dE] at bD;cases bD
 |some o=>
  rw[show(⟨b,off,sp⟩:Addr).block=b from rfl,dE] at bD;cases o with
  |cells c e f=>
   simp only at bD;cases sp with
   |some s=>simp at bD
   |none=>
    refine⟨c,e,f,by first|rfl|exact dE,rfl,ae,fun j ba=>?_⟩;have:=aG j ba;rw[SH rfl] at this;unfold World.cell? at this;rw[show(⟨b,off+j,none⟩:Addr).block=b from rfl,dE] at this;simpa using this
  |_=>cases bD
section
variable {H:Type}{enc:TypeId×Value->H}{P:Program}{W:World}{fuel:Nat}{t e:TypeId}{cs:List Value}{x:DataW H×List MemPlace}
abbrev E9(enc:TypeId×Value->H)(P:Program)(W:World):=DataW.trod enc P W 0 (fun _=>true) true
theorem Y7{sz:Nat}(aD:P.underlying t=some (.slice e))(eU:P.cellsOf e=sz)(bD:0<sz)(h:E9 enc P W fuel t cs=some x):
 ∃(b:Option Addr) (n c:Nat) (rows:List Value) (el:List (List Value)) (ds:List (DataW H×List MemPlace)) (m:Nat),cs.map (nw P W)=[.slice b n c]/\cs.length=1/\(∀bG,hL (xN P W) bG sz (.slice b n c) n (rows.map (nw P W)))/\el.length=n/\ds.length=n/\
  (∀i cT,el[i]?=some cT->cT.length=sz/\(rows.drop (i*sz)).take sz=cT/\∃y,ds[i]?=some y/\E9 enc P W m e cT=some y)/\
  (∀y∈ds,∀z∈y.1.weights P e,z∈x.1.weights P t)/\n<=maxLen:=by
 rcases DataW.trod_slice aD h with⟨rfl,rfl⟩|⟨a,len,cap,sj,rest,n,rfl,rfl,rfl,aa,ae,aG,br,eu,gK,ks⟩
 ·exact⟨none,0,0,[],[],[],0,by rw[nR,MD rfl];rfl,rfl,fun bG=>.nil,rfl,rfl,(fun i cT q=>by simp at q),(fun y ai=>by cases ai),cB _⟩
 ·have qd:cap<c9:=wu aG (by unfold maxLen c9;decide);have hw:∀y∈sj,∀z∈y.1.weights P e,z∈(DataW.slice (sj.map (·.1)) (rest.map (·.1)):DataW H).weights P t:=fun y ai z bN=>by
   rw[DataW.weights,aD];refine aaG _ (pc _ ?_);have:∀l:List (DataW H×List MemPlace),y∈l->z∈DataW.weightsAll P e (l.map (·.1)):=fun l=>by
    induction l with
    |nil=>intro q;cases q
    |cons d r aK=>
     intro q;rw[nR,DataW.weightsAll];rcases fg.1 q with rfl|q
     ·exact pc _ bN
     ·exact h2 _ (aK q)
   exact this sj ai
  have jO:∀i,i<len->∃cT y,W.cells? 0 (a.add (i*sz)) sz=some cT/\sj[i]?=some y/\E9 enc P W n e cT=some y:=fun i ao=>by
   have N5:=eu i ao;rw[eU] at N5;have hi':i<sj.length:=by omega
   rw[de hi'] at N5;obtain⟨cT,bd,a6⟩:=aaL.1 N5;exact⟨cT,_,bd,de hi',a6⟩
  by_cases av:len=0
  ·subst av;have ahd:sj=[]:=s9.1 br;subst ahd;by_cases ay:a.spot=none/\(rowOf W a.block).isSome
   ·refine⟨some a,0,cap,[],[],[],n,?_,rfl,fun bG=>?_,rfl,rfl,(fun i cT q=>by simp at q),hw,cB _⟩
    ·show[nw P W _]=_;unfold nw;simp only;rw[aE ⟨ay.1,ay.2,qd⟩]
    ·obtain⟨b,off,sp⟩:=a;obtain⟨rfl,_⟩:=ay;exact .kp _ _ _ qd
   ·have ho:cap=0:=by
     apply qN;intro aH
     obtain⟨cI,ei⟩:=gK rfl;have ba:=ei 0 (by omega);rw[eU] at ba;have agh:0<rest.length:=by omega
     rw[de agh] at ba;obtain⟨cT,bd,a6⟩:=aaL.1 ba;have iH:a.add ((0+0)*sz)=a:=by simp[Addr.add]
     rw[iH] at bd;obtain⟨c,bG,f,g1,g2,_⟩:=M5 bd bD;exact ay ⟨g2,by rw[YE g1];rfl⟩
    subst ho;refine⟨some ⟨0,0,some 0⟩,0,0,[],[],[],n,?_,rfl,fun bG=>.yX,rfl,rfl,(fun i cT q=>by simp at q),hw,cB _⟩;show[nw P W _]=_;unfold nw;simp only;rw[ap (fun q=>ay ⟨q.1,q.2.1⟩),aE (by simp)]
  ·obtain⟨je,Mc,bd,a6,b9⟩:=jO 0 (by omega);have iH:a.add (0*sz)=a:=by simp[Addr.add]
   rw[iH] at bd;obtain⟨c,bG,f,g1,g2,g3,g4⟩:=M5 bd bD;obtain⟨b,off,sp⟩:=a;have g2:sp=none:=g2;subst g2;have g1:W.heap[b]?=some (.cells c bG f):=g1;have gj:=YE g1;have Kv:∀i,i<len->∃cT y,sj[i]?=some y/\E9 enc P W n e cT=some y/\cT.length=sz/\∀j,j<sz->c.toList[off+(i*sz+j)]?=cT[j]?:=fun i ao=>by
    obtain⟨cT,y,bp,bC,b5⟩:=jO i ao;rw[SH rfl] at bp;obtain⟨ch,T8,cW,m1,_,m3,m4⟩:=M5 bp bD;have m1:W.heap[b]?=some (.cells ch T8 cW):=m1;rw[g1] at m1;injection m1 with m1;injection m1 with m1 _ _
    subst m1;exact⟨cT,y,bC,b5,m3,fun j ba=>by have:=m4 j ba;rw[show off+(i*sz+j)=off+i*sz+j by omega];simpa using this⟩
   have hlen:off+len*sz<=c.toList.length:=by
    obtain⟨cT,y,_,_,b5,da⟩:=Kv (len -1) (by omega);have:=da (sz -1) (by omega);rw[de (show sz -1<cT.length by omega)] at this;have arA:off+((len -1)*sz+(sz -1))<c.toList.length:=by
     rcases kY (off+((len -1)*sz+(sz -1))) c.toList.length with q|q
     ·exact q
     ·rw[fx q] at this;cases this
    have:len*sz=(len -1)*sz+sz:=by
     rw[<-pe];congr 1;omega
    omega
   refine⟨some ⟨b,off,none⟩,len,cap,(c.toList.drop off).take (len*sz),(List.range len).map fun i=>(c.toList.drop (off+i*sz)).take sz,sj,n,?_,rfl,fun T8=>?_,by simp,br,fun i cT ao=>?_,hw,p0 ae aG⟩
   ·show[nw P W _]=_;unfold nw;simp only;rw[aE (by simp only[true_and];exact⟨by rw[gj];rfl,qd⟩)]
   ·refine .row (QY gj) (by rw[<-List.map_drop,<-List.map_take]) ?_ (fun _=>⟨ae,qd⟩) (fun q=>by omega);rw[mc,h1,lO];omega
   ·rw[pb] at ao;have oT:i<len:=by
     rcases kY i len with q|q
     ·exact q
     ·rw[fx (by simpa using q)] at ao;cases ao
    rw[Fv oT] at ao;simp only[Fz,cp] at ao;obtain⟨JZ,y,bp,bC,b5,da⟩:=Kv i oT;have hle:i*sz+sz<=len*sz:=by rw[<-pe];exact nt _ oT
    have gV:(c.toList.drop (off+i*sz)).take sz=JZ:=by
     refine lp fun j=>?_;rw[kI];split
     ·rename_i ba;rw[pY,<-da j ba];congr 1;omega
     ·rw[fx (by omega)]
    rw[gV] at ao;subst ao;refine⟨b5,?_,y,bp,bC⟩;rw[<-gV,Ft,Ar,yu,mf (by omega)]
theorem ajR(aD:P.underlying t=some (.slice e))(he:P.underlying e=some (.int .i64))(eU:P.cellsOf e=1)(h:E9 enc P W fuel t cs=some x):
 ∃(l:List Int) (b:Option Addr) (c:Nat),cs.map (nw P W)=[.slice b l.length c]/\∀bG,hL (xN P W) bG 1 (.slice b l.length c) l.length (l.map (Value.int .i64)):=by
 obtain⟨b,n,c,rows,el,ds,m,aa,ae,aG,br,eu,gK,_,_⟩:=Y7 aD eU (by omega) h;have hlen:rows.length=n:=by have:=(aG 0).len;simpa using this
 have hint:∀v∈rows,∃i:Int,v=.int .i64 i:=fun v az=>by
  obtain⟨j,ba⟩:=List.getElem?_of_mem az;have asi:j<n:=by have:=(dX.1 ba).1;omega
  obtain⟨bd,a6,y,b9,fN⟩:=gK j _ (de (show j<el.length by omega));obtain⟨i,cI,_⟩:=DataW.trod_int he fN;rw[cI] at a6;rw[At] at a6;have:((rows.drop j).take 1)[0]?=some v:=by rw[kI,aE (by omega),pY,ta];exact ba
  rw[a6] at this;injection this with this
  exact⟨i,this.symm⟩
 have av:∃l:List Int,rows=l.map (Value.int .i64):=by
  clear aG gK hlen
  induction rows with
  |nil=>exact⟨[],rfl⟩
  |cons v r aK=>
   obtain⟨i,ao⟩:=hint v (.head _);obtain⟨l,av⟩:=aK (fun v az=>hint v (.tail _ az));exact⟨i::l,by rw[ao,av];rfl⟩
 obtain⟨l,rfl⟩:=av;have hE:n=l.length:=by simpa using hlen.symm
 subst hE;refine⟨l,b,c,aa,fun bG=>?_⟩;have:=aG bG;have aN:(l.map (Value.int .i64)).map (nw P W)=l.map (Value.int .i64):=by
  rw[List.map_map];exact List.map_congr_left fun i _=>MD rfl
 rwa [aN] at this
theorem P5(aD:P.underlying t=some (.int .i64))(h:E9 enc P W fuel t cs=some x):∃i:Int,cs=[.int .i64 i]/\cs.map (nw P W)=[.int .i64 i]:=by
 obtain⟨i,rfl,_⟩:=DataW.trod_int aD h;exact⟨i,rfl,by rw[nR,MD rfl];rfl⟩
end
end
end Go.Opn
namespace Go.Opn
noncomputable section
open Go.Cre Go.RowKit Go.ChangeShapes Go.WideShapes
def uo {α:Type}:List (Nat×α)->Nat->Option α
 |[],_=>none
 |(u,v)::l,t=>bif Nat.beq t u then some v else uo l t
def Et:Nat->List Nat->Bool
 |_,[]=>false
 |t,u::l=>bif Nat.beq t u then true else Et t l
theorem Zz{H:Type}{enc:TypeId×Value->H}{P:Program}{W ti:World}(av:laidOutB P=true)(au:Below W.heap.size W ti){sp:Nat->Bool}:
 ∀{hi:List TypeId} {vs:List Value} {ds:List (DataW H)} {eG:List MemPlace},(∀t∈hi,P.readableRec t=true/\t<P.types.size)->DataW.TrodAll enc P W 0 (fun _=>true) true hi vs ds eG->(∀p∈eG,p.block<W.heap.size)->(∀p∈eG,sp p.block=true)->DataW.TrodAll enc P ti 0 sp true hi vs ds eG
 |[],_,_,_,_,h,_,_=>by
  obtain⟨rfl,rfl,rfl⟩:=trodAll_nil h;rfl
 |t::hi,_,_,_,ay,h,c4,af=>by
  obtain⟨v,auo,d,wZ,a,b,rfl,rfl,rfl,aa,ae⟩:=trodAll_cons h
  exact⟨a,b,WideElems.Trod_stays av (ay t (.head _)).1 (ay t (.head _)).2 aa (fun x U=>au.same (c4 x (pc _ U))) (fun x U=>af x (pc _ U)),
   Zz av au (fun u hu=>ay u (.tail _ hu)) ae (fun p aw=>c4 p (h2 _ aw)) (fun p aw=>af p (h2 _ aw)),rfl⟩
theorem amn{H:Type}{enc:TypeId×Value->H}{P:Program}{f:Func}{s:ChangeSpec}{apart fresh handsOn:Bool}{W ti:World}{args:Array Value}{v:Value}{ds gs:List (DataW H)}{before:List MemPlace}
 (jz:DataW.Whole enc P f.params.toList s.vars apart W args.toList ds gs before)(au:Below W.heap.size W ti)(av:laidOutB P=true)(Pz:∀t∈f.params.toList,P.readableRec t=true/\t<P.types.size)(az:s.vars=[])
 (st:(s.fn H (ds++gs)).args=ds)(HM:(s.fn H (ds++gs)).vars=[])
 (PA:∀(b:Nat) (sp:Nat->Bool) (aZ:Bool),DataW.TrodAll enc P ti b sp aZ f.resultTypes.toList (v.resultList f.resultTypes.size) (s.fn H (ds++gs)).results []):
 s.post enc P f apart fresh handsOn false W args v ti:=by
 have c4:=jz.lt;obtain⟨p,q,aa,ae,rfl,aG,br⟩:=id jz;have zc:∀x∈p,x.block<W.heap.size:=fun x U=>c4 x (pc _ U);refine⟨ds,gs,p++q,[],p,[],jz,PA _ _ _,?_,?_,World.keptBut_mono (fun p aw=>by cases aw) (au.frame fun p=>p∈([]:List MemPlace)),fun h=>by cases h⟩
 ·rw[st];exact Zz av au Pz aa zc (fun x U=>by simpa using zc x U)
 ·rw[az,HM];rfl
end
end Go.Opn
set_option maxRecDepth 100000
namespace Go.Opn
noncomputable section
open Go.Cre Go.RowKit Go.Proofs
theorem rH:Tryz.prog.follows .mixedOrders=true:=by kernel_rfl
theorem num:Qx Tryz.prog=true:=by kernel_rfl
abbrev kk:Program:=Tryz.prog
abbrev bb (Q:dI Tryz.prog)(g0:Nat):eL:=⟨Tryz.prog,DF Tryz.prog,Yc rH num,Q,g0⟩
section
variable (Q:dI kk)(g0:Nat)
def MF:List (Nat×Option Nat):=[(3,none),(4,none),(9,none),(22,none),(24,none),(25,none),(27,some 3),(28,none),(30,some 4),(37,some 2),(45,some 6),(55,none),(56,none),(65,some 2),(73,none),(77,some 2),(79,none),(82,none),(83,none),(88,some 3),(106,none),(136,some 4),(141,none),(144,some 2),(145,some 2),(151,none),(153,some 2),(159,none)]
theorem aaZ:MF.map (fun x=>r6 kk x.1)=MF.map (fun x=>some (id x.2)):=by kernel_rfl
def Rn:List (Nat×Nat):=[(3,1),(4,1),(22,1),(24,1),(25,1),(27,3),(28,1),(30,4),(37,2),(45,6),(55,1),(56,1),(65,2),(73,1),(77,2),(82,1),(83,1),(88,3),(136,4),(141,1),(144,2),(145,2),(153,2),(160,4)]
theorem an7:Rn.map (fun x=>ej kk x.1)=Rn.map (fun x=>some (id x.2)):=by kernel_rfl
def NM:List (Nat×Nat):=[(2700,0),(2701,1),(2702,2),(3000,0),(3001,1),(3002,2),(3003,3),(4500,0),(4501,1),(4502,2),(4503,3),(4504,4),(4505,5),(5800,0),(5801,1),(6000,0),(6900,0),(6901,1),(7700,0),(7701,1),(8100,0),(8101,1),(8500,0),(8501,1),(8502,2),(8503,3),(8504,4),(8505,5),(8507,7),(8800,0),(8801,1),(8802,2),(13000,0),(13001,3),(13002,4),(13003,5),(13600,0),(13601,1),(13602,2),(13603,3),(15000,0),(15002,2),(15300,0),(15301,1)]
theorem ae0:NM.map (fun x=>DD kk (x.1 / 100) (x.1 % 100))=NM.map (fun x=>some (id x.2)):=by kernel_rfl
def NP:List (Nat×(Nat×Nat)):=[]
theorem ae8:NP.map (fun x=>GB kk (x.1 / 100) (x.1 % 100))=NP.map (fun x=>some (id x.2)):=by kernel_rfl
def ML:List (Nat×(Nat×Nat×Nat)):=[(145,2,3,1),(160,4,159,1)]
theorem abb:ML.map (fun x=>AA kk x.1)=ML.map (fun x=>some (id x.2)):=by kernel_rfl
def Nz:List (Nat×Nat):=[(22,1),(24,6),(25,2),(28,1),(82,3),(83,4),(119,1),(141,2),(163,4)]
theorem ad':Nz.map (fun x=>Dt kk x.1)=Nz.map (fun x=>some (id x.2)):=by kernel_rfl
def Nl:List (Nat×IntKind):=[(50003,.i64)]
theorem ac5:Nl.map (fun x=>isInt kk (x.1 / 10000) (x.1 % 10000))=Nl.map (fun x=>some (id x.2)):=by kernel_rfl
def MR:List (Nat×(Sum (List (Nat×Nat)) Nat×List Value)):=[(30,.inl [(0,1),(1,1),(2,1),(3,1)],[(.int .i64 (0)),(.int .i64 (0)),(.slice none 0 0),(.slice none 0 0)]),(37,.inl [(0,1),(1,1)],[(.int .i64 (0)),(.int .i64 (0))]),(45,.inl [(0,1),(1,1),(2,1),(3,1),(4,1),(5,1)],[(.int .i64 (0)),(.int .i64 (0)),(.int .i64 (0)),(.slice none 0 0),(.slice none 0 0),(.slice none 0 0)]),(65,.inl [(0,1),(1,1)],[(.int .i64 (0)),(.int .i64 (0))]),(69,.inl [(0,1),(1,1)],[(.string ⟨⟨[]⟩⟩),(.int .i64 (0))]),(77,.inl [(0,1),(1,1)],[(.int .i64 (0)),(.int .i64 (0))]),(81,.inl [(0,1),(1,1)],[(.slice none 0 0),(.int .i64 (0))]),(85,.inl [(0,1),(1,1),(2,1),(3,1),(4,1),(5,1),(6,1),(7,3)],[(.pointer none),(.slice none 0 0),(.slice none 0 0),(.int .i64 (0)),(.int .i64 (0)),(.bool false),(.bool false),(.int .i64 (0)),(.slice none 0 0),(.slice none 0 0)]),(88,.inl [(0,1),(1,1),(2,1)],[(.int .i64 (0)),(.int .i64 (0)),(.int .i64 (0))]),(130,.inl [(0,3),(3,1),(4,1),(5,1)],[(.int .i64 (0)),(.slice none 0 0),(.slice none 0 0),(.slice none 0 0),(.slice none 0 0),(.slice none 0 0)]),(136,.inl [(0,1),(1,1),(2,1),(3,1)],[(.int .i64 (0)),(.int .i64 (0)),(.slice none 0 0),(.int .i64 (0))]),(144,.inl [(0,1),(1,1)],[(.int .i64 (0)),(.int .i64 (0))]),(145,.inr 1,[(.int .i64 (0)),(.int .i64 (0))]),(150,.inl [(0,1),(1,1),(2,1),(3,1)],[(.int .i64 (0)),(.int .i64 (0)),(.int .i64 (0)),(.int .i64 (0))]),(153,.inl [(0,1),(1,1)],[(.pointer none),.nilFunc]),(160,.inr 1,[.nilFunc,.nilFunc,.nilFunc,.nilFunc])]
theorem aby:MR.map (fun x=>F3 kk x.1)=MR.map (fun x=>some (id x.2)):=by kernel_rfl
def WN:List Nat:=[22,24,25,28,56,82,83,113,141,163]
theorem isOk:WN.all (fun t=>isSlice kk t)=true:=by kernel_rfl
def WQ:List Nat:=[9]
theorem ajZ:WQ.all (fun t=>sJ kk t)=true:=by kernel_rfl
def Xv:List Nat:=[9,65]
theorem akR:Xv.all (fun t=>Io kk t)=true:=by kernel_rfl
theorem aag:fw (bb Q g0).P 3=some (.int .i64 (0)):=by kernel_rfl
theorem apM:fw (bb Q g0).P 4=some (.bool false):=by kernel_rfl
theorem Mg:fw (bb Q g0).P 27=some (.agg #[(.int .i64 (0)),(.slice none 0 0),(.slice none 0 0)]):=by kernel_rfl
theorem ln:fw (bb Q g0).P 30=some (.agg #[(.int .i64 (0)),(.int .i64 (0)),(.slice none 0 0),(.slice none 0 0)]):=by kernel_rfl
theorem aah:fw (bb Q g0).P 37=some (.agg #[(.int .i64 (0)),(.int .i64 (0))]):=by kernel_rfl
theorem om:fw (bb Q g0).P 45=some (.agg #[(.int .i64 (0)),(.int .i64 (0)),(.int .i64 (0)),(.slice none 0 0),(.slice none 0 0),(.slice none 0 0)]):=by kernel_rfl
theorem apN:fw (bb Q g0).P 60=some (.agg #[(.pointer none),(.slice none 0 0)]):=by kernel_rfl
theorem apO:fw (bb Q g0).P 65=some (.agg #[(.int .i64 (0)),(.int .i64 (0))]):=by kernel_rfl
theorem apP:fw (bb Q g0).P 73=some (.int .i64 (0)):=by kernel_rfl
theorem aai:fw (bb Q g0).P 77=some (.agg #[(.int .i64 (0)),(.int .i64 (0))]):=by kernel_rfl
theorem apQ:fw (bb Q g0).P 88=some (.agg #[(.int .i64 (0)),(.int .i64 (0)),(.int .i64 (0))]):=by kernel_rfl
theorem apH:fw (bb Q g0).P 136=some (.agg #[(.int .i64 (0)),(.int .i64 (0)),(.slice none 0 0),(.int .i64 (0))]):=by kernel_rfl
theorem apI:fw (bb Q g0).P 141=some (.slice none 0 0):=by kernel_rfl
theorem apJ:fw (bb Q g0).P 144=some (.agg #[(.int .i64 (0)),(.int .i64 (0))]):=by kernel_rfl
theorem apK:fw (bb Q g0).P 153=some (.agg #[(.pointer none),.nilFunc]):=by kernel_rfl
theorem apL:fw (bb Q g0).P 160=some (.agg #[.nilFunc,.nilFunc,.nilFunc,.nilFunc]):=by kernel_rfl
theorem eX:jS (bb Q g0).P 22=some (3,1,[(.int .i64 (0))]):=by kernel_rfl
theorem Q4:jS (bb Q g0).P 24=some (45,6,[(.int .i64 (0)),(.int .i64 (0)),(.int .i64 (0)),(.slice none 0 0),(.slice none 0 0),(.slice none 0 0)]):=by kernel_rfl
theorem Q5:jS (bb Q g0).P 25=some (77,2,[(.int .i64 (0)),(.int .i64 (0))]):=by kernel_rfl
theorem nl:jS (bb Q g0).P 28=some (22,1,[(.slice none 0 0)]):=by kernel_rfl
theorem Q6:jS (bb Q g0).P 56=some (5,1,[(.int .u8 (0))]):=by kernel_rfl
theorem YP:jS (bb Q g0).P 82=some (88,3,[(.int .i64 (0)),(.int .i64 (0)),(.int .i64 (0))]):=by kernel_rfl
theorem Q7:jS (bb Q g0).P 83=some (136,4,[(.int .i64 (0)),(.int .i64 (0)),(.slice none 0 0),(.int .i64 (0))]):=by kernel_rfl
theorem LS:jS (bb Q g0).P 113=some (144,2,[(.int .i64 (0)),(.int .i64 (0))]):=by kernel_rfl
theorem Q3:jS (bb Q g0).P 119=some (4,1,[(.bool false)]):=by kernel_rfl
theorem ET:jS (bb Q g0).P 141=some (145,2,[(.int .i64 (0)),(.int .i64 (0))]):=by kernel_rfl
theorem EU:jS (bb Q g0).P 163=some (150,4,[(.int .i64 (0)),(.int .i64 (0)),(.int .i64 (0)),(.int .i64 (0))]):=by kernel_rfl
theorem aor:(bb Q g0).P.underlying 9=some .string:=by kernel_rfl
theorem pO:(bb Q g0).P.underlying 22=some (.slice 3):=by kernel_rfl
theorem aom:(bb Q g0).P.underlying 24=some (.slice 45):=by kernel_rfl
theorem aon:(bb Q g0).P.underlying 25=some (.slice 77):=by kernel_rfl
theorem Cr:(bb Q g0).P.underlying 28=some (.slice 22):=by kernel_rfl
theorem aoo:(bb Q g0).P.underlying 56=some (.slice 5):=by kernel_rfl
theorem aop:(bb Q g0).P.underlying 82=some (.slice 88):=by kernel_rfl
theorem aoq:(bb Q g0).P.underlying 83=some (.slice 136):=by kernel_rfl
theorem ZA:(bb Q g0).P.underlying 113=some (.slice 144):=by kernel_rfl
theorem Rt:(bb Q g0).P.underlying 141=some (.slice 145):=by kernel_rfl
theorem Ru:(bb Q g0).P.underlying 163=some (.slice 150):=by kernel_rfl
theorem ajK:HZ (bb Q g0).P 37=some 2:=by kernel_rfl
theorem ajL:HZ (bb Q g0).P 77=some 2:=by kernel_rfl
end
end
end Go.Opn
namespace Go.Opn
noncomputable section
open Go.Cre Go.RowKit
section
variable {K:eL}{B:ea}{o:Oper}{n:Nat}{ds:e7}{l:List (Nat×Value)}{m m':aO}{J:aI}{eR:cn->aO->aI->Prop}{d:Nat}
def Dl (k:IntKind)(a b:Int):BinOp->Option Value
 |.quo=>some (.int k (k.wrap (a.tdiv b)))
 |.rem=>some (.int k (a.tmod b))
 |_=>none
theorem ZE{op:BinOp}{t eD:TypeId}{x y:Operand}{k:IntKind}{a b:Int}{v:Value}(ar:o.op=.binOp op t x y eD)(U:b7 l x=some (.int k a))(ai:b7 l y=some (.int k b))(az:Dl k a b op=some v)(au:b≠0):cV K B o n ds l m J v:=by
 intro call aR S H ax aJ;unfold cO fq;simp only[ar];show nM K.P _ op t (bk S.T H x) (bk S.T H y)=_;rw[du ax H U,du ax H ai];show(bif uk k k then nd H k a b _ op else _)=_;rw[K9,cb];have key:∀(xX:BinOp),op=xX->(xX=.quo\/xX=.rem)->fI K.P S.T H o=some (.val v H):=by
  intro xX e h;subst e;refine uz ax (by rw[ar];rfl) U ai rfl rfl ?_ ?_
  ·unfold execOp;simp only[ar];rw[jy ax H U,jy ax H ai];rcases h with rfl|rfl
   ·simp only[Dl,cp] at az;subst az;have aq:eP K.P (eqGuard .quo t x y (.int k a) (.int k b))=some ():=rfl;have rh:binOp .quo t (.int k a) (.int k b)=pure (.int k (k.wrap (a.tdiv b))):=by simp[binOp,Op.intDiv,au]
    rw[dL (a:=.int k (k.wrap (a.tdiv b)))]
    ·rfl
    rw[dL aq,rh];rfl
   ·simp only[Dl,cp] at az;subst az;have aq:eP K.P (eqGuard .rem t x y (.int k a) (.int k b))=some ():=rfl;have rh:binOp .rem t (.int k a) (.int k b)=pure (.int k (a.tmod b)):=by simp[binOp,Op.intDiv,au]
    rw[dL (a:=.int k (a.tmod b))]
    ·rfl
    rw[dL aq,rh];rfl
  ·rcases h with rfl|rfl<;>simp only[Dl,cp] at az<;>subst az<;>rfl
 cases op<;>simp only[Dl,reduceCtorEq] at az
 ·exact key _ rfl (.inl rfl)
 ·exact key _ rfl (.inr rfl)
end
structure fa {α:Type} (J:aI) (e:TypeId) (sz:Nat) (R:α->List Value->Prop) (v:Value) (xs:List α):Prop where
 ex:∃cs,hL J e sz v xs.length cs/\∀i x,xs[i]?=some x->R x ((cs.drop (i*sz)).take sz)
theorem fa.mono{α:Type}{J ag:aI}{e:TypeId}{sz:Nat}{R R':α->List Value->Prop}{v:Value}{xs:List α}(hle:J.le ag)(ey:∀x cs,R x cs->R' x cs)(h:fa J e sz R v xs):fa ag e sz R' v xs:=by
 obtain⟨cs,aa,ae⟩:=h;exact⟨cs,aa.mono hle,fun i x U=>ey _ _ (ae i x U)⟩
theorem hL.addr{J:aI}{e:TypeId}{sz n c:Nat}{b:Option Addr}{cs:List Value}{k:Nat}(h:hL J e sz (.slice b n c) k cs):addrEq b b=true:=by
 cases h with
 |nil=>rfl
 |kp a off cap h=>simp[addrEq]
 |yX=>rfl
 |row aa ae aG br eu=>simp[addrEq]
theorem fa.addr{α:Type}{J:aI}{e:TypeId}{sz n c:Nat}{b:Option Addr}{R:α->List Value->Prop}{xs:List α}(h:fa J e sz R (.slice b n c) xs):addrEq b b=true:=by
 obtain⟨cs,aa,_⟩:=h;exact aa.addr
theorem fa.get{α:Type}{J:aI}{e:TypeId}{sz n c:Nat}{b:Option Addr}{R:α->List Value->Prop}{xs:List α}(h:fa J e sz R (.slice b n c) xs):n=xs.length/\(0<xs.length->∃a off cells bG,b=some ⟨a,off,none⟩/\J a=some (cells,bG)/\
 ∀(i:Nat) (x:α),xs[i]?=some x->∃cs,takeN sz (oG (off+((i:Nat):Int).toNat*sz) cells)=some cs/\R x cs):=by
 obtain⟨cs,aa,ae⟩:=h;have aP:n=xs.length:=by
  obtain⟨b',ch,aG,_⟩:=aa.inv;injection aG
 refine⟨aP,fun Wa=>?_⟩;generalize aU:xs.length=k at aa;cases aa with
 |nil=>omega
 |kp=>omega
 |yX=>omega
 |@row a off len cap cells cs bG bp bC b5 da gM=>
  refine⟨a,off,cells,bG,rfl,bp,fun i x U=>⟨_,?_,ae i x U⟩⟩;have ao:i<xs.length:=(dX.1 U).1;rw[<-aU] at bC b5;have hle:i*sz+sz<=xs.length*sz:=by rw[<-pe];exact nt _ ao
  have aH:xs.length*sz<=(cells.drop off).length:=by
   have:((cells.drop off).take (xs.length*sz)).length=xs.length*sz:=by rw[bC];exact b5
   rw[h1] at this;omega
  rw[lO] at aH;rw[wY,x6 (by rw[lO];simp;omega),<-bC];congr 1
  rw[Ft,Ar,yu,mf (by omega)];simp
end
end Go.Opn
