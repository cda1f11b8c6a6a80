/- A part of the proof of TableClose. -/
import Derived.Test.YtpahonhejmlnpaaGreatDoorCaw
import Derived.ChangeArms
import Derived.DataReads
import Derived.Carry
import Derived.ChangeSame
import Derived.OpenShut
import Derived.Test.YtpahonhejmlnpaaGreatDoorProg
import Derived.KernelRfl
set_option linter.unusedVariables false
set_option linter.unusedSimpArgs false
namespace Go.Opn
noncomputable section
open Go.Cre Go.RowKit
section
variable {K:dG}{B:dt}{ops:List Oper}{a2:List hT}{F:List (FuncId×List Value)}{m m':aU}{J:an}{o:Oper}{bm:b3->aU->an->Prop}
variable {n:Nat}{ds:dQ}{l:List (Nat×Value)}{d i:Nat}
theorem abR{S:aT}(ak:Sat ⟨n,ds,l⟩ S):∀{xs:List (Nat×Operand)} {vs:List (Nat×Value)},pQ l xs=some vs->pu S.T xs=some vs:=by
 intro xs;induction xs with
 |nil=>intro vs h;exact h
 |cons x r aP=>
  obtain⟨i,x⟩:=x;intro vs h;simp only[pQ] at h;simp only[pu];cases U:bH l x with
  |none=>rw[U] at h;cases h
  |some v=>
   rw[U] at h;simp only at h;rw[Jp ak U];simp only;cases al:pQ l r with
   |none=>rw[al] at h;cases h
   |some ws=>rw[al] at h;simp only at h;rw[aP al];exact h
theorem bi.buildSlice{t e:TypeId}{k sz:Nat}{fz cells:List Value}{ps:Array (Nat×Operand)}{vs:List (Nat×Value)}(ar:nth ops i=some o)(aq:o.guard=none)(ag:o.op=.buildSlice t k ps)(au:o.dst=some d)(aw:Nat.blt d n=true)(ao:pQ l ps.toList=some vs)(aM:iY K.P t=some (e,sz,fz))(hk:(Nat.ble k 100000&&Nat.ble (k*sz) 100000)=true)(az:lc (fun i=>some (i*sz,sz)) (eN fz k) vs=some cells)(aa:cells.all ev=true)
 (h:∀a,bi K B ops a2 F ⟨n,ds,(d,.slice (some ⟨a,0,none⟩) k k)::l⟩ ((a,.row cells e)::m) J bm):bi K B ops (.iL i::a2) F ⟨n,ds,l⟩ m J bm:=by
 obtain⟨hu,dA,gq,z,gJ,a0,br,rfl,bN,cW,dj⟩:=r0 aM;refine bi.iL (b:=.row cells e false 0 0 false) (p:=.row cells e) (dN:=.wG k k) ar aq au aw (fun S ak=>?_) (fun H a q=>q) (fun c e r z q=>by cases q) h;rw[ag];simp only[k'];rw[abR ak ao];simp only[zr,hu,dA,a0];rw[hk,dj,show Nat.beq z.cells.toList.length sz=true by rw[bN];exact gH _];simp only[tq,b1,az,aa]
end
open Classical
def rowOf (w:World)(g:Nat):Option (List Value×TypeId):=match w.heap[g]? with
 |some (.cells c e _)=>some (c.toList,e)
 |_=>none
theorem QH{w:World}{g:Nat}{cs:List Value}{e:TypeId}(h:rowOf w g=some (cs,e)):∃c f,w.heap[g]?=some (.cells c e f)/\c.toList=cs:=by
 unfold rowOf at h;split at h
 ·rename_i c bk f aL;injection h with h;injection h with aa ab
  subst aa;subst ab;exact⟨c,f,aL,rfl⟩
 ·cases h
theorem JH{w:World}{g:Nat}{c:Array Value}{e:TypeId}{f:Nat×Nat}(h:w.heap[g]?=some (.cells c e f)):rowOf w g=some (c.toList,e):=by
 unfold rowOf;rw[h]
def ow (P:Program)(w:World):bz:=fun g=>match rowOf w g with
 |some (cs,e)=>some ⟨g,cs.length,P.cellsOf e⟩
 |none=>none
theorem Bg{P:Program}{w:World}{g:Nat}{L:Cre.Loc}(h:ow P w g=some L):∃cs e,rowOf w g=some (cs,e)/\L=⟨g,cs.length,P.cellsOf e⟩:=by
 unfold ow at h;cases al:rowOf w g with
 |none=>rw[al] at h;cases h
 |some x=>obtain⟨cs,e⟩:=x;rw[al] at h;injection h with h;exact⟨cs,e,rfl,h.symm⟩
theorem Pw{P:Program}{w:World}{g:Nat}(h:(rowOf w g).isSome):∃L,ow P w g=some L/\L.r=g:=by
 obtain⟨⟨cs,e⟩,U⟩:=Option.isSome_iff_exists.1 h;unfold ow;rw[U];exact⟨_,rfl,rfl⟩
theorem LH{μ:bz}:∀(n:Nat) (v:Value),SizeOf.sizeOf v<=n->∃jm,bc μ jm v:=by
 intro n;induction n with
 |zero=>intro v h;cases v<;>simp at h
 |succ n aP=>
  intro v h;have arr:∀cs:Array Value,SizeOf.sizeOf cs<=n->∃cl:Array Value,cl.size=cs.size/\∀(i:Nat) v v',cl[i]?=some v->cs[i]?=some v'->bc μ v v':=fun cs af=>by
   have key:∀i:Fin cs.size,∃jm,bc μ jm cs[i]:=fun i=>aP _ (by have:=Array.sizeOf_getElem cs i.1 i.2;have e:cs[i]=cs[i.1]:=rfl;rw[e];omega);refine⟨Array.ofFn fun i=>Classical.choose (key i),by simp,fun i v v' aa ab=>?_⟩;rw[Array.getElem?_ofFn] at aa;split at aa
   ·rename_i ar;injection aa with aa;subst aa
    rw[wV ar] at ab;injection ab with ab;subst ab
    exact Sh (key ⟨i,ar⟩)
   ·cases aa
  by_cases ag:ev v=true
  ·exact⟨_,.to v ag⟩
  ·cases v with
   |agg cs=>
    obtain⟨cl,aa,ab⟩:=arr cs (by simp at h;omega);exact⟨_,.agg cl cs aa ab⟩
   |tuple cs=>
    obtain⟨cl,aa,ab⟩:=arr cs (by simp at h;omega);exact⟨_,.tuple cl cs aa ab⟩
   |_=>exact absurd rfl ag
def kK (P:Program)(w:World)(v:Value):Value:=match v with
 |.pointer (some ⟨r,off,none⟩)=>if(rowOf w r).isSome then v else .chan none
 |.slice (some a) len cap=>if a.spot=none/\(rowOf w a.block).isSome/\cap<cu then v else if len=0/\cap=0 then .slice (some ⟨0,0,some 0⟩) 0 0 else .chan none
 |v=>if isAtom v=true then v else Classical.choose (LH (μ:=ow P w) (SizeOf.sizeOf v) v (c5 _))
theorem Cv{P:Program}{w:World}{v:Value}(h:isAtom v=true):kK P w v=v:=by
 unfold kK;split
 ·simp[isAtom] at h
 ·simp[isAtom] at h
 ·rw[bg h]
theorem Cw{P:Program}{w:World}(v:Value):bc (ow P w) (kK P w v) v:=by
 unfold kK;split
 ·rename_i r off;split
  ·rename_i q;obtain⟨L,aa,ab⟩:=Pw (P:=P) q;have:=bc.ptr r off L aa;rwa [ab] at this
  ·exact .to _ rfl
 ·rename_i a len cap;split
  ·rename_i q;obtain⟨r,off,sp⟩:=a;obtain⟨m1,aR,aN⟩:=q;have m1:sp=none:=m1;subst m1;obtain⟨L,aa,ab⟩:=Pw (P:=P) aR;have ab:L.r=r:=ab;have:=bc.lq r off len cap L aa aN;rwa [ab] at this
  ·split
   ·rename_i q;obtain⟨rfl,rfl⟩:=q;exact .ti a
   ·exact .to _ rfl
 ·split
  ·exact .atom _ (by assumption)
  ·exact Sh (LH (μ:=ow P w) (SizeOf.sizeOf v) v (c5 _))
def qC (P:Program)(w:World)(g:Nat):Option (List Value×TypeId):=match rowOf w g with
 |some (cs,e)=>some (cs.map (kK P w),e)
 |none=>none
theorem QF{P:Program}{w:World}{g:Nat}{cs:List Value}{e:TypeId}(h:qC P w g=some (cs,e)):∃c,rowOf w g=some (c,e)/\cs=c.map (kK P w):=by
 unfold qC at h;split at h
 ·rename_i c bk q;injection h with h;injection h with aa ab
  subst aa;subst ab;exact⟨c,q,rfl⟩
 ·cases h
theorem ED{P:Program}{w:World}{g:Nat}{cs:List Value}{e:TypeId}(h:rowOf w g=some (cs,e)):qC P w g=some (cs.map (kK P w),e):=by
 unfold qC;rw[h]
def w' (P:Program)(w:World)(g:Nat):eF:=match qC P w g with
 |some (cs,e)=>.row cs e false 0 cs.length true
 |none=>.dead
def wb (P:Program)(w:World):aQ eF:=match tl ((List.range w.heap.size).map (w' P w)) 0 .leaf with|some t=>t|none=>.leaf
theorem D9{P:Program}{w:World}(g:Nat):(wb P w).get g=if g<w.heap.size then some (w' P w g) else none:=by
 obtain⟨T,b6⟩:=Rt ((List.range w.heap.size).map (w' P w)) 0 .leaf (fun k hk=>absurd hk (by omega));unfold wb;rw[b6];simp only
 rw[J5 b6];simp only[fB,true_and,gx,List.length_range,nh,Nat.sub_zero];split
 ·rename_i h;rw[jt,K8 h];rfl
 ·rfl
def sQ (P:Program)(w:World):ai:=⟨wb P w,w.heap.size,.leaf,0,w.heap.size⟩
theorem QG{P:Program}{w:World}{g:Nat}{x:List Value×TypeId}(h:qC P w g=some x):g<w.heap.size:=by
 obtain⟨cs,e⟩:=x;obtain⟨c,aa,_⟩:=QF h;obtain⟨bw,f,ab,_⟩:=QH aa;exact(E8.1 ab).1
theorem Oh{P:Program}{w:World}{g:Nat}{cs:List Value}{e:TypeId}(h:qC P w g=some (cs,e)):(sQ P w).mem.get g=some (.row cs e false 0 cs.length true):=by
 show(wb P w).get g=_;rw[D9,bg (QG h)];unfold w';rw[h]
theorem Og{P:Program}{w:World}{g:Nat}{b:eF}(h:(sQ P w).mem.get g=some b):g<w.heap.size/\(b=.dead\/∃cs e,qC P w g=some (cs,e)/\b=.row cs e false 0 cs.length true):=by
 have h:(wb P w).get g=some b:=h;rw[D9] at h;split at h
 ·rename_i aq;refine⟨aq,?_⟩;injection h with h
  unfold w' at h;cases al:qC P w g with
  |none=>rw[al] at h;exact .inl h.symm
  |some x=>obtain⟨cs,e⟩:=x;rw[al] at h;exact .inr ⟨cs,e,rfl,h.symm⟩
 ·cases h
theorem VY(P:Program)(w:World):bL P (fun k=>k<w.heap.size) w (ow P w) (sQ P w) w:=by
 have mlt:∀x L,ow P w x=some L->x<w.heap.size:=fun x L U=>by
  obtain⟨cs,e,aa,_⟩:=Bg U;exact QG (ED (P:=P) aa)
 refine⟨Kept.refl _ _,fun _ hk=>hk,?_,?_,mlt,?_,?_,?_,c5 _,?_,?_,?_⟩
 ·intro g L q;obtain⟨c,e,ab,rfl⟩:=Bg q;obtain⟨bw,f,aY,rfl⟩:=QH ab;refine⟨_,_,Oh (ED ab),aY,rfl,by simp,rfl,by simp,fun _=>by simp,fun i v v' x y=>?_,⟨fun off ag _ _=>by simpa using ag,fun q=>by cases q⟩⟩;rw[jt] at x;have kI:bw.toList[i]?=some v':=by simpa using y
  rw[kI] at x;injection x with x;subst x
  exact Cw v'
 ·intro x y gw gG dT U aF al;obtain⟨_,_,_,rfl⟩:=Bg U;obtain⟨_,_,_,rfl⟩:=Bg aF;exact absurd al dT
 ·intro x L U _;obtain⟨_,_,_,rfl⟩:=Bg U;rfl
 ·intro x L U aq _;have:=mlt x L U;have aq:w.heap.size<=x:=aq;omega
 ·intro g c e o f z s _ hm;obtain⟨aq,q⟩:=Og hm;rcases q with q|⟨cs,bk,aR,aN⟩
  ·cases q
  ·obtain⟨vd,aa,_⟩:=QF aR;refine⟨⟨g,vd.length,P.cellsOf bk⟩,?_⟩;unfold ow;rw[aa]
 ·intro x c e f z s hm;obtain⟨_,q⟩:=Og hm;rcases q with q|⟨_,_,_,q⟩<;>cases q
 ·intro f l x aA;cases aA
 ·intro f l aA;cases aA
def rO (P:Program)(w:World):an:=qC P w
theorem Zu(P:Program)(w:World):Inv w.heap.size (h7 [] (sQ P w) (rO P w)) (rO P w) [] (sQ P w):=by
 refine⟨⟨fun a aK=>?_,fun a aK=>?_,fun f az=>absurd az (Nat.not_lt_zero _),fun f _=>rfl,c5 _⟩,rfl,c5 _,c5 _,fun _ _ _=>rfl,fun _ _=>rfl,fun a c e h=>?_,an.le.refl _,fun a x aa ab=>?_,fun a b h=>(by cases h),(fun a b h=>by cases h),List.nodup_nil⟩
 ·refine⟨w' P w a,?_⟩;show(wb P w).get a=_;rw[D9,bg (show a<w.heap.size from aK)]
 ·show(wb P w).get a=none;rw[D9,a3 (by have aK:w.heap.size<=a:=aK;omega)]
 ·exact⟨_,_,_,_,Oh h⟩
 ·rw[show rO P w a=none from aa] at ab;cases ab
section
variable {K:dG}
theorem abH{w:World}{f:FuncId}{fn:Func}{c:Code}{args:List Value}{b5:Array Value}{b:Bool}(fv:K.Q.ok (fun k=>k<w.heap.size) w)(aq:K.g0=w.heap.size)(az:K.P.funcs[f]?=some fn)(ah:fn.body=some c)(aA:bF (ow K.P w) args b5.toList)(bY:Fn K f args [] (rO K.P w) (fun v m J=>v=.bool b)):
 Calls K.P f b5 w fun e a7=>e=.returned (.bool b)/\Below w.heap.size w a7:=by
 have av:Inv K.g0 (h7 [] (sQ K.P w) (rO K.P w)) (rO K.P w) [] (sQ K.P w):=by rw[aq];exact Zu K.P w
 obtain⟨v,H',ae,m',aa,ab,rfl⟩:=bY (sQ K.P w) av;have af:=aa _ w fv f args (sQ K.P w) (.returned (.bool b)) H' (by unfold mC;rw[bg ⟨rfl,rfl,rfl⟩]) (ow K.P w) w b5.toList (VY K.P w) aA;rcases af with⟨v,v',a7,bd,_,q,_⟩|⟨_,q⟩
 ·rw[zR az ah (K.eB.num f fn az (by rw[ah];rfl))] at q;cases q
 ·refine Calls.mono q fun bk a7 cc=>?_;obtain⟨bd,cm,cn,cR⟩:=cc;cases bk with
  |returned v'=>
   have ay:bc bd (.bool b) v':=cR;rw[ay.zw];exact⟨rfl,cm.below.below⟩
  |panicked c=>exact cR.elim
  |outgrown=>exact cR.elim
theorem Fn.closed{H0:ai}{f:FuncId}{fn:Func}{c:Code}{v:Value}{J:an}(ao:plain v=true)(az:K.P.funcs[f]?=some fn)(ah:fn.body=some c)(hN:∀B w,K.Q.ok B w->Laid K.P w H0/\Cj H0 B)
 (aL:∀w,Laid K.P w H0->Calls K.P f #[] w fun e a7=>e=.returned v/\Below w.heap.size w a7):Fn K f [] [] J (fun u m' ae=>u=v/\m'=[]/\ae=J):=by
 intro H av;refine⟨v,H,J,[],fun B w0 fv=>?_,av,rfl,rfl,rfl⟩;obtain⟨sL,ep⟩:=hN B w0 fv;intro cz b5 H' e qQ he μ w afR h aA;unfold mC at he;split at he
 ·rename_i q;obtain⟨rfl,rfl,rfl⟩:=q;simp only[b9,c'] at he;obtain⟨rfl,rfl⟩:=he;obtain rfl:=aA.ji;refine .inr ⟨zR az ah (K.eB.num cz fn az (by rw[ah];rfl)) _ w,?_⟩;refine Calls.mono (aL w (sL.ff ep h.below)) fun bk a7 ⟨nu,vN⟩=>?_;subst nu;exact⟨μ,h.grow vN,Step.refl _ _,mZ ao⟩
 ·cases he
def Kp(P:Program)(H0:ai):ek P where
 ok B w:=Laid P w H0/\Cj H0 B
 up B w0 gW g6 h ep hk:=⟨h.1.ff h.2 hk,fun g b aq ah=>ep g (h.2 g b aq ah)⟩
end
theorem RN{b:Option Addr}(h:addrEq b b=true)(l c n:Nat):c4 (n+1) (.slice b l c) (.slice b l c)=true:=by
 show(addrEq b b&&Nat.beq l l&&Nat.beq c c)=true;rw[gH,gH,h];rfl
theorem aeJ{n:Nat}:∀{l:List Value},(∀v∈l,c4 n v v=true)->c4 (n+1) (.agg l.toArray) (.agg l.toArray)=true:=by
 intro l h;show gP (c4 n) l l=true;induction l with
 |nil=>rfl
 |cons a l aP=>
  show(c4 n a a&&gP (c4 n) l l)=true;rw[h a (.head _),aP (fun v ay=>h v (.tail _ ay))];rfl
theorem aeM{n:Nat}:∀v∈([]:List Value),c4 n v v=true:=fun v ay=>by cases ay
theorem aeL{n:Nat}{a:Value}{l:List Value}(h:c4 n a a=true)(aA:∀v∈l,c4 n v v=true):∀v∈a::l,c4 n v v=true:=fun v ay=>by
 rcases gj.1 ay with rfl|q
 ·exact h
 ·exact aA v q
section
variable {K:dG}{B:dt}{o:Oper}{n:Nat}{ds:dQ}{l:List (Nat×Value)}{m m':aU}{J:an}{eg:b3->aU->an->Prop}{d:Nat}{cB:Exit->b3->aU->an->Prop}
theorem ad.mY{c:Code}{E:b3}(ao:m'.Perm m)(h:ad K B c E m' J cB):ad K B c E m J cB:=fun S H ak av=>h S H ak (av.perm ao.symm)
theorem ko.perm{g0 sz k:Nat}{v:Value}{cs:List Value}(ao:m.Perm m')(h:ko g0 B J m sz v k cs):ko g0 B J m' sz v k cs:=fun H av=>h H (av.perm ao.symm)
theorem BC{α:Type}{x:α}{ba r:List α}:(x::(ba++r)).Perm (ba++x::r):=List.perm_middle.symm
theorem Qc{α:Type}{x y:α}{ba r:List α}:(x::y::(ba++r)).Perm (ba++x::y::r):=(BC.cons x).trans BC
theorem Qd{α:Type}{x y z:α}{ba r:List α}:(x::y::z::(ba++r)).Perm (ba++x::y::z::r):=(Qc.cons x).trans BC
theorem abU{α:Type}{x y z u:α}{ba r:List α}:(x::y::z::u::(ba++r)).Perm (ba++x::y::z::u::r):=(Qd.cons x).trans BC
theorem ko.own{g0:Nat}{e:TypeId}{sz k c a:Nat}{cells:List Value}(hm:(a,dh.row cells e)∈m)(aA:cells.length=k*sz):ko g0 B J m sz (.slice (some ⟨a,0,none⟩) k c) k cells:=by
 intro H av;refine⟨rfl,?_⟩;have g:=(av.own _ _ hm).1;have g:H.mem.get a=some (.row cells e false 0 0 false):=g;unfold h1;cases k with
 |zero=>
  simp only
  rw[nV] at aA;rw[pH aA]
 |succ k=>
  simp only[g];rw[tL,kJ,uJ (by omega),ib (by omega)]
theorem R1{c:Call}{t gu e:TypeId}{sz k j:Nat}{fz cells new:List Value}{v x:Value}{ba dV:aU}{dZ:TypeDesc}(ag:o.op=.call c)(aL:c.callee=.builtin .append)(au:o.dst=some d)(aw:Nat.blt d n=true)(aK:hJ l c.args.toList=some [v,x])(pc:c.argTypes.toList=[t,gu])(aM:iY K.P t=some (e,sz,fz))(iS:K.P.underlying gu=some dZ)(rE:∀i,dZ≠.int i)
 (ay:Acc e sz v k cells ba)(hm:m.Perm (ba++dV))(U:ko K.g0 B J m sz x j new)(dI:new.length=j*sz)(dP:new.all ev=true)(aA:k+j<=1000000)
 (h:∀w hP,Acc e sz w (k+j) (cells++new) hP->eg ⟨n,ds,(d,w)::l⟩ (hP++dV) J):hU K B o ⟨n,ds,l⟩ m J eg:=fun S H ak av=>
 ae6 ag aL au aw aK pc aM iS rE ay rfl (U.perm hm) dI dP aA h S H ak (av.perm hm)
theorem Acc.m0{c:Code}{e:TypeId}{sz k:Nat}{v:Value}{cells:List Value}{ba dV:aU}{E:b3}(h:Acc e sz v k cells ba)(hm:m.Perm (ba++dV))(hk:∀ae,J.le ae->ey ae e sz v k cells->ad K B c E dV ae cB):ad K B c E m J cB:=
 ad.mY hm.symm (h.dB rfl hk)
end
def zM (hX off cap sz:Nat)(a b:Int):Value:=
 if cap=cu then .slice (some ⟨hX,off+a.toNat*sz,none⟩) (b -a).toNat cu
 else if cap=a.toNat then .slice (some ⟨hX,off,none⟩) (b -a).toNat (cap -a.toNat)
 else .slice (some ⟨hX,off+a.toNat*sz,none⟩) (b -a).toNat (cap -a.toNat)
section
variable {K:dG}{B:dt}{o:Oper}{n:Nat}{ds:dQ}{l:List (Nat×Value)}{m m':aU}{J:an}{eg:b3->aU->an->Prop}{d:Nat}
theorem Uy{e:TypeId}{hX off k cap sz:Nat}{cs:List Value}{a b:Int}(ay:ey J e sz (.slice (some ⟨hX,off,none⟩) k cap) k cs)(hk:0<k)(aX:0<=a)(aa:a<=b)(ab:b<=k):
 ey J e sz (zM hX off cap sz a b) (b -a).toNat ((cs.drop (a.toNat*sz)).take ((b -a).toNat*sz)):=by
 generalize og:k=ZG at ay;have pd:=ay;cases ay with
 |ik a off cap h=>exact absurd hk (by omega)
 |@row hX off k cap cells cs bk cX cM fo ix qA=>
  subst og;have hlen:k*sz<=(cells.drop off).length:=by
   have:((cells.drop off).take (k*sz)).length=k*sz:=by rw[cM];exact fo
   rw[gp] at this;omega
  have hle:a.toNat*sz+(b -a).toNat*sz<=k*sz:=by
   rw[<-iC];exact lY _ (by omega)
  have iq:(cells.drop (off+a.toNat*sz)).take ((b -a).toNat*sz)=(cs.drop (a.toNat*sz)).take ((b -a).toNat*sz):=by
   rw[<-cM,Fi,tw,ze,g9 (by omega)]
  have kc:((cs.drop (a.toNat*sz)).take ((b -a).toNat*sz)).length=(b -a).toNat*sz:=by
   rw[gp,r',fo];omega
  unfold zM;split
  ·exact .row cX iq kc (fun q=>absurd rfl q) (fun _=>qA (by assumption))
  ·rename_i aL;split
   ·have fe:(b -a).toNat=0:=by have:=(ix aL).1;omega
    have:(cs.drop (a.toNat*sz)).take ((b -a).toNat*sz)=[]:=by rw[fe];simp
    rw[this,fe];exact .ik _ _ _ (by have:=(ix aL).2;omega)
   ·refine .row cX iq kc (fun _=>⟨by have:=(ix aL).1;omega,by have:=(ix aL).2;omega⟩) (fun q=>?_);have:=(ix aL).2;omega
theorem aeF{t e:TypeId}{x:Operand}{gE ar:Option Operand}{w:Value}{hX off cap k sz:Nat}{fz cs:List Value}{a b:Int}(ag:o.op=.slice t x gE ar none)(U:bH l x=some (.slice (some ⟨hX,off,none⟩) k cap))(aM:iY K.P t=some (e,sz,fz))(ay:ey J e sz (.slice (some ⟨hX,off,none⟩) k cap) k cs)(hk:0<k)(hM:tE l 0 gE=some a)(kd:tE l k ar=some b)(aX:0<=a)(aa:a<=b)(ab:b<=k)(hw:zM hX off cap sz a b=w):cC K B o n ds l m J w:=by
 obtain⟨hu,dA,gq,z,gJ,a0,br,rfl,bN,cW,dj⟩:=r0 aM;intro call aE S H ak av;subst hw;generalize og:k=ZG at ay;cases ay with
 |ik a off cap h=>exact absurd hk (by omega)
 |@row hX off k cap cells cs bk cX cM fo ix qA=>
  subst og;obtain⟨ol,Jj,wi⟩:=vc (ij:=0) (top:=b.toNat) ak H hM aX (by omega) rfl;have gd:∀w,jN K.P H t (.slice (some ⟨hX,off,none⟩) k cap) ol (match g4 S.T H ar with|some x=>x|none=>none)=some w->ct K.P call aE S H o=some (.val w H):=fun w hw=>by
   unfold ct eA;simp only[ag];show lN K.P _ t (aW S.T H x) (g4 S.T H gE) (g4 S.T H ar)=_;rw[c1 ak H U,Jj];rcases F1 ak H kd with⟨_,_,q⟩|⟨_,_,_,_,q⟩
   ·rw[q] at hw ⊢;unfold lN;simp only;rw[show jN K.P H t (.slice (some ⟨hX,off,none⟩) k cap) ol none=some w from hw];rfl
   ·rw[q] at hw ⊢;unfold lN;simp only;rw[show jN K.P H t (.slice (some ⟨hX,off,none⟩) k cap) ol _=some w from hw];rfl
  have aC:(b -a).toNat=b.toNat -a.toNat:=by omega
  obtain⟨Jl,of,abO,os,cc⟩:=av.dB _ _ _ cX;refine gd _ ?_;unfold zM;by_cases aL:cap=cu
  ·subst aL;obtain⟨Bt,qp,qq⟩:=vc (ij:=k) (top:=k) ak H kd (by omega) (by omega) rfl;rw[bg rfl,qp];unfold jN;simp only[hu,dA,gH,b1,cc,qA rfl,qq,wi,lT,da];rw[aC];rfl
  ·obtain⟨Bt,qp,qq⟩:=vc (ij:=k) (top:=cap) ak H kd (by omega) (by have:=(ix aL).1;omega) rfl;have Ah:Nat.beq cap cu=false:=by
    cases q:Nat.beq cap cu
    ·rfl
    ·exact absurd (dX q) aL
   rw[a3 aL];by_cases p1:cap=a.toNat
   ·rw[bg p1,qp];unfold jN;simp only[hu,dA,Ah,da,qq,wi];rw[show Nat.beq cap a.toNat=true by rw[p1];exact gH _,b1,aC];rfl
   ·rw[a3 p1,qp];unfold jN;simp only[hu,dA,Ah,da,qq,wi];have:Nat.beq cap a.toNat=false:=by
     cases q:Nat.beq cap a.toNat
     ·rfl
     ·exact absurd (dX q) p1
    rw[this,da,aC];rfl
theorem Acc.xv{e:TypeId}{sz k:Nat}{v:Value}{cells:List Value}{ba:aU}(h:Acc e sz v k cells ba):∃b c,v=.slice b k c/\addrEq b b=true:=by
 cases h with
 |nil=>exact⟨_,_,rfl,rfl⟩
 |ik a=>exact⟨_,_,rfl,by simp[addrEq]⟩
 |opn h=>exact⟨_,_,rfl,by simp[addrEq]⟩
 |cap=>exact⟨_,_,rfl,by simp[addrEq]⟩
end
end
end Go.Opn
namespace Go.Opn
noncomputable section
open Go.Cre Go.RowKit Go.ChangeShapes
theorem LK{b off i:Nat}{sp:Option Nat}(h:sp=none):(⟨b,off,sp⟩:Addr).add i=⟨b,off+i,none⟩:=by
 subst h;unfold Addr.add;split
 ·rename_i q;subst q;rfl
 ·rfl
theorem Ge{W:World}{base k:Nat}{a:Addr}{cs:List Value}(h:W.cells? base a k=some cs)(hk:0<k):∃c e f,W.heap[a.block]?=some (.cells c e f)/\a.spot=none/\cs.length=k/\∀j,j<k->c[a.off+j]?=cs[j]?:=by
 obtain⟨_,ab,aY⟩:=World.cells?_some h;obtain⟨b,off,sp⟩:=a;have aX:=aY 0 hk;have jO:∃v,cs[0]?=some v:=⟨cs[0]'(by omega),eO _⟩;obtain⟨jm,YW⟩:=jO;have ku:(⟨b,off,sp⟩:Addr).add 0=⟨b,off,sp⟩:=rfl;rw[ku,YW] at aX;unfold World.cell? at aX;cases cS:W.heap[b]? with
 |none=>rw[show(⟨b,off,sp⟩:Addr).block=b from rfl,cS] at aX;cases aX
 |some o=>
  rw[show(⟨b,off,sp⟩:Addr).block=b from rfl,cS] at aX;cases o with
  |cells c e f=>
   simp only at aX;cases sp with
   |some s=>simp at aX
   |none=>
    refine⟨c,e,f,by first|rfl|exact cS,rfl,ab,fun j a5=>?_⟩;have:=aY j a5;rw[LK rfl] at this;unfold World.cell? at this;rw[show(⟨b,off+j,none⟩:Addr).block=b from rfl,cS] at this;simpa using this
  |_=>cases aX
section
variable {H:Type}{enc:TypeId×Value->H}{P:Program}{W:World}{fuel:Nat}{t e:TypeId}{cs:List Value}{x:DataW H×List MemPlace}
abbrev yS(enc:TypeId×Value->H)(P:Program)(W:World):=DataW.trod enc P W 0 (fun _=>true) true
theorem Q3{sz:Nat}(aM:P.underlying t=some (.slice e))(dA:P.cellsOf e=sz)(aX:0<sz)(h:yS enc P W fuel t cs=some x):
 ∃(b:Option Addr) (n c:Nat) (rows:List Value) (el:List (List Value)) (ds:List (DataW H×List MemPlace)) (m:Nat),cs.map (kK P W)=[.slice b n c]/\cs.length=1/\(∀bk,ey (rO P W) bk sz (.slice b n c) n (rows.map (kK P W)))/\el.length=n/\ds.length=n/\
  (∀i cw,el[i]?=some cw->cw.length=sz/\(rows.drop (i*sz)).take sz=cw/\∃y,ds[i]?=some y/\yS enc P W m e cw=some y)/\
  (∀y∈ds,∀z∈y.1.weights P e,z∈x.1.weights P t)/\n<=maxLen:=by
 rcases DataW.trod_slice aM h with⟨rfl,rfl⟩|⟨a,len,cap,tM,rest,n,rfl,rfl,rfl,aa,ab,aY,bu,gI,hK,sA⟩
 ·exact⟨none,0,0,[],[],[],0,by rw[u0,Cv rfl];rfl,rfl,fun bk=>.nil,rfl,rfl,(fun i cw q=>by simp at q),(fun y aF=>by cases aF),fB _⟩
 ·have kO:cap<cu:=hC aY (by unfold maxLen cu;decide);have hw:∀y∈tM,∀z∈y.1.weights P e,z∈(DataW.slice (tM.map (·.1)) (rest.map (·.1)):DataW H).weights P t:=fun y aF z a0=>by
   rw[DataW.weights,aM];refine SB _ (tt _ ?_);have:∀l:List (DataW H×List MemPlace),y∈l->z∈DataW.weightsAll P e (l.map (·.1)):=fun l=>by
    induction l with
    |nil=>intro q;cases q
    |cons d r aP=>
     intro q;rw[u0,DataW.weightsAll];rcases gj.1 q with rfl|q
     ·exact tt _ a0
     ·exact d' _ (aP q)
   exact this tM aF
  have xR:∀i,i<len->∃cw y,W.cells? 0 (a.add (i*sz)) sz=some cw/\tM[i]?=some y/\yS enc P W n e cw=some y:=fun i ar=>by
   have GY:=gI i ar;rw[dA] at GY;have jP:i<tM.length:=by omega
   rw[eO jP] at GY;obtain⟨cw,aR,aN⟩:=SV.1 GY;exact⟨cw,_,aR,eO jP,aN⟩
  by_cases aA:len=0
  ·subst aA;have XI:tM=[]:=uZ.1 bu;subst XI;by_cases al:a.spot=none/\(rowOf W a.block).isSome
   ·refine⟨some a,0,cap,[],[],[],n,?_,rfl,fun bk=>?_,rfl,rfl,(fun i cw q=>by simp at q),hw,fB _⟩
    ·show[kK P W _]=_;unfold kK;simp only;rw[bg ⟨al.1,al.2,kO⟩]
    ·obtain⟨b,off,sp⟩:=a;obtain⟨rfl,_⟩:=al;exact .ik _ _ _ kO
   ·have jO:cap=0:=by
     apply Sg;intro aL
     obtain⟨cX,cM⟩:=hK rfl;have a5:=cM 0 (by omega);rw[dA] at a5;have WB:0<rest.length:=by omega
     rw[eO WB] at a5;obtain⟨cw,aR,aN⟩:=SV.1 a5;have ku:a.add ((0+0)*sz)=a:=by simp[Addr.add]
     rw[ku] at aR;obtain⟨c,bk,f,cm,cn,_⟩:=Ge aR aX;exact al ⟨cn,by rw[JH cm];rfl⟩
    subst jO;refine⟨some ⟨0,0,some 0⟩,0,0,[],[],[],n,?_,rfl,fun bk=>.tN,rfl,rfl,(fun i cw q=>by simp at q),hw,fB _⟩;show[kK P W _]=_;unfold kK;simp only;rw[a3 (fun q=>al ⟨q.1,q.2.1⟩),bg (by simp)]
  ·obtain⟨iM,qJ,aR,aN,bG⟩:=xR 0 (by omega);have ku:a.add (0*sz)=a:=by simp[Addr.add]
   rw[ku] at aR;obtain⟨c,bk,f,cm,cn,cR,fk⟩:=Ge aR aX;obtain⟨b,off,sp⟩:=a;have cn:sp=none:=cn;subst cn;have cm:W.heap[b]?=some (.cells c bk f):=cm;have kV:=JH cm;have NL:∀i,i<len->∃cw y,tM[i]?=some y/\yS enc P W n e cw=some y/\cw.length=sz/\∀j,j<sz->c.toList[off+(i*sz+j)]?=cw[j]?:=fun i ar=>by
    obtain⟨cw,y,a9,a4,bJ⟩:=xR i ar;rw[LK rfl] at a9;obtain⟨bw,ME,cz,cE,_,jT,mS⟩:=Ge a9 aX;have cE:W.heap[b]?=some (.cells bw ME cz):=cE;rw[cm] at cE;injection cE with cE;injection cE with cE _ _
    subst cE;exact⟨cw,y,a4,bJ,jT,fun j a5=>by have:=mS j a5;rw[show off+(i*sz+j)=off+i*sz+j by omega];simpa using this⟩
   have hlen:off+len*sz<=c.toList.length:=by
    obtain⟨cw,y,_,_,bJ,cx⟩:=NL (len -1) (by omega);have:=cx (sz -1) (by omega);rw[eO (show sz -1<cw.length by omega)] at this;have agn:off+((len -1)*sz+(sz -1))<c.toList.length:=by
     rcases hr (off+((len -1)*sz+(sz -1))) c.toList.length with q|q
     ·exact q
     ·rw[qT q] at this;cases this
    have:len*sz=(len -1)*sz+sz:=by
     rw[<-zn];congr 1;omega
    omega
   refine⟨some ⟨b,off,none⟩,len,cap,(c.toList.drop off).take (len*sz),(List.range len).map fun i=>(c.toList.drop (off+i*sz)).take sz,tM,n,?_,rfl,fun ME=>?_,by simp,bu,fun i cw ar=>?_,hw,eh ab aY⟩
   ·show[kK P W _]=_;unfold kK;simp only;rw[bg (by simp only[true_and];exact⟨by rw[kV];rfl,kO⟩)]
   ·refine .row (ED kV) (by rw[<-List.map_drop,<-zh]) ?_ (fun _=>⟨ab,kO⟩) (fun q=>by omega);rw[gx,gp,r'];omega
   ·rw[jt] at ar;have HE:i<len:=by
     rcases hr i len with q|q
     ·exact q
     ·rw[qT (by simpa using q)] at ar;cases ar
    rw[K8 HE] at ar;simp only[Cr,b9] at ar;obtain⟨CM,y,a9,a4,bJ,cx⟩:=NL i HE;have hle:i*sz+sz<=len*sz:=by rw[<-zn];exact lY _ HE
    have iq:(c.toList.drop (off+i*sz)).take sz=CM:=by
     refine List.ext_getElem? fun j=>?_;rw[lW];split
     ·rename_i a5;rw[uY,<-cx j a5];congr 1;omega
     ·rw[qT (by omega)]
    rw[iq] at ar;subst ar;refine⟨bJ,?_,y,a9,a4⟩;rw[<-iq,Fi,ze,tw,g9 (by omega)]
theorem Zt(aM:P.underlying t=some (.slice e))(he:P.underlying e=some (.int .i64))(dA:P.cellsOf e=1)(h:yS enc P W fuel t cs=some x):
 ∃(l:List Int) (b:Option Addr) (c:Nat),cs.map (kK P W)=[.slice b l.length c]/\∀bk,ey (rO P W) bk 1 (.slice b l.length c) l.length (l.map (Value.int .i64)):=by
 obtain⟨b,n,c,rows,el,ds,m,aa,ab,aY,bu,gI,hK,_,_⟩:=Q3 aM dA (by omega) h;have hlen:rows.length=n:=by have:=(aY 0).len;simpa using this
 have hint:∀v∈rows,∃i:Int,v=.int .i64 i:=fun v ay=>by
  obtain⟨j,a5⟩:=K7 ay;have agQ:j<n:=by have:=(hq.1 a5).1;omega
  obtain⟨aR,aN,y,bG,dd⟩:=hK j _ (eO (show j<el.length by omega));obtain⟨i,cX,_⟩:=DataW.trod_int he dd;rw[cX] at aN;rw[iZ] at aN;have:((rows.drop j).take 1)[0]?=some v:=by rw[lW,bg (by omega),uY,nT];exact a5
  rw[aN] at this;injection this with this
  exact⟨i,this.symm⟩
 have aA:∃l:List Int,rows=l.map (Value.int .i64):=by
  clear aY hK hlen
  induction rows with
  |nil=>exact⟨[],rfl⟩
  |cons v r aP=>
   obtain⟨i,ar⟩:=hint v (.head _);obtain⟨l,aA⟩:=aP (fun v ay=>hint v (.tail _ ay));exact⟨i::l,by rw[ar,aA];rfl⟩
 obtain⟨l,rfl⟩:=aA;have p8:n=l.length:=by simpa using hlen.symm
 subst p8;refine⟨l,b,c,aa,fun bk=>?_⟩;have:=aY bk;have aC:(l.map (Value.int .i64)).map (kK P W)=l.map (Value.int .i64):=by
  rw[List.map_map];exact List.map_congr_left fun i _=>Cv rfl
 rwa [aC] at this
theorem OS(aM:P.underlying t=some (.int .i64))(h:yS enc P W fuel t cs=some x):∃i:Int,cs=[.int .i64 i]/\cs.map (kK P W)=[.int .i64 i]:=by
 obtain⟨i,rfl,_⟩:=DataW.trod_int aM h;exact⟨i,rfl,by rw[u0,Cv rfl];rfl⟩
end
end
end Go.Opn
namespace Go.Opn
noncomputable section
open Go.Cre Go.RowKit Go.ChangeShapes Go.WideShapes
def ql {α:Type}:List (Nat×α)->Nat->Option α
 |[],_=>none
 |(u,v)::l,t=>bif Nat.beq t u then some v else ql l t
def yu:Nat->List Nat->Bool
 |_,[]=>false
 |t,u::l=>bif Nat.beq t u then true else yu t l
theorem Ru{H:Type}{enc:TypeId×Value->H}{P:Program}{W sk:World}(aA:laidOutB P=true)(ah:Below W.heap.size W sk){sp:Nat->Bool}:
 ∀{e1:List TypeId} {vs:List Value} {ds:List (DataW H)} {ps:List MemPlace},(∀t∈e1,P.readableRec t=true/\t<P.types.size)->DataW.TrodAll enc P W 0 (fun _=>true) true e1 vs ds ps->(∀p∈ps,p.block<W.heap.size)->(∀p∈ps,sp p.block=true)->DataW.TrodAll enc P sk 0 sp true e1 vs ds ps
 |[],_,_,_,_,h,_,_=>by
  obtain⟨rfl,rfl,rfl⟩:=trodAll_nil h;rfl
 |t::e1,_,_,_,al,h,cD,af=>by
  obtain⟨v,aeN,d,rh,a,b,rfl,rfl,rfl,aa,ab⟩:=trodAll_cons h
  exact⟨a,b,WideElems.Trod_stays aA (al t (.head _)).1 (al t (.head _)).2 aa (fun x U=>ah.same (cD x (tt _ U))) (fun x U=>af x (tt _ U)),
   Ru aA ah (fun u hu=>al u (.tail _ hu)) ab (fun p ao=>cD p (d' _ ao)) (fun p ao=>af p (d' _ ao)),rfl⟩
theorem ab5{H:Type}{enc:TypeId×Value->H}{P:Program}{f:Func}{s:ChangeSpec}{apart fresh handsOn:Bool}{W sk:World}{args:Array Value}{v:Value}{ds gs:List (DataW H)}{before:List MemPlace}
 (pX:DataW.Whole enc P f.params.toList s.vars apart W args.toList ds gs before)(ah:Below W.heap.size W sk)(aA:laidOutB P=true)(YE:∀t∈f.params.toList,P.readableRec t=true/\t<P.types.size)(ay:s.vars=[])
 (mJ:(s.fn H (ds++gs)).args=ds)(vZ:(s.fn H (ds++gs)).vars=[])
 (mN:∀(b:Nat) (sp:Nat->Bool) (au:Bool),DataW.TrodAll enc P sk b sp au f.resultTypes.toList (v.resultList f.resultTypes.size) (s.fn H (ds++gs)).results []):
 s.post enc P f apart fresh handsOn false W args v sk:=by
 have cD:=pX.lt;obtain⟨p,q,aa,ab,rfl,aY,bu⟩:=id pX;have vT:∀x∈p,x.block<W.heap.size:=fun x U=>cD x (tt _ U);refine⟨ds,gs,p++q,[],p,[],pX,mN _ _ _,?_,?_,World.keptBut_mono (fun p ao=>by cases ao) (ah.frame fun p=>p∈([]:List MemPlace)),fun h=>by cases h⟩
 ·rw[mJ];exact Ru aA ah YE aa vT (fun x U=>by simpa using vT x U)
 ·rw[ay,vZ];rfl
end
end Go.Opn
set_option maxRecDepth 100000
namespace Go.Opn
noncomputable section
open Go.Cre Go.RowKit Go.Proofs
theorem ov:Tryz.prog.follows .mixedOrders=true:=by kernel_rfl
theorem num:Ja Tryz.prog=true:=by kernel_rfl
abbrev hE:Program:=Tryz.prog
abbrev aO (Q:ek Tryz.prog)(g0:Nat):dG:=⟨Tryz.prog,xx Tryz.prog,Qe ov num,Q,g0⟩
section
variable (Q:ek hE)(g0:Nat)
def FJ:List (Nat×Option Nat):=[(3,none),(4,none),(5,none),(22,none),(27,none),(29,none),(33,none),(35,some 3),(40,none),(42,none),(44,some 2),(45,none),(46,none),(63,none),(74,none),(79,none),(81,some 3),(102,none),(187,none)]
theorem Tc:FJ.map (fun x=>oR hE x.1)=FJ.map (fun x=>some (id x.2)):=by kernel_rfl
def J3:List (Nat×Nat):=[(3,1),(4,1),(29,1),(35,3),(40,1),(42,1),(44,2),(46,1),(63,1),(74,1),(81,3),(93,1),(102,1)]
theorem adT:J3.map (fun x=>ea hE x.1)=J3.map (fun x=>some (id x.2)):=by kernel_rfl
def GJ:List (Nat×Nat):=[(2500,0),(2501,1),(3500,0),(3501,1),(3502,2),(4400,0),(4401,1),(8100,0),(8101,1),(8102,2),(9300,0)]
theorem V0:GJ.map (fun x=>xu hE (x.1 / 100) (x.1 % 100))=GJ.map (fun x=>some (id x.2)):=by kernel_rfl
def GL:List (Nat×(Nat×Nat)):=[(3502,33,2)]
theorem V':GL.map (fun x=>zZ hE (x.1 / 100) (x.1 % 100))=GL.map (fun x=>some (id x.2)):=by kernel_rfl
def FP:List (Nat×(Nat×Nat×Nat)):=[(191,64,5,1)]
theorem Tp:FP.map (fun x=>tD hE x.1)=FP.map (fun x=>some (id x.2)):=by kernel_rfl
def Gt:List (Nat×Nat):=[(22,1),(27,3),(32,1),(33,1),(42,1),(45,1),(46,1),(63,3),(74,1),(79,1)]
theorem Vi:Gt.map (fun x=>xl hE x.1)=Gt.map (fun x=>some (id x.2)):=by kernel_rfl
def Gm:List (Nat×IntKind):=[(30040,.u32),(30102,.u64),(30156,.u64),(50003,.i64),(400003,.i64),(400102,.u64),(1020003,.i64),(1020040,.u32),(1560003,.i64)]
theorem Uz:Gm.map (fun x=>isInt hE (x.1 / 10000) (x.1 % 10000))=Gm.map (fun x=>some (id x.2)):=by kernel_rfl
def F2:List (Nat×(Sum (List (Nat×Nat)) Nat×List Value)):=[(25,.inl [(0,1),(1,1)],[(.slice none 0 0),(.int .i64 (0))]),(35,.inl [(0,1),(1,1),(2,1)],[(.bool false),(.slice none 0 0),(.slice none 0 0)]),(44,.inl [(0,1),(1,1)],[(.int .i64 (0)),(.slice none 0 0)]),(81,.inl [(0,1),(1,1),(2,1)],[(.bool false),(.slice none 0 0),(.slice none 0 0)]),(93,.inl [(0,1)],[(.int .i64 (0))])]
theorem Tv:F2.map (fun x=>zz hE x.1)=F2.map (fun x=>some (id x.2)):=by kernel_rfl
def OW:List Nat:=[22,27,32,33,42,45,46,63,74,79]
theorem isOk:OW.all (fun t=>isSlice hE t)=true:=by kernel_rfl
def OX:List Nat:=[]
theorem ZA:OX.all (fun t=>rN hE t)=true:=by kernel_rfl
def PH:List Nat:=[93]
theorem aaF:PH.all (fun t=>Bn hE t)=true:=by kernel_rfl
theorem B4:fG (aO Q g0).P 29=some (.int .i64 (0)):=by kernel_rfl
theorem jY:fG (aO Q g0).P 35=some (.agg #[(.bool false),(.slice none 0 0),(.slice none 0 0)]):=by kernel_rfl
theorem E5:fG (aO Q g0).P 44=some (.agg #[(.int .i64 (0)),(.slice none 0 0)]):=by kernel_rfl
theorem R7:fG (aO Q g0).P 46=some (.slice none 0 0):=by kernel_rfl
theorem afg:fG (aO Q g0).P 63=some (.slice none 0 0):=by kernel_rfl
theorem afh:fG (aO Q g0).P 74=some (.slice none 0 0):=by kernel_rfl
theorem k5:fG (aO Q g0).P 81=some (.agg #[(.bool false),(.slice none 0 0),(.slice none 0 0)]):=by kernel_rfl
theorem BK:iY (aO Q g0).P 22=some (3,1,[(.int .i64 (0))]):=by kernel_rfl
theorem JM:iY (aO Q g0).P 27=some (35,3,[(.bool false),(.slice none 0 0),(.slice none 0 0)]):=by kernel_rfl
theorem iy:iY (aO Q g0).P 33=some (40,1,[(.int .u32 (0))]):=by kernel_rfl
theorem JN:iY (aO Q g0).P 42=some (22,1,[(.slice none 0 0)]):=by kernel_rfl
theorem QP:iY (aO Q g0).P 46=some (27,1,[(.slice none 0 0)]):=by kernel_rfl
theorem QQ:iY (aO Q g0).P 63=some (81,3,[(.bool false),(.slice none 0 0),(.slice none 0 0)]):=by kernel_rfl
theorem QR:iY (aO Q g0).P 74=some (63,1,[(.slice none 0 0)]):=by kernel_rfl
theorem kZ:iY (aO Q g0).P 79=some (102,1,[(.int .u64 (0))]):=by kernel_rfl
theorem aed:(aO Q g0).P.underlying 22=some (.slice 3):=by kernel_rfl
theorem aee:(aO Q g0).P.underlying 27=some (.slice 35):=by kernel_rfl
theorem tm:(aO Q g0).P.underlying 33=some (.slice 40):=by kernel_rfl
theorem aef:(aO Q g0).P.underlying 42=some (.slice 22):=by kernel_rfl
theorem aeg:(aO Q g0).P.underlying 46=some (.slice 27):=by kernel_rfl
theorem aeh:(aO Q g0).P.underlying 74=some (.slice 63):=by kernel_rfl
theorem J':(aO Q g0).P.underlying 79=some (.slice 102):=by kernel_rfl
theorem Zm:isIface (aO Q g0).P 20=true:=by kernel_rfl
end
end
end Go.Opn
