/- A part of the proof of ResumeBytes. -/
import Derived.Test.YtkmfhjilfjecmaaGreatDoorCau
import Derived.Test.YtkmfhjilfjecmaaGreatDoorCat
import Derived.Test.YtkmfhjilfjecmaaGreatDoorCas
set_option linter.unusedVariables false
set_option linter.unusedSimpArgs false
namespace Go.Opn
noncomputable section
open Go.Cre Go.RowKit
section
variable {K:eE}{B:dV}{o:Oper}{n:Nat}{ds:e7}{l:List (Nat×Value)}{m m':aN}{J:aH}{ey:cf->aN->aH->Prop}{d:Nat}
def Dz (k:IntKind)(a b:Int):BinOp->Option Value
 |.quo=>some (.int k (k.wrap (a.tdiv b)))
 |.rem=>some (.int k (a.tmod b))
 |_=>none
theorem Z5{op:BinOp}{t eS:TypeId}{x y:Operand}{k:IntKind}{a b:Int}{v:Value}(ar:o.op=.binOp op t x y eS)(U:b6 l x=some (.int k a))(ai:b6 l y=some (.int k b))(ay:Dz k a b op=some v)(ap:b≠0):dm K B o n ds l m J v:=by
 intro call aR S H ax aJ;unfold cJ fe;simp only[ar];show pd K.P _ op t (bj S.T H x) (bj S.T H y)=_;rw[dy ax H U,dy ax H ai];show(bif uw k k then nj H k a b _ op else _)=_;rw[Ls,b7];have key:∀(yc:BinOp),op=yc->(yc=.quo\/yc=.rem)->gm K.P S.T H o=some (.val v H):=by
  intro yc e h;subst e;refine zS ax (by rw[ar];rfl) U ai rfl rfl ?_ ?_
  ·unfold execOp;simp only[ar];rw[lH ax H U,lH ax H ai];rcases h with rfl|rfl
   ·simp only[Dz,cp] at ay;subst ay;have aq:eY K.P (eqGuard .quo t x y (.int k a) (.int k b))=some ():=rfl;have rz:binOp .quo t (.int k a) (.int k b)=pure (.int k (k.wrap (a.tdiv b))):=by simp[binOp,Op.intDiv,ap]
    rw[eb (a:=.int k (k.wrap (a.tdiv b)))]
    ·rfl
    rw[eb aq,rz];rfl
   ·simp only[Dz,cp] at ay;subst ay;have aq:eY K.P (eqGuard .rem t x y (.int k a) (.int k b))=some ():=rfl;have rz:binOp .rem t (.int k a) (.int k b)=pure (.int k (a.tmod b)):=by simp[binOp,Op.intDiv,ap]
    rw[eb (a:=.int k (a.tmod b))]
    ·rfl
    rw[eb aq,rz];rfl
  ·rcases h with rfl|rfl<;>simp only[Dz,cp] at ay<;>subst ay<;>rfl
 cases op<;>simp only[Dz,reduceCtorEq] at ay
 ·exact key _ rfl (.inl rfl)
 ·exact key _ rfl (.inr rfl)
end
structure fc {α:Type} (J:aH) (e:TypeId) (sz:Nat) (R:α->List Value->Prop) (v:Value) (xs:List α):Prop where
 ex:∃cs,hL J e sz v xs.length cs/\∀i x,xs[i]?=some x->R x ((cs.drop (i*sz)).take sz)
theorem fc.mono{α:Type}{J af:aH}{e:TypeId}{sz:Nat}{R R':α->List Value->Prop}{v:Value}{xs:List α}(hle:J.le af)(ei:∀x cs,R x cs->R' x cs)(h:fc J e sz R v xs):fc af e sz R' v xs:=by
 obtain⟨cs,aa,ae⟩:=h;exact⟨cs,aa.mono hle,fun i x U=>ei _ _ (ae i x U)⟩
theorem hL.addr{J:aH}{e:TypeId}{sz n c:Nat}{b:Option Addr}{cs:List Value}{k:Nat}(h:hL J e sz (.slice b n c) k cs):addrEq b b=true:=by
 cases h with
 |nil=>rfl
 |kt a off cap h=>simp[addrEq]
 |y6=>rfl
 |row aa ae aF bo eB=>simp[addrEq]
theorem fc.addr{α:Type}{J:aH}{e:TypeId}{sz n c:Nat}{b:Option Addr}{R:α->List Value->Prop}{xs:List α}(h:fc J e sz R (.slice b n c) xs):addrEq b b=true:=by
 obtain⟨cs,aa,_⟩:=h;exact aa.addr
theorem fc.get{α:Type}{J:aH}{e:TypeId}{sz n c:Nat}{b:Option Addr}{R:α->List Value->Prop}{xs:List α}(h:fc J e sz R (.slice b n c) xs):n=xs.length/\(0<xs.length->∃a off cells bz,b=some ⟨a,off,none⟩/\J a=some (cells,bz)/\
 ∀(i:Nat) (x:α),xs[i]?=some x->∃cs,takeN sz (nJ (off+((i:Nat):Int).toNat*sz) cells)=some cs/\R x cs):=by
 obtain⟨cs,aa,ae⟩:=h;have aP:n=xs.length:=by
  obtain⟨b',cd,aF,_⟩:=aa.inv;injection aF
 refine⟨aP,fun PX=>?_⟩;generalize aO:xs.length=k at aa;cases aa with
 |nil=>omega
 |kt=>omega
 |y6=>omega
 |@row a off len cap cells cs bz bl bp bQ cU gb=>
  refine⟨a,off,cells,bz,rfl,bl,fun i x U=>⟨_,?_,ae i x U⟩⟩;have ao:i<xs.length:=(dY.1 U).1;rw[<-aO] at bp bQ;have hle:i*sz+sz<=xs.length*sz:=by rw[<-po];exact nB _ ao
  have aC:xs.length*sz<=(cells.drop off).length:=by
   have:((cells.drop off).take (xs.length*sz)).length=xs.length*sz:=by rw[bp];exact bQ
   rw[iu] at this;omega
  rw[ms] at aC;rw[tJ,wA (by rw[ms];simp;omega),<-bp];congr 1
  rw[FH,yz,yC,mu (by omega)];simp
open Classical
theorem b0.Cj{μ:bY}:∀{l l':List Value},l.all plain=true->b0 μ l l'->l'=l:=by
 intro l;induction l with
 |nil=>intro l' _ h;exact h.lm
 |cons v l aI=>
  intro l' au h;simp only[sb,fS] at au;obtain⟨v',t,rfl,aa,ae⟩:=h.jP;rw[bB.Cj au.1 aa,aI au.2 ae]
section
variable {K:eE}
theorem Fn.alM{f:FuncId}{fn:Func}{c:Code}{args:List Value}{v:Value}{J:aH}{R:Value->Prop}(a1:args.all plain=true)(aD:K.P.funcs[f]?=some fn)(ap:fn.body=some c)
 (ay:∀μ v',R v'->bB μ v v')
 (aC:∀B w0 w,K.Q.ok B w0->Kept B w0 w->Calls K.P f args.toArray w fun e br=>(∃v',e=.returned v'/\R v')/\Below w.heap.size w br):Fn K f args [] J (fun u m' af=>u=v/\m'=[]/\af=J):=by
 intro H aJ;refine⟨v,H,J,[],fun B w0 fU=>?_,aJ,rfl,rfl,rfl⟩;intro cP cz H' e pi he μ w abF h av;unfold k8 at he;split at he
 ·rename_i q;obtain⟨rfl,rfl,rfl⟩:=q;simp only[cp,dB] at he;obtain⟨rfl,rfl⟩:=he;obtain rfl:=b0.Cj a1 av;refine .inr ⟨DL aD ap (K.dt.num cP fn aD (by rw[ap];rfl)) _ w,?_⟩;refine Calls.mono (aC B w0 w fU h.below) fun bz br ⟨⟨v',oY,ei⟩,tX⟩=>?_;subst oY;exact⟨μ,h.grow tX,Step.refl _ _,ay μ v' ei⟩
 ·cases he
end
section
variable {K:eE}{B:dV}{o:Oper}{n:Nat}{ds:e7}{l:List (Nat×Value)}{m m':aN}{J:aH}{ey:cf->aN->aH->Prop}{d:Nat}{cX:Exit->cf->aN->aH->Prop}
theorem W.gN{ops rest:List Oper}{E:cf}{bH:Option (List PanicEntry)->cf->aN->aH->Prop}(au:m'.Perm m)(h:W K B ops rest E m' J bH):W K B ops rest E m J bH:=fun S H ax aJ=>h S H ax (aJ.perm au.symm)
theorem Fn.perm{f:FuncId}{args:List Value}{bf:aN}{eP SV:Value->aN->aH->Prop}(h:Fn K f args bf J eP)(au:∀v m' af,eP v m' af->∃m2,m'.Perm m2/\SV v m2 af):Fn K f args bf J SV:=fun H aJ=>by
 obtain⟨v,H',af,m1,a,b,c⟩:=h H aJ;obtain⟨m2,bb,a7⟩:=au v m1 af c;exact⟨v,H',af,m2,a,b.perm bb,a7⟩
end
theorem Qy{o9:Nat}:∀(l:List Nat) {H:aA},jk H->(∀x∈l,x<H.ak)->∃H',sX H o9 l=some H'/\jk H':=by
 intro l;induction l with
 |nil=>intro H w _;exact⟨H,rfl,w⟩
 |cons x l aI=>
  intro H w h;simp only[sX];cases ap:Nat.beq x o9 with
  |true=>exact aI w fun y ai=>h y (.tail _ ai)
  |false=>
   obtain⟨H1,aL⟩:=w.upd .dead (h x (.head _));rw[dT,aL];exact aI (w.Mw (h x (.head _)) aL) fun y ai=>by rw[(aA.wB aL).1];exact h y (.tail _ ai)
section
variable {g0:Nat}{B:dV}{H:aA}{J:aH}{m m':aN}
theorem Inv.kill{a z:Nat}{cells:List Value}{e:TypeId}{rest:List Nat}(h:Inv g0 B J ((a,.opn cells e rest z)::m) H)(cells':List Value)(hS:Nat):
 ∃f H1 cv,H.mem.get a=some (.row cells e true f z false)/\H.upd a (.row cells' e true f hS false)=some H1/\wb H1 a f=some cv/\Inv g0 B J ((a,.opn cells' e [] hS)::m) cv:=by
 obtain⟨bl,bp,bQ,cU⟩:=h.own a _ (.head _);obtain⟨f,f1,f2,f3⟩:=bl;have cV:=h.lt (.head _);have dM:=h.gd;rw[show ids ((a,cC.opn cells e rest z)::m)=a::(rest++ids m) from rfl,se,ko,JJ] at dM;obtain⟨vV,HF,Bz,O3⟩:=dM;obtain⟨H1,aL⟩:=h.wf.upd (.row cells' e true f hS false) cV;have eK:=h.wf.Mw cV aL;obtain⟨jB,lX,jc,qQ,nV⟩:=aA.wB aL;have Er:∀x∈a::rest,x<H1.ak:=fun x U=>by
  rw[jB];rcases e3.1 U with q|q
  ·subst q;exact cV
  ·exact(h.opn a _ (.head _) x q).1
 obtain⟨cv,bk,hi⟩:=Qy (o9:=a) (a::rest) eK Er;obtain⟨v1,v2,v3,v4,v5,v6⟩:=Il bk;have h1:f<cv.cn:=by rw[v3,jc];exact h.wf.DS f3
 obtain⟨l3,cG⟩:=hi.qK [a] h1;obtain⟨s2,s1,wv,zY,pU⟩:=aA.Cu cG;have PC:l3.mem.get a=some (.row cells' e true f hS false):=by rw[s1,v6 a (.inr rfl),nV,aE rfl]
 have uk:∀x,x≠a->x∉rest->l3.mem.get x=H.mem.get x:=fun x bb a7=>by
  rw[s1,v6 x (.inl (fun q=>by rcases e3.1 q with q|q;exact bb q;exact a7 q)),nV,an bb]
 have zj:∀g,g≠f->l3.bI.get g=H.bI.get g:=fun g q=>by rw[pU,an q,v2,lX]
 have e4:l3.ak=H.ak:=by rw[s2,v1,jB]
 refine⟨f,H1,l3,f2,aL,?_,⟨hi.Me h1 cG,by rw[zY,v4,qQ];exact h.bW,by rw[e4];exact h.ak,by rw[wv,v3,jc];exact h.cn,fun x U hC=>?_,fun g aq=>?_,fun x c bz a'=>?_,h.le,h.fresh,fun x b ap=>?_,fun x b ap y ai=>?_,?_⟩⟩
 ·unfold wb
  rw[lX,f3];simp only[bk,cG]
 ·rw[uk x (fun q=>by subst q;rcases bp with q|q;·omega
                     ·exact hC q) (fun q=>by rcases(h.opn a _ (.head _) x q).2.1 with r|r;·omega
                                             ·exact hC r)]
  exact h.eC x U hC
 ·rw[zj g (fun q=>aq (by rw[q];exact f1))];exact h.nQ g aq
 ·obtain⟨o,cP,z0,s,q⟩:=h.fw x c bz a'
  exact⟨o,cP,z0,s,by rw[uk x (fun r=>by subst r;rw[bQ] at a';cases a') (fun r=>by have:=(h.opn a _ (.head _) x r).2.2;rw[this] at a';cases a')];exact q⟩
 ·rcases e3.1 ap with q|q
  ·injection q with bb a7;subst bb;subst a7
   exact⟨⟨f,f1,PC,by rw[pU,aE rfl]⟩,bp,bQ,cU⟩
  ·obtain⟨cN,dW,lT,pK⟩:=h.own x b (.tail _ q)
   have iX:x∈ids m:=xW q;refine⟨?_,dW,lT,pK⟩;refine cC.wZ cN (uk x (fun r=>vV (.inr (r▸iX))) (fun r=>O3 _ r _ iX rfl)) fun g r aq=>?_;rw[zj g (fun du=>by
        subst du;rw[f3] at aq;injection aq with aq;injection aq with aq
        exact vV (.inr (aq▸iX)))]
   exact aq
 ·rcases e3.1 ap with q|q
  ·injection q with bb a7;subst bb;subst a7;cases ai
  ·rw[e4];exact h.opn x b (.tail _ q) y ai
 ·show(a::([]++ids m)).Nodup
  rw[k2,se];exact⟨fun q=>vV (.inr q),Bz⟩
end
section
variable {K:eE}{B:dV}{o:Oper}{n:Nat}{ds:e7}{l:List (Nat×Value)}{m m':aN}{J:aH}{ey:cf->aN->aH->Prop}{d:Nat}
theorem QT{g0:Nat}{H:aA}(aJ:Inv g0 B J m H){a:Nat}(h:g0<=a):Nat.blt a H.bW=false:=by
 cases q:Nat.blt a H.bW
 ·rfl
 ·have:a<H.bW:=by simpa[Nat.blt,u0] using q
  have:=aJ.bW;omega
theorem Ak{t:TypeId}{x y:Operand}{a off k z:Nat}{v:Value}{vs cells cells':List Value}{e:TypeId}{rest:List Nat}{m0:aN}(ar:o.op=.store t x y)(aV:o.dst=none)(U:b6 l x=some (.pointer (some ⟨a,off,none⟩)))(ai:b6 l y=some v)(aO:ef K.P t=some k)(aC:v.cells.toList=vs)(av:Nat.beq vs.length k=true)(bw:Nat.blt 0 vs.length=true)(aa:vs.all eM=true)(hs:gg off cells vs=some cells')(bE:z<=off)(au:m.Perm ((a,.opn cells e rest z)::m0))(h:ey ⟨n,ds,l⟩ ((a,.opn cells' e [] z)::m0) J):hq K B o ⟨n,ds,l⟩ m J ey:=by
 refine hq.skip aV fun S H ax aJ=>?_;have aJ:=aJ.perm au;obtain⟨f,H1,cv,aL,bk,cG,eL⟩:=aJ.kill cells' z;obtain⟨bl,bp,bQ,cU⟩:=aJ.own _ _ (.head _);refine⟨cv,_,J,fun call aR=>?_,eL,h⟩;unfold cJ fe;simp only[ar];show Ci K.P _ t (bj S.T H x) (bj S.T H y)=_;rw[dy ax H U,dy ax H ai];show Hf (xj K.P H t (.pointer (some ⟨a,off,none⟩)) v)=_;unfold xj;simp only[aO,aC,av,b7];unfold rl;cases vs with
 |nil=>cases bw
 |cons v0 vs=>
  simp only
  rw[QT aJ cU,dT,aL];simp only[show Nat.ble z off=true from j8 bE,Fy,aa,b7,hs,bk,cG];rfl
def Xe (P:Program)(t:TypeId):Bool:=match P.underlying t with|some (.pointer _)=>true|_=>false
theorem Z'{op:BinOp}{t eS:TypeId}{x y:Operand}{b:Option Addr}{r:Bool}(ar:o.op=.binOp op t x y eS)(U:b6 l x=some (.pointer b))(ai:b6 l y=some (.pointer none))(aB:Xe K.P t=true)(d':op=.eql/\r=b.isNone\/op=.neq/\r=!b.isNone):dm K B o n ds l m J (.bool r):=by
 intro call aR S H ax aJ;unfold Xe at aB;split at aB
 ·rename_i e hu;cases b with
  |none=>
   unfold cJ fe;simp only[ar];show pd K.P _ op t (bj S.T H x) (bj S.T H y)=_;rw[dy ax H U,dy ax H ai];show orElse (gm K.P S.T H o) _=_;have vN:eY K.P (Op.equal t (.pointer none) (.pointer none))=some true:=by
    show eY K.P (Op.equalIn (9999+1) t (.pointer none) (.pointer none))=_;unfold Op.equalIn;rw[eb (y9 hu)];rfl
   have:gm K.P S.T H o=some (.val (.bool r) H):=by
    refine zS ax (by rw[ar];rfl) U ai rfl rfl ?_ rfl;unfold execOp;simp only[ar];rw[lH ax H U,lH ax H ai];rw[eb (a:=.bool r)]
    ·rfl
    rcases d' with⟨rfl,rfl⟩|⟨rfl,rfl⟩
    ·rw[eb (a:=()) (by rfl)];have ap:binOp .eql t (.pointer none) (.pointer none)=(do pure (.bool (<-Op.equal t (.pointer none) (.pointer none)))):=by simp[binOp]
     rw[ap,eb vN];rfl
    ·rw[eb (a:=()) (by rfl)];have ap:binOp .neq t (.pointer none) (.pointer none)=(do pure (.bool (!(<-Op.equal t (.pointer none) (.pointer none))))):=by simp[binOp]
     rw[ap,eb vN];rfl
   rw[this];rfl
  |some a=>
   refine Tv ar (dy ax H U) (dy ax H ai) (fun _ _ q=>by cases q) ?_ ?_
   ·unfold gm;rw[ar];have:eI S.T H (Op.binOp op t x y eS).operands.toList=some [.pointer (some a),.pointer none]:=by
     show eI S.T H [x,y]=_;simp only[eI];rw[dy ax H U,dy ax H ai]
    rw[this];rfl
   ·rcases d' with⟨rfl,rfl⟩|⟨rfl,rfl⟩<;>(unfold wk vx;simp only[hu];rfl)
 ·cases aB
def YL (P:Program)(t:TypeId):Bool:=match P.underlying t with
 |some (.pointer e)=>(match ef P e with|some (_+1)=>true|_=>false)
 |_=>false
theorem apA{op:BinOp}{t eS:TypeId}{x y:Operand}{a off:Nat}{r:Bool}(ar:o.op=.binOp op t x y eS)(U:b6 l x=some (.pointer (some ⟨a,off,none⟩)))(ai:b6 l y=some (.pointer (some ⟨a,off,none⟩)))(aB:YL K.P t=true)(d':op=.eql/\r=true\/op=.neq/\r=false):dm K B o n ds l m J (.bool r):=by
 intro call aR S H ax aJ;have h0:vx K.P t (.pointer (some ⟨a,off,none⟩)) (.pointer (some ⟨a,off,none⟩))=some true:=by
  unfold YL at aB;split at aB
  ·rename_i e hu;split at aB
   ·rename_i k aO;unfold vx;simp only[hu,aO,hz,b7];rw[beq_self_eq_true]
   ·cases aB
  ·cases aB
 refine Tv ar (dy ax H U) (dy ax H ai) (fun _ _ q=>by cases q) ?_ ?_
 ·unfold gm;rw[ar];have:eI S.T H (Op.binOp op t x y eS).operands.toList=some [.pointer (some ⟨a,off,none⟩),.pointer (some ⟨a,off,none⟩)]:=by
   show eI S.T H [x,y]=_;simp only[eI];rw[dy ax H U,dy ax H ai]
  rw[this];rfl
 ·rcases d' with⟨rfl,rfl⟩|⟨rfl,rfl⟩<;>(unfold wk;simp only[h0];first|done|rfl)
def ZR (P:Program)(s t:TypeId):Bool:=match P.underlying s,P.underlying t with
 |some (.pointer e),some .unsafePointer=>(match ef P e with|some (_+1)=>true|_=>false)
 |_,_=>false
theorem apC{s t:TypeId}{x:Operand}{a off:Nat}{cells:List Value}(ar:o.op=.convert s t x)(U:b6 l x=some (.pointer (some ⟨a,off,none⟩)))(aB:ZR K.P s t=true)(aw:hW m J a cells)(av:Nat.blt off cells.length=true):dm K B o n ds l m J (.pointer (some ⟨a,off,none⟩)):=by
 intro call aR S H ax aJ;unfold cJ fe;simp only[ar];show rZ K.P _ s t (bj S.T H x)=_;rw[dy ax H U];show fZ (AW K.P H s t (.pointer (some ⟨a,off,none⟩))) H=_;obtain⟨e,o',f,z,c4,q⟩:=aw.get aJ;unfold ZR at aB;split at aB
 ·rename_i aL aa ae;split at aB
  ·rename_i k aO;unfold AW;simp only[aa,ae,aO,q,av,b7];rfl
  ·cases aB
 ·cases aB
def Yb (P:Program)(s t e:TypeId)(len off:Nat):Bool:=match P.underlying s,P.underlying t with
 |some .unsafePointer,some (.pointer u)=>(match ef P u with|some (_+1)=>liesAt P P.depth e (len / P.cellsOf e) off u 1|_=>false)
 |_,_=>false
theorem apy{s t e:TypeId}{x:Operand}{a off:Nat}{cells:List Value}(ar:o.op=.convert s t x)(U:b6 l x=some (.pointer (some ⟨a,off,none⟩)))(aw:(a,cC.row cells e)∈m)(aB:Yb K.P s t e cells.length off=true):dm K B o n ds l m J (.pointer (some ⟨a,off,none⟩)):=by
 intro call aR S H ax aJ;unfold cJ fe;simp only[ar];show rZ K.P _ s t (bj S.T H x)=_;rw[dy ax H U];show fZ (AW K.P H s t (.pointer (some ⟨a,off,none⟩))) H=_;have q:H.mem.get a=some (.row cells e false 0 0 false):=(aJ.own _ _ aw).1;unfold Yb at aB;split at aB
 ·rename_i u aa ae;split at aB
  ·rename_i k aO;unfold AW;simp only[aa,ae,aO,q,aB,b7];rfl
  ·cases aB
 ·cases aB
theorem Fn.same{f:FuncId}{fn:Func}{v:Value}(aD:K.fq.get f=some fn)(ap:fn.body=none)(aP:fn.name= "internal/abi.NoEscape")(ar:fn.origin= "")(ay:plain v=false):Fn K f [v] [] J (fun u m' af=>u=v/\m'=[]/\af=J):=by
 intro H aJ;refine⟨v,H,J,[],ly.cH K.dt gW lq (bF:=.run) ?_,aJ,rfl,rfl,rfl⟩;unfold sB;rw[aD];show F' K.P _ f fn [v] false .run H fn.body=_;rw[ap];show sq .run (AX K.P fn f [v] H)=_;unfold AX;simp only[sb,ay,Bool.false_and,dT,N5,aP,ar,decide_true,wG,b7];rfl
theorem Mz{c:Call}{x y:Operand}{k:IntKind}{a b:Int}(ar:o.op=.call c)(aC:c.callee=.builtin .max)(gU:c.args.toList=[x,y])(U:b6 l x=some (.int k a))(ai:b6 l y=some (.int k b)):dm K B o n ds l m J (.int k (max a b)):=by
 intro call aR S H ax aJ;rw[y7 ar aC];have sK:c.args=#[x,y]:=by rw[<-Array.toList_inj];exact gU
 have:gm K.P S.T H o=some (.val (.int k (max a b)) H):=by
  refine zS ax ?_ U ai rfl rfl ?_ rfl
  ·rw[ar];show(Call.operands c).toList=_;simp[Call.operands,aC,sK]
  ·unfold execOp;simp only[ar];have aw:eY K.P (resolve (pR S.T H) c o.type)=some {target:=.builtin .max c.argTypes o.type (c.args.map fun|.const _=>true|_=>false),args:=#[.int k a,.int k b]}:=by
    unfold resolve;simp only[aC,sK];show some _=some _;simp[lH ax H U,lH ax H ai];exact⟨by cases x<;>rfl,by cases y<;>rfl⟩
   rw[eb aw];show eY K.P ((Builtin.max_ c.argTypes o.type #[.int k a,.int k b]) >>= fun v=>pure (Next.value v))=_;have:eY K.P (Builtin.max_ c.argTypes o.type #[.int k a,.int k b])=some (.int k (max a b)):=by
    show some (Value.int k (if b>a then b else a))=_;congr 2
    split<;>omega
   rw[eb this];rfl
 unfold pw;rw[n8 ax H (vs:=[.int k a,.int k b]) (by rw[gU];simp only[hY,U,ai])];exact this
def tw(b:UInt8):Value:=.int .u8 b.toNat
theorem ab7:∀(bs:List UInt8),nF (bs.map tw)=some bs:=by
 intro bs;induction bs with
 |nil=>rfl
 |cons b bs aI=>
  show(bif Nat.blt b.toNat 256 then(match nF (bs.map tw) with|some r=>some (UInt8.ofNat b.toNat::r)|none=>none) else none)=_
  rw[aI,show Nat.blt b.toNat 256=true from by have:=b.toNat_lt;simpa[Nat.blt,u0] using this];simp
theorem mR.str{g0:Nat}{s:List UInt8}:mR g0 B J m 1 (.string ⟨⟨s⟩⟩) s.length (s.map tw):=by
 intro H aJ;refine⟨rfl,?_⟩;show(match takeN s.length s with|some l=>some (l.map fun b:UInt8=>Value.int .u8 b.toNat)|none=>none)=_
 rw[wA (cW _),tm];rfl
theorem apB{c:Call}{a:Addr}{len cap:Nat}(ar:o.op=.call c)(aC:c.callee=.builtin .unsafeSliceData)(a1:hY l c.args.toList=some [.slice (some a) len cap])(bw:0<len)(aa:0<cap):dm K B o n ds l m J (.pointer (some a)):=by
 intro call aR S H ax aJ;rw[y7 ar aC];unfold pw;rw[n8 ax H a1];show(bif Nat.beq cap cZ&&Nat.beq len 0 then none else bif Nat.beq cap 0 then none else some (cL.val (.pointer (some a)) H))=_;have aL:Nat.beq len 0=false:=by cases q:Nat.beq len 0;rfl;exact absurd (eO q) (by omega)
 have bk:Nat.beq cap 0=false:=by cases q:Nat.beq cap 0;rfl;exact absurd (eO q) (by omega)
 rw[aL,bk,Bool.and_false];rfl
theorem aqi{c:Call}{pe t2 u:TypeId}{a z:Nat}{rest:List Nat}{bs:List UInt8}{m0:aN}{k:Int}(ar:o.op=.call c)(aC:c.callee=.builtin .unsafeString)(aV:o.dst=some d)(aP:Nat.blt d n=true)(a1:hY l c.args.toList=some [.pointer (some ⟨a,0,none⟩),.int .i64 k])(o6:c.argTypes.toList=[pe,t2])(ajq:K.P.underlying pe=some (.pointer u))(KR:K.P.cellsOf u=1)(hm:m.Perm ((a,.opn (bs.map tw) u rest z)::m0))(aO:k=bs.length)(bw:0<bs.length)(aa:bs.length<=1000000)
 (h:ey ⟨n,ds,(d,.string ⟨⟨bs⟩⟩)::l⟩ ((a,.opn (bs.map tw) u [] (Nat.max z bs.length))::m0) J):hq K B o ⟨n,ds,l⟩ m J ey:=by
 refine hq.wD aV aP fun S H ax aJ=>?_;have aJ:=aJ.perm hm;obtain⟨f,H1,cv,aL,bk,cG,eL⟩:=aJ.kill (bs.map tw) (Nat.max z bs.length);obtain⟨bl,bp,bQ,cU⟩:=aJ.own _ _ (.head _);refine⟨_,cv,_,J,fun call aR=>?_,eL,h⟩;rw[y7 ar aC];unfold pw;rw[n8 ax H a1,o6];show mq (GR K.P H pe (.pointer (some ⟨a,0,none⟩)) (.int .i64 k))=_;obtain⟨j,a'⟩:∃j,bs.length=j+1:=⟨bs.length -1,by omega⟩;rw[aO,a',show((j+1:Nat):Int)=Int.ofNat (j+1) from rfl];have aB:takeN (j+1) (bs.map tw)=some (bs.map tw):=by rw[wA (by rw[lB];omega),eo (by rw[lB];omega)]
 rw[a'] at bk;unfold GR;simp only[ajq,aL,hz,KR,show Nat.ble (j+1) 1000000=true from j8 (by omega),QT aJ cU,MP,wG,lY,dT,aB,ab7,bk,b7,cG];rfl
theorem Aj{c:Call}{t hx e:TypeId}{sz k j:Nat}{gi cells new:List Value}{v x:Value}{aY m0:aN}{hn:TypeDesc}(ar:o.op=.call c)(aC:c.callee=.builtin .append)(aV:o.dst=some d)(aP:Nat.blt d n=true)(a1:hY l c.args.toList=some [v,x])(o6:c.argTypes.toList=[t,hx])(aB:j2 K.P t=some (e,sz,gi))(jO:K.P.underlying hx=some hn)(vW:∀i,hn≠.int i)
 (ay:Acc e sz v k cells aY)(hm:m.Perm (aY++m0))(U:mR K.g0 B J m sz x j new)(cr:new.length=j*sz)(ca:new.all eM=true)(av:k+j<=1000000)
 (h:∀w hF,Acc e sz w (k+j) (cells++new) hF->(z0 aY->z0 hF)/\(mH aY->mH hF)->ey ⟨n,ds,(d,w)::l⟩ (hF++m0) J):hq K B o ⟨n,ds,l⟩ m J ey:=fun S H ax aJ=>
 aaA ar aC aV aP a1 o6 aB jO vW ay rfl (U.perm hm) cr ca av h S H ax (aJ.perm hm)
theorem RD{α:Type}{f:α->Value}{L:List α}{i:Nat}{x:α}(h:i<L.length):gg i (L.map f) [f x]=some ((L.set i x).map f):=by
 rw[Cy _ _ _ (by rw[lB,tl];omega)];congr 1
 rw[List.map_set,JL,aE (by rw[lB];exact h)];simp
theorem jA{L:List Int}{off:Nat}{x:Int}(i:Nat)(h:i<L.length)(ar:off=i:=by omega):gg off (L.map (Value.int .i64)) [.int .i64 x]=some ((L.set i x).map (Value.int .i64)):=by subst ar;exact RD (f:=Value.int .i64) h
theorem nm{L:List Int}{off:Nat}{x:Int}(i:Nat)(h:L[i]?=some x)(ar:off=i:=by omega):nth (L.map (Value.int .i64)) off=some (.int .i64 x):=by subst ar;rw[kE,oF,h];rfl
theorem CR{v:Value}{k:Nat}:gG [v] k=List.replicate k v:=by
 show Sc v k=_;induction k with
 |zero=>rfl
 |succ k aI=>show v::Sc v k=_;rw[aI];rfl
theorem yv{k:Nat}:gG [.int .i64 0] k=(List.replicate k (0:Int)).map (Value.int .i64):=by rw[CR,List.map_replicate]
end
section
variable {K:eE}{B:dV}{ops:List Oper}{bc:List jF}{F:List (FuncId×List Value)}{E:cf}{m m':aN}{J:aH}{o:Oper}{bH:cf->aN->aH->Prop}
variable {n:Nat}{ds:e7}{l:List (Nat×Value)}{d i:Nat}
theorem a8.makeSlice{t e:TypeId}{x y:Operand}{sz:Nat}{gi:List Value}{p q:Int}{zC Lt:IntKind}(ao:nth ops i=some o)(aq:o.guard=none)(ar:o.op=.makeSlice t x y)(aV:o.dst=some d)(aP:Nat.blt d n=true)(U:b6 l x=some (.int zC p))(ai:b6 l y=some (.int Lt q))(aB:j2 K.P t=some (e,sz,gi))(bw:0<=p)(aa:p<=q)(ae:q<=1000000)
 (h:∀a,a8 K B ops bc F ⟨n,ds,(d,.slice (some ⟨a,0,none⟩) p.toNat q.toNat)::l⟩ ((a,.row (gG gi q.toNat) e)::m) J bH):a8 K B ops (.gk i::bc) F ⟨n,ds,l⟩ m J bH:=by
 obtain⟨hu,eV,fO,z,ia,bE,b1,rfl,b2,b3,b4⟩:=yj aB;refine a8.gk (b:=.row (gG z.cells.toList q.toNat) e false 0 0 false) (p:=.row (gG z.cells.toList q.toNat) e) (er:=.Cw p.toNat q.toNat) ao aq aV aP (fun S ax=>?_) (fun H a q=>q) (fun c e r z=>⟨nofun,nofun⟩) h;rw[ar];simp only[nE];rw[Q8 ax U,Q8 ax ai];simp only[F2,hu,bE,ia,eV];rw[Ii (by omega) (by omega),Ii (by omega) (by omega)];simp only[b1,b3,b4,wH];rw[show Nat.beq z.cells.toList.length sz=true by rw[b2];exact hz _,show Nat.ble p.toNat q.toNat=true from j8 (by omega)];simp only[wH,b7]
end
end
end Go.Opn
