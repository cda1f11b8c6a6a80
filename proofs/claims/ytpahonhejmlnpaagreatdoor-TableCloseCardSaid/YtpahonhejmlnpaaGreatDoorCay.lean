/- A part of the proof of TableClose. -/
import Derived.Test.YtpahonhejmlnpaaGreatDoorCax
import Derived.Test.YtpahonhejmlnpaaGreatDoorCaw
import Derived.Test.YtpahonhejmlnpaaGreatDoorCav
set_option linter.unusedVariables false
set_option linter.unusedSimpArgs false
namespace Go.Opn
noncomputable section
open Go.Cre Go.RowKit
section
variable {K:dG}{B:dt}{o:Oper}{n:Nat}{ds:dQ}{l:List (Nat×Value)}{m m':aU}{J:an}{eg:b3->aU->an->Prop}{d:Nat}
def xg (k:IntKind)(a b:Int):BinOp->Option Value
 |.quo=>some (.int k (k.wrap (a.tdiv b)))
 |.rem=>some (.int k (a.tmod b))
 |_=>none
theorem aeo{op:BinOp}{t dK:TypeId}{x y:Operand}{k:IntKind}{a b:Int}{v:Value}(ag:o.op=.binOp op t x y dK)(U:bH l x=some (.int k a))(aF:bH l y=some (.int k b))(ay:xg k a b op=some v)(ah:b≠0):cC K B o n ds l m J v:=by
 intro call aE S H ak av;unfold ct eA;simp only[ag];show jV K.P _ op t (aW S.T H x) (aW S.T H y)=_;rw[c1 ak H U,c1 ak H aF];show(bif jR k k then ir H k a b _ op else _)=_;rw[yq,b1];have key:∀(ta:BinOp),op=ta->(ta=.quo\/ta=.rem)->eI K.P S.T H o=some (.val v H):=by
  intro ta e h;subst e;refine mc ak (by rw[ag];rfl) U aF rfl rfl ?_ ?_
  ·unfold execOp;simp only[ag];rw[gS ak H U,gS ak H aF];rcases h with rfl|rfl
   ·simp only[xg,b9] at ay;subst ay;have aq:eJ K.P (eqGuard .quo t x y (.int k a) (.int k b))=some ():=rfl;have kx:binOp .quo t (.int k a) (.int k b)=pure (.int k (k.wrap (a.tdiv b))):=by simp[binOp,Op.intDiv,ah]
    rw[fj (a:=.int k (k.wrap (a.tdiv b)))]
    ·rfl
    rw[fj aq,kx];rfl
   ·simp only[xg,b9] at ay;subst ay;have aq:eJ K.P (eqGuard .rem t x y (.int k a) (.int k b))=some ():=rfl;have kx:binOp .rem t (.int k a) (.int k b)=pure (.int k (a.tmod b)):=by simp[binOp,Op.intDiv,ah]
    rw[fj (a:=.int k (a.tmod b))]
    ·rfl
    rw[fj aq,kx];rfl
  ·rcases h with rfl|rfl<;>simp only[xg,b9] at ay<;>subst ay<;>rfl
 cases op<;>simp only[xg,reduceCtorEq] at ay
 ·exact key _ rfl (.inl rfl)
 ·exact key _ rfl (.inr rfl)
end
structure fA {α:Type} (J:an) (e:TypeId) (sz:Nat) (R:α->List Value->Prop) (v:Value) (xs:List α):Prop where
 ex:∃cs,ey J e sz v xs.length cs/\∀i x,xs[i]?=some x->R x ((cs.drop (i*sz)).take sz)
theorem fA.mono{α:Type}{J ae:an}{e:TypeId}{sz:Nat}{R R':α->List Value->Prop}{v:Value}{xs:List α}(hle:J.le ae)(eC:∀x cs,R x cs->R' x cs)(h:fA J e sz R v xs):fA ae e sz R' v xs:=by
 obtain⟨cs,aa,ab⟩:=h;exact⟨cs,aa.mono hle,fun i x U=>eC _ _ (ab i x U)⟩
theorem ey.addr{J:an}{e:TypeId}{sz n c:Nat}{b:Option Addr}{cs:List Value}{k:Nat}(h:ey J e sz (.slice b n c) k cs):addrEq b b=true:=by
 cases h with
 |nil=>rfl
 |ik a off cap h=>simp[addrEq]
 |tN=>rfl
 |row aa ab aY bu gI=>simp[addrEq]
theorem fA.addr{α:Type}{J:an}{e:TypeId}{sz n c:Nat}{b:Option Addr}{R:α->List Value->Prop}{xs:List α}(h:fA J e sz R (.slice b n c) xs):addrEq b b=true:=by
 obtain⟨cs,aa,_⟩:=h;exact aa.addr
theorem fA.get{α:Type}{J:an}{e:TypeId}{sz n c:Nat}{b:Option Addr}{R:α->List Value->Prop}{xs:List α}(h:fA J e sz R (.slice b n c) xs):n=xs.length/\(0<xs.length->∃a off cells bk,b=some ⟨a,off,none⟩/\J a=some (cells,bk)/\
 ∀(i:Nat) (x:α),xs[i]?=some x->∃cs,takeN sz (np (off+((i:Nat):Int).toNat*sz) cells)=some cs/\R x cs):=by
 obtain⟨cs,aa,ab⟩:=h;have aw:n=xs.length:=by
  obtain⟨b',bw,aY,_⟩:=aa.inv;injection aY
 refine⟨aw,fun Ok=>?_⟩;generalize hk:xs.length=k at aa;cases aa with
 |nil=>omega
 |ik=>omega
 |tN=>omega
 |@row a off len cap cells cs bk a9 a4 bJ cx fL=>
  refine⟨a,off,cells,bk,rfl,a9,fun i x U=>⟨_,?_,ab i x U⟩⟩;have ar:i<xs.length:=(hq.1 U).1;rw[<-hk] at a4 bJ;have hle:i*sz+sz<=xs.length*sz:=by rw[<-zn];exact lY _ ar
  have aL:xs.length*sz<=(cells.drop off).length:=by
   have:((cells.drop off).take (xs.length*sz)).length=xs.length*sz:=by rw[a4];exact bJ
   rw[gp] at this;omega
  rw[r'] at aL;rw[tL,uJ (by rw[r'];simp;omega),<-a4];congr 1
  rw[Fi,ze,tw,g9 (by omega)];simp
open Classical
section
variable {K:dG}
end
section
variable {K:dG}{B:dt}{o:Oper}{n:Nat}{ds:dQ}{l:List (Nat×Value)}{m m':aU}{J:an}{eg:b3->aU->an->Prop}{d:Nat}{cB:Exit->b3->aU->an->Prop}
theorem W.mY{ops rest:List Oper}{E:b3}{bm:Option (List PanicEntry)->b3->aU->an->Prop}(ao:m'.Perm m)(h:W K B ops rest E m' J bm):W K B ops rest E m J bm:=fun S H ak av=>h S H ak (av.perm ao.symm)
end
theorem O2{mU:Nat}:∀(l:List Nat) {H:ai},hF H->(∀x∈l,x<H.ax)->∃H',pi H mU l=some H'/\hF H':=by
 intro l;induction l with
 |nil=>intro H w _;exact⟨H,rfl,w⟩
 |cons x l aP=>
  intro H w h;simp only[pi];cases ah:Nat.beq x mU with
  |true=>exact aP w fun y aF=>h y (.tail _ aF)
  |false=>
   obtain⟨H1,aC⟩:=w.upd .dead (h x (.head _));rw[da,aC];exact aP (w.EQ (h x (.head _)) aC) fun y aF=>by rw[(ai.nK aC).1];exact h y (.tail _ aF)
section
variable {g0:Nat}{B:dt}{H:ai}{J:an}{m m':aU}
theorem Inv.kill{a z:Nat}{cells:List Value}{e:TypeId}{rest:List Nat}(h:Inv g0 B J ((a,.opn cells e rest z)::m) H)(cells':List Value)(gi:Nat):
 ∃f H1 bK,H.mem.get a=some (.row cells e true f z false)/\H.upd a (.row cells' e true f gi false)=some H1/\uq H1 a f=some bK/\Inv g0 B J ((a,.opn cells' e [] gi)::m) bK:=by
 obtain⟨a9,a4,bJ,cx⟩:=h.own a _ (.head _);obtain⟨f,f1,f2,f3⟩:=a9;have cD:=h.lt (.head _);have dz:=h.fw;rw[show ids ((a,dh.opn cells e rest z)::m)=a::(rest++ids m) from rfl,pI,nQ,Cn] at dz;obtain⟨x3,AB,Dy,Hu⟩:=dz;obtain⟨H1,aC⟩:=h.wf.upd (.row cells' e true f gi false) cD;have bh:=h.wf.EQ cD aC;obtain⟨jl,jJ,pA,BR,pB⟩:=ai.nK aC;have DJ:∀x∈a::rest,x<H1.ax:=fun x U=>by
  rw[jl];rcases gj.1 U with q|q
  ·subst q;exact cD
  ·exact(h.opn a _ (.head _) x q).1
 obtain⟨bK,aZ,cb⟩:=O2 (mU:=a) (a::rest) bh DJ;obtain⟨v1,v2,BV,v4,aei,v6⟩:=D1 aZ;have hg:f<bK.b7:=by rw[BV,pA];exact h.wf.z1 f3
 obtain⟨fi,cJ⟩:=cb.oD [a] hg;obtain⟨s2,s1,h',yM,qE⟩:=ai.yO cJ;have Ye:fi.mem.get a=some (.row cells' e true f gi false):=by rw[s1,v6 a (.inr rfl),pB,bg rfl]
 have vV:∀x,x≠a->x∉rest->fi.mem.get x=H.mem.get x:=fun x aR aN=>by
  rw[s1,v6 x (.inl (fun q=>by rcases gj.1 q with q|q;exact aR q;exact aN q)),pB,a3 aR]
 have xT:∀g,g≠f->fi.bl.get g=H.bl.get g:=fun g q=>by rw[qE,a3 q,v2,jJ]
 have jg:fi.ax=H.ax:=by rw[s2,v1,jl]
 refine⟨f,H1,fi,f2,aC,?_,⟨cb.JO hg cJ,by rw[yM,v4,BR];exact h.bp,by rw[jg];exact h.ax,by rw[h',BV,pA];exact h.b7,fun x U fl=>?_,fun g aq=>?_,fun x c bk a5=>?_,h.le,h.fresh,fun x b ah=>?_,fun x b ah y aF=>?_,?_⟩⟩
 ·unfold uq
  rw[jJ,f3];simp only[aZ,cJ]
 ·rw[vV x (fun q=>by subst q;rcases a4 with q|q;·omega
                     ·exact fl q) (fun q=>by rcases(h.opn a _ (.head _) x q).2.1 with r|r;·omega
                                             ·exact fl r)]
  exact h.ff x U fl
 ·rw[xT g (fun q=>aq (by rw[q];exact f1))];exact h.kX g aq
 ·obtain⟨o,cz,kn,s,q⟩:=h.dB x c bk a5
  exact⟨o,cz,kn,s,by rw[vV x (fun r=>by subst r;rw[bJ] at a5;cases a5) (fun r=>by have:=(h.opn a _ (.head _) x r).2.2;rw[this] at a5;cases a5)];exact q⟩
 ·rcases gj.1 ah with q|q
  ·injection q with aR aN;subst aR;subst aN
   exact⟨⟨f,f1,Ye,by rw[qE,bg rfl]⟩,a4,bJ,cx⟩
  ·obtain⟨fM,fg,iu,jS⟩:=h.own x b (.tail _ q)
   have v3:x∈ids m:=uk q;refine⟨?_,fg,iu,jS⟩;refine dh.sm fM (vV x (fun r=>x3 (.inr (r▸v3))) (fun r=>Hu _ r _ v3 rfl)) fun g r aq=>?_;rw[xT g (fun c3=>by
        subst c3;rw[f3] at aq;injection aq with aq;injection aq with aq
        exact x3 (.inr (aq▸v3)))]
   exact aq
 ·rcases gj.1 ah with q|q
  ·injection q with aR aN;subst aR;subst aN;cases aF
  ·rw[jg];exact h.opn x b (.tail _ q) y aF
 ·show(a::([]++ids m)).Nodup
  rw[sb,pI];exact⟨fun q=>x3 (.inr q),Dy⟩
end
section
variable {K:dG}{B:dt}{o:Oper}{n:Nat}{ds:dQ}{l:List (Nat×Value)}{m m':aU}{J:an}{eg:b3->aU->an->Prop}{d:Nat}
theorem aaK{g0:Nat}{H:ai}(av:Inv g0 B J m H){a:Nat}(h:g0<=a):Nat.blt a H.bp=false:=by
 cases q:Nat.blt a H.bp
 ·rfl
 ·have:a<H.bp:=by simpa[Nat.blt,qY] using q
  have:=av.bp;omega
theorem Kr{t:TypeId}{x y:Operand}{a off k z:Nat}{v:Value}{vs cells cells':List Value}{e:TypeId}{rest:List Nat}{dV:aU}(ag:o.op=.store t x y)(au:o.dst=none)(U:bH l x=some (.pointer (some ⟨a,off,none⟩)))(aF:bH l y=some v)(hk:ea K.P t=some k)(aL:v.cells.toList=vs)(aA:Nat.beq vs.length k=true)(aX:Nat.blt 0 vs.length=true)(aa:vs.all ev=true)(af:fO off cells vs=some cells')(a0:z<=off)(ao:m.Perm ((a,.opn cells e rest z)::dV))(h:eg ⟨n,ds,l⟩ ((a,.opn cells' e [] z)::dV) J):hU K B o ⟨n,ds,l⟩ m J eg:=by
 refine hU.skip au fun S H ak av=>?_;have av:=av.perm ao;obtain⟨f,H1,bK,aC,aZ,cJ,eo⟩:=av.kill cells' z;obtain⟨a9,a4,bJ,cx⟩:=av.own _ _ (.head _);refine⟨bK,_,J,fun call aE=>?_,eo,h⟩;unfold ct eA;simp only[ag];show yB K.P _ t (aW S.T H x) (aW S.T H y)=_;rw[c1 ak H U,c1 ak H aF];show Dc (vx K.P H t (.pointer (some ⟨a,off,none⟩)) v)=_;unfold vx;simp only[hk,aL,aA,b1];unfold o0;cases vs with
 |nil=>cases aX
 |cons jm vs=>
  simp only
  rw[aaK av cx,da,aC];simp only[show Nat.ble z off=true from j3 a0,KH,aa,b1,af,aZ,cJ];rfl
theorem yU{c:Call}{x y:Operand}{k:IntKind}{a b:Int}(ag:o.op=.call c)(aL:c.callee=.builtin .max)(iq:c.args.toList=[x,y])(U:bH l x=some (.int k a))(aF:bH l y=some (.int k b)):cC K B o n ds l m J (.int k (max a b)):=by
 intro call aE S H ak av;rw[xm ag aL];have mJ:c.args=#[x,y]:=by rw[<-Array.toList_inj];exact iq
 have:eI K.P S.T H o=some (.val (.int k (max a b)) H):=by
  refine mc ak ?_ U aF rfl rfl ?_ rfl
  ·rw[ag];show(Call.operands c).toList=_;simp[Call.operands,aL,mJ]
  ·unfold execOp;simp only[ag];have al:eJ K.P (resolve (oA S.T H) c o.type)=some {target:=.builtin .max c.argTypes o.type (c.args.map fun|.const _=>true|_=>false),args:=#[.int k a,.int k b]}:=by
    unfold resolve;simp only[aL,mJ];show some _=some _;simp[gS ak H U,gS ak H aF];exact⟨by cases x<;>rfl,by cases y<;>rfl⟩
   rw[fj al];show eJ K.P ((Builtin.max_ c.argTypes o.type #[.int k a,.int k b]) >>= fun v=>pure (Next.value v))=_;have:eJ K.P (Builtin.max_ c.argTypes o.type #[.int k a,.int k b])=some (.int k (max a b)):=by
    show some (Value.int k (if b>a then b else a))=_;congr 2
    split<;>omega
   rw[fj this];rfl
 unfold n3;rw[nq ak H (vs:=[.int k a,.int k b]) (by rw[iq];simp only[hJ,U,aF])];exact this
def TB(b:UInt8):Value:=.int .u8 b.toNat
theorem ko.str{g0:Nat}{s:List UInt8}:ko g0 B J m 1 (.string ⟨⟨s⟩⟩) s.length (s.map TB):=by
 intro H av;refine⟨rfl,?_⟩;show(match takeN s.length s with|some l=>some (l.map fun b:UInt8=>Value.int .u8 b.toNat)|none=>none)=_
 rw[uJ (c5 _),zi];rfl
theorem nL{c:Call}{t gu e:TypeId}{sz k j:Nat}{fz cells new:List Value}{v x:Value}{ba dV:aU}{dZ:TypeDesc}(ag:o.op=.call c)(aL:c.callee=.builtin .append)(au:o.dst=some d)(aw:Nat.blt d n=true)(aK:hJ l c.args.toList=some [v,x])(pc:c.argTypes.toList=[t,gu])(aM:iY K.P t=some (e,sz,fz))(iS:K.P.underlying gu=some dZ)(rE:∀i,dZ≠.int i)
 (ay:Acc e sz v k cells ba)(hm:m.Perm (ba++dV))(U:ko K.g0 B J m sz x j new)(dI:new.length=j*sz)(dP:new.all ev=true)(aA:k+j<=1000000)
 (h:∀w hP,Acc e sz w (k+j) (cells++new) hP->(kn ba->kn hP)/\(s6 ba->s6 hP)->eg ⟨n,ds,(d,w)::l⟩ (hP++dV) J):hU K B o ⟨n,ds,l⟩ m J eg:=fun S H ak av=>
 R3 ag aL au aw aK pc aM iS rE ay rfl (U.perm hm) dI dP aA h S H ak (av.perm hm)
theorem Q6{α:Type}{f:α->Value}{L:List α}{i:Nat}{x:α}(h:i<L.length):fO i (L.map f) [f x]=some ((L.set i x).map f):=by
 rw[EL _ _ _ (by rw[gx,zg];omega)];congr 1
 rw[Fl,SF,bg (by rw[gx];exact h)];simp
theorem afn{v:Value}{k:Nat}:eN [v] k=List.replicate k v:=by
 show KA v k=_;induction k with
 |zero=>rfl
 |succ k aP=>show v::KA v k=_;rw[aP];rfl
end
section
variable {K:dG}{B:dt}{ops:List Oper}{a2:List hT}{F:List (FuncId×List Value)}{E:b3}{m m':aU}{J:an}{o:Oper}{bm:b3->aU->an->Prop}
variable {n:Nat}{ds:dQ}{l:List (Nat×Value)}{d i:Nat}
theorem bi.makeSlice{t e:TypeId}{x y:Operand}{sz:Nat}{fz:List Value}{p q:Int}{rP D2:IntKind}(ar:nth ops i=some o)(aq:o.guard=none)(ag:o.op=.makeSlice t x y)(au:o.dst=some d)(aw:Nat.blt d n=true)(U:bH l x=some (.int rP p))(aF:bH l y=some (.int D2 q))(aM:iY K.P t=some (e,sz,fz))(aX:0<=p)(aa:p<=q)(ab:q<=1000000)
 (h:∀a,bi K B ops a2 F ⟨n,ds,(d,.slice (some ⟨a,0,none⟩) p.toNat q.toNat)::l⟩ ((a,.row (eN fz q.toNat) e)::m) J bm):bi K B ops (.iL i::a2) F ⟨n,ds,l⟩ m J bm:=by
 obtain⟨hu,dA,gq,z,gJ,a0,br,rfl,bN,cW,dj⟩:=r0 aM;refine bi.iL (b:=.row (eN z.cells.toList q.toNat) e false 0 0 false) (p:=.row (eN z.cells.toList q.toNat) e) (dN:=.wG p.toNat q.toNat) ar aq au aw (fun S ak=>?_) (fun H a q=>q) (fun c e r z q=>by cases q) h;rw[ag];simp only[k'];rw[Jp ak U,Jp ak aF];simp only[zs,hu,a0,gJ,dA];rw[AZ (by omega) (by omega),AZ (by omega) (by omega)];simp only[br,cW,dj,B9];rw[show Nat.beq z.cells.toList.length sz=true by rw[bN];exact gH _,show Nat.ble p.toNat q.toNat=true from j3 (by omega)];simp only[B9,b1]
theorem bi.mY(ao:m.Perm m')(h:bi K B ops a2 F E m' J bm):bi K B ops a2 F E m J bm:=fun S H ak av=>h S H ak (av.perm ao)
end
end
end Go.Opn
