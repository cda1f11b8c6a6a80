/- A part of the proof of TableLosses. -/
import Derived.Test.YtjbbbehaciogcaaGreatDoorCap
import Derived.Test.YtjbbbehaciogcaaGreatDoorCao
set_option linter.unusedVariables false
set_option linter.unusedSimpArgs false
namespace Go.Opn
noncomputable section
open Go.Cre Go.RowKit
theorem aaz{qm:Nat}:∀(l:List Nat) {H:ar},jF H->(∀x∈l,x<H.an)->∃H',ta H qm l=some H'/\jF H':=by
 intro l;induction l with
 |nil=>intro H w _;exact⟨H,rfl,w⟩
 |cons x l aP=>
  intro H w h;simp only[ta];cases ai:Nat.beq x qm with
  |true=>exact aP w fun y ap=>h y (.tail _ ap)
  |false=>
   obtain⟨H1,ax⟩:=w.upd .dead (h x (.head _));rw[dK,ax];exact aP (w.N' (h x (.head _)) ax) fun y ap=>by rw[(ar.rn ax).1];exact h y (.tail _ ap)
section
variable {g0:Nat}{B:dv}{H:ar}{J:aj}{m m':aN}
theorem Inv.kill{a z:Nat}{cells:List Value}{e:TypeId}{rest:List Nat}(h:Inv g0 B J ((a,.opn cells e rest z)::m) H)(cells':List Value)(hF:Nat):
 ∃f H1 bW,H.mem.get a=some (.row cells e true f z false)/\H.upd a (.row cells' e true f hF false)=some H1/\Ai H1 a f=some bW/\Inv g0 B J ((a,.opn cells' e [] hF)::m) bW:=by
 obtain⟨aW,aT,bo,cu⟩:=h.own a _ (.head _);obtain⟨f,f1,f2,f3⟩:=aW;have cD:=h.lt (.head _);have eh:=h.gF;rw[show ids ((a,dI.opn cells e rest z)::m)=a::(rest++ids m) from rfl,vn,nh,KN] at eh;obtain⟨qb,Is,Mw,RQ⟩:=eh;obtain⟨H1,ax⟩:=h.wf.upd (.row cells' e true f hF false) cD;have bl:=h.wf.N' cD ax;obtain⟨u1,bT,nd,Dd,tr⟩:=ar.rn ax;have lm:∀x∈a::rest,x<H1.an:=fun x aa=>by
  rw[u1];rcases gj.1 aa with q|q
  ·subst q;exact cD
  ·exact(h.opn a _ (.head _) x q).1
 obtain⟨bW,aS,b7⟩:=aaz (qm:=a) (a::rest) bl lm;obtain⟨v1,v2,rq,v4,aeB,v6⟩:=MV aS;have jz:f<bW.cy:=by rw[rq,nd];exact h.wf.Hz f3
 obtain⟨fx,cl⟩:=b7.se [a] jz;obtain⟨s2,s1,gN,mM,rk⟩:=ar.FW cl;have an0:fx.mem.get a=some (.row cells' e true f hF false):=by rw[s1,v6 a (.inr rfl),tr,aV rfl]
 have Cg:∀x,x≠a->x∉rest->fx.mem.get x=H.mem.get x:=fun x aL aG=>by
  rw[s1,v6 x (.inl (fun q=>by rcases gj.1 q with q|q;exact aL q;exact aG q)),tr,aQ aL]
 have H8:∀g,g≠f->fx.bF.get g=H.bF.get g:=fun g q=>by rw[rk,aQ q,v2,bT]
 have h6:fx.an=H.an:=by rw[s2,v1,u1]
 refine⟨f,H1,fx,f2,ax,?_,⟨b7.UL jz cl,by rw[mM,v4,Dd];exact h.bL,by rw[h6];exact h.an,by rw[gN,rq,nd];exact h.cy,fun x aa ft=>?_,fun g ay=>?_,fun x c bD aX=>?_,h.le,h.fresh,fun x b ai=>?_,fun x b ai y ap=>?_,?_⟩⟩
 ·unfold Ai
  rw[bT,f3];simp only[aS,cl]
 ·rw[Cg x (fun q=>by subst q;rcases aT with q|q;·omega
                     ·exact ft q) (fun q=>by rcases(h.opn a _ (.head _) x q).2.1 with r|r;·omega
                                             ·exact ft r)]
  exact h.gn x aa ft
 ·rw[H8 g (fun q=>ay (by rw[q];exact f1))];exact h.nB g ay
 ·obtain⟨o,cF,iA,s,q⟩:=h.ei x c bD aX
  exact⟨o,cF,iA,s,by rw[Cg x (fun r=>by subst r;rw[bo] at aX;cases aX) (fun r=>by have:=(h.opn a _ (.head _) x r).2.2;rw[this] at aX;cases aX)];exact q⟩
 ·rcases gj.1 ai with q|q
  ·injection q with aL aG;subst aL;subst aG
   exact⟨⟨f,f1,an0,by rw[rk,aV rfl]⟩,aT,bo,cu⟩
  ·obtain⟨ec,dA,ib,j8⟩:=h.own x b (.tail _ q)
   have Cr:x∈ids m:=Ag q;refine⟨?_,dA,ib,j8⟩;refine dI.xo ec (Cg x (fun r=>qb (.inr (r▸Cr))) (fun r=>RQ _ r _ Cr rfl)) fun g r ay=>?_;rw[H8 g (fun dG=>by
        subst dG;rw[f3] at ay;injection ay with ay;injection ay with ay
        exact qb (.inr (ay▸Cr)))]
   exact ay
 ·rcases gj.1 ai with q|q
  ·injection q with aL aG;subst aL;subst aG;cases ap
  ·rw[h6];exact h.opn x b (.tail _ q) y ap
 ·show(a::([]++ids m)).Nodup
  rw[kj,vn];exact⟨fun q=>qb (.inr q),Mw⟩
end
section
variable {K:dR}{B:dv}{o:Oper}{n:Nat}{ds:ee}{l:List (Nat×Value)}{m m':aN}{J:aj}{fk:ca->aN->aj->Prop}{d:Nat}
theorem ary{g0:Nat}{H:ar}(aB:Inv g0 B J m H){a:Nat}(h:g0<=a):Nat.blt a H.bL=false:=by
 cases q:Nat.blt a H.bL
 ·rfl
 ·have:a<H.bL:=by simpa[Nat.blt,xd] using q
  have:=aB.bL;omega
theorem Vs{t:TypeId}{x y:Operand}{a off k z:Nat}{v:Value}{vs cells cells':List Value}{e:TypeId}{rest:List Nat}{fo:aN}(ah:o.op=.store t x y)(au:o.dst=none)(aa:bJ l x=some (.pointer (some ⟨a,off,none⟩)))(ap:bJ l y=some v)(hk:eV K.P t=some k)(aC:v.cells.toList=vs)(aq:Nat.beq vs.length k=true)(aR:Nat.blt 0 vs.length=true)(ad:vs.all fh=true)(hs:gS off cells vs=some cells')(aM:z<=off)(aw:m.Perm ((a,.opn cells e rest z)::fo))(h:fk ⟨n,ds,l⟩ ((a,.opn cells' e [] z)::fo) J):jW K B o ⟨n,ds,l⟩ m J fk:=by
 refine jW.skip au fun S H al aB=>?_;have aB:=aB.perm aw;obtain⟨f,H1,bW,ax,aS,cl,dS⟩:=aB.kill cells' z;obtain⟨aW,aT,bo,cu⟩:=aB.own _ _ (.head _);refine⟨bW,_,J,fun call aJ=>?_,dS,h⟩;unfold cz e4;simp only[ah];show FK K.P _ t (a3 S.T H x) (a3 S.T H y)=_;rw[de al H aa,de al H ap];show L4 (By K.P H t (.pointer (some ⟨a,off,none⟩)) v)=_;unfold By;simp only[hk,aC,aq,cd];unfold sN;cases vs with
 |nil=>cases aR
 |cons v0 vs=>
  simp only
  rw[ary aB cu,dK,ax];simp only[show Nat.ble z off=true from mo aM,VK,ad,cd,hs,aS,cl];rfl
theorem wY{c:Call}{x y:Operand}{k:IntKind}{a b:Int}(ah:o.op=.call c)(aC:c.callee=.builtin .max)(g3:c.args.toList=[x,y])(aa:bJ l x=some (.int k a))(ap:bJ l y=some (.int k b)):cY K B o n ds l m J (.int k (max a b)):=by
 intro call aJ S H al aB;rw[Bu ah aC];have n1:c.args=#[x,y]:=by rw[<-VI];exact g3
 have:fl K.P S.T H o=some (.val (.int k (max a b)) H):=by
  refine pt al ?_ aa ap rfl rfl ?_ rfl
  ·rw[ah];show(Call.operands c).toList=_;simp[Call.operands,aC,n1]
  ·unfold execOp;simp only[ah];have ao:eR K.P (resolve (qs S.T H) c o.type)=some {target:=.builtin .max c.argTypes o.type (c.args.map fun|.const _=>true|_=>false),args:=#[.int k a,.int k b]}:=by
    unfold resolve;simp only[aC,n1];show some _=some _;simp[hK al H aa,hK al H ap];exact⟨by cases x<;>rfl,by cases y<;>rfl⟩
   rw[eL ao];show eR K.P ((Builtin.max_ c.argTypes o.type #[.int k a,.int k b]) >>= fun v=>pure (Next.value v))=_;have:eR K.P (Builtin.max_ c.argTypes o.type #[.int k a,.int k b])=some (.int k (max a b)):=by
    show some (Value.int k (if b>a then b else a))=_;congr 2
    split<;>omega
   rw[eL this];rfl
 unfold qS;rw[oB al H (vs:=[.int k a,.int k b]) (by rw[g3];simp only[h4,aa,ap])];exact this
def ag9(b:UInt8):Value:=.int .u8 b.toNat
theorem mW.str{g0:Nat}{s:List UInt8}:mW g0 B J m 1 (.string ⟨⟨s⟩⟩) s.length (s.map ag9):=by
 intro H aB;refine⟨rfl,?_⟩;show(match takeN s.length s with|some l=>some (l.map fun b:UInt8=>Value.int .u8 b.toNat)|none=>none)=_
 rw[y5 (bU _),pM];rfl
theorem tt{c:Call}{t h1 e:TypeId}{sz k j:Nat}{gz cells new:List Value}{v x:Value}{bc fo:aN}{eK:TypeDesc}(ah:o.op=.call c)(aC:c.callee=.builtin .append)(au:o.dst=some d)(aE:Nat.blt d n=true)(aF:h4 l c.args.toList=some [v,x])(n7:c.argTypes.toList=[t,h1])(aI:mN K.P t=some (e,sz,gz))(k3:K.P.underlying h1=some eK)(wi:∀i,eK≠.int i)
 (av:Acc e sz v k cells bc)(hm:m.Perm (bc++fo))(aa:mW K.g0 B J m sz x j new)(dT:new.length=j*sz)(dX:new.all fh=true)(aq:k+j<=1000000)
 (h:∀w jM,Acc e sz w (k+j) (cells++new) jM->(iA bc->iA jM)/\(uM bc->uM jM)->fk ⟨n,ds,(d,w)::l⟩ (jM++fo) J):jW K B o ⟨n,ds,l⟩ m J fk:=fun S H al aB=>
 afb ah aC au aE aF n7 aI k3 wi av rfl (aa.perm hm) dT dX aq h S H al (aB.perm hm)
theorem adN{α:Type}{f:α->Value}{L:List α}{i:Nat}{x:α}(h:i<L.length):gS i (L.map f) [f x]=some ((L.set i x).map f):=by
 rw[y3 _ _ _ (by rw[j0,zl];omega)];congr 1
 rw[List.map_set,OS,aV (by rw[j0];exact h)];simp
theorem N1{L:List Int}{off:Nat}{x:Int}(i:Nat)(h:i<L.length)(ah:off=i:=by omega):gS off (L.map (Value.int .i64)) [.int .i64 x]=some ((L.set i x).map (Value.int .i64)):=by subst ah;exact adN (f:=Value.int .i64) h
theorem arC{L:List Int}{off:Nat}{x:Int}(i:Nat)(h:L[i]?=some x)(ah:off=i:=by omega):nth (L.map (Value.int .i64)) off=some (.int .i64 x):=by subst ah;rw[lT,lC,h];rfl
theorem VB{v:Value}{k:Nat}:fM [v] k=List.replicate k v:=by
 show VA v k=_;induction k with
 |zero=>rfl
 |succ k aP=>show v::VA v k=_;rw[aP];rfl
theorem afi{k:Nat}:fM [.int .i64 0] k=(List.replicate k (0:Int)).map (Value.int .i64):=by rw[VB,List.map_replicate]
end
section
variable {K:dR}{B:dv}{ops:List Oper}{a1:List jo}{F:List (FuncId×List Value)}{E:ca}{m m':aN}{J:aj}{o:Oper}{bq:ca->aN->aj->Prop}
variable {n:Nat}{ds:ee}{l:List (Nat×Value)}{d i:Nat}
theorem ct.makeSlice{t e:TypeId}{x y:Operand}{sz:Nat}{gz:List Value}{p q:Int}{s' Fk:IntKind}(ak:nth ops i=some o)(ay:o.guard=none)(ah:o.op=.makeSlice t x y)(au:o.dst=some d)(aE:Nat.blt d n=true)(aa:bJ l x=some (.int s' p))(ap:bJ l y=some (.int Fk q))(aI:mN K.P t=some (e,sz,gz))(aR:0<=p)(ad:p<=q)(ae:q<=1000000)
 (h:∀a,ct K B ops a1 F ⟨n,ds,(d,.slice (some ⟨a,0,none⟩) p.toNat q.toNat)::l⟩ ((a,.row (fM gz q.toNat) e)::m) J bq):ct K B ops (.kG i::a1) F ⟨n,ds,l⟩ m J bq:=by
 obtain⟨hu,eb,ju,z,h9,aM,a',rfl,bf,bV,dx⟩:=u0 aI;refine ct.kG (b:=.row (fM z.cells.toList q.toNat) e false 0 0 false) (p:=.row (fM z.cells.toList q.toNat) e) (eD:=.C' p.toNat q.toNat) ak ay au aE (fun S al=>?_) (fun H a q=>q) (fun c e r z q=>by cases q) h;rw[ah];simp only[nT];rw[Uf al aa,Uf al ap];simp only[GH,hu,aM,h9,eb];rw[IW (by omega) (by omega),IW (by omega) (by omega)];simp only[a',bV,dx,Kx];rw[show Nat.beq z.cells.toList.length sz=true by rw[bf];exact hT _,show Nat.ble p.toNat q.toNat=true from mo (by omega)];simp only[Kx,cd]
theorem ct.ei{a:Nat}{b:dI}{x:List Value×TypeId}(aa:b.rowOf=some x)(h:J.le (J.add a x)->(J.add a x) a=some x->ct K B ops a1 F E m (J.add a x) bq):ct K B ops a1 F E ((a,b)::m) J bq:=by
 intro S H al aB;obtain⟨aW,aT⟩:=aB.ie aa;exact h aT (aj.iE _ _ _) S H al aW
theorem ct.ri(aw:m.Perm m')(h:ct K B ops a1 F E m' J bq):ct K B ops a1 F E m J bq:=fun S H al aB=>h S H al (aB.perm aw)
end
end
end Go.Opn
set_option maxRecDepth 100000
namespace Go.Opn
noncomputable section
open Go.Cre Go.RowKit Go.Proofs
theorem wrap_u64{n:Int}(aR:0<=n)(ad:n<18446744073709551616):IntKind.u64.wrap n=n:=by
 unfold IntKind.wrap IntKind.signed IntKind.bits;simp only[Gj,ze,yp];omega
theorem wrap_u32{n:Int}(aR:0<=n)(ad:n<4294967296):IntKind.u32.wrap n=n:=by
 unfold IntKind.wrap IntKind.signed IntKind.bits;simp only[Gj,ze,yp];omega
section
variable {Q:c7 jc}{g0:Nat}
theorem yA{α β:Type}{f:Nat->Option β}{g:α->β}:∀{L:List (Nat×α)},L.map (fun x=>f x.1)=L.map (fun x=>some (g x.2))->∀{t:Nat} {r:α},tb L t=some r->f t=some (g r):=by
 intro L;induction L with
 |nil=>intro _ t r h;cases h
 |cons x L aP=>
  obtain⟨u,v⟩:=x;intro h t r ao;rw[rD,rD,List.cons.injEq] at h;simp only[tb] at ao;cases ai:Nat.beq t u with
  |true=>
   rw[ai,cd] at ao;injection ao with ao;subst ao
   obtain rfl:=ez ai;exact h.1
  |false=>rw[ai,dK] at ao;exact aP h.2 ao
theorem Tx{f:Nat->Bool}:∀{L:List Nat},L.all f=true->∀{t:Nat},Fu t L=true->f t=true:=by
 intro L;induction L with
 |nil=>intro _ t h;cases h
 |cons u L aP=>
  intro h t aI;rw[DD,gr] at h;simp only[Fu] at aI;cases ai:Nat.beq t u with
  |true=>obtain rfl:=ez ai;exact h.1
  |false=>rw[ai,dK] at aI;exact aP h.2 aI
theorem fz{t:Nat}{r:Option Nat}(h:tb Pp t=some r):sB (aU Q g0).P t=some r:=yA (f:=fun t=>sB jc t) (g:=id) agx h
theorem u2{t:Nat}{r:Nat}(h:tb U2 t=some r):eV (aU Q g0).P t=some r:=yA (f:=fun t=>eV jc t) (g:=id) avr h
theorem eW{t:Nat}{r:TypeId×Nat×List Value}(h:tb UK t=some r):mN (aU Q g0).P t=some r:=yA (f:=fun t=>mN jc t) (g:=id) aud h
theorem ad6{t:Nat}{r:Value}(h:tb Vy t=some r):hA (aU Q g0).P t=some r:=yA (f:=fun t=>hA jc t) (g:=id) axr h
theorem qB{t f:Nat}{r:Nat}(h:tb QY (t*100+f)=some r)(aA:Nat.blt f 100=true):Er (aU Q g0).P t f=some r:=by
 have:=yA (f:=fun k=>Er jc (k / 100) (k % 100)) (g:=id) ak8 h;have aA:f<100:=by simpa[Nat.blt,xd] using aA
 rwa [show(t*100+f) / 100=t by omega,show(t*100+f) % 100=f by omega] at this
theorem ad3{t:Nat}{r:Nat×Nat×Nat}(h:tb Pv t=some r):zy (aU Q g0).P t=some r:=yA (f:=fun t=>zy jc t) (g:=id) agL h
theorem U3{t:Nat}{r:Nat}(h:tb QE t=some r):Ej (aU Q g0).P t=some r:=yA (f:=fun t=>Ej jc t) (g:=id) aj6 h
theorem ad4{t:Nat}(h:Fu t aat=true):isSlice (aU Q g0).P t=true:=Tx (f:=fun t=>isSlice jc t) isOk h
theorem U4{t:Nat}(h:Fu t aau=true):wA (aU Q g0).P t=true:=Tx (f:=fun t=>wA jc t) apI h
theorem ad5{t:Nat}(h:Fu t abX=true):CM (aU Q g0).P t=true:=Tx (f:=fun t=>CM jc t) aro h
theorem avt{t:Nat}{r:Sum (List (Nat×Nat)) Nat×List Value}(h:tb PV t=some r):GQ (aU Q g0).P t=some r:=yA (f:=fun t=>GQ jc t) (g:=id) ag7 h
theorem avu{s t:Nat}{r:IntKind}(h:tb Qo (s*10000+t)=some r)(aA:Nat.blt t 10000=true):isInt (aU Q g0).P s t=some r:=by
 have:=yA (f:=fun k=>isInt jc (k / 10000) (k % 10000)) (g:=id) aiQ h;have aA:t<10000:=by simpa[Nat.blt,xd] using aA
 rwa [show(s*10000+t) / 10000=s by omega,show(s*10000+t) % 10000=t by omega] at this
structure Hid (p:Prop):Prop where
 out:p
section
variable {B:dv}{o:Oper}{n:Nat}{ds:ee}{l:List (Nat×Value)}{m m':aN}{J:aj}{d:Nat}
theorem ac9{a:Nat}{cells:List Value}(h:mq m J a cells:=by first|exact .own (by repeat first|exact .head _|refine .tail _ ?_|refine ki _ ?_)|exact .ei (by assumption)|exact .opn (by repeat first|exact .head _|refine .tail _ ?_|refine ki _ ?_)):mq m J a cells:=h
theorem V.kK{x:Operand}{v:Value}(ah:o.op=.move x:=by exact rfl) (aa:bJ l x=some v:=by exact rfl):cY (aU Q g0) B o n ds l m J (v):=AJ ah aa
theorem V.GJ{x:Operand}{v:Value}(ah:o.op=.assign x:=by exact rfl) (aa:bJ l x=some v:=by exact rfl):cY (aU Q g0) B o n ds l m J (v):=awd ah aa
theorem V.QR{s:TypeId}{x:Operand}{f a off k:Nat}(ah:o.op=.fieldAddr s x f:=by exact rfl) (aa:bJ l x=some (.pointer (some ⟨a,off,none⟩)):=by exact rfl) (aA:Er (aU Q g0).P s f=some k:=by exact qB rfl rfl):cY (aU Q g0) B o n ds l m J (.pointer (some ⟨a,off+k,none⟩)):=qE ah aa aA
theorem V.nC{t:TypeId}{x:Operand}{a off:Nat}{cells:List Value}{v:Value}(ah:o.op=.load t x:=by exact rfl) (aa:bJ l x=some (.pointer (some ⟨a,off,none⟩)):=by exact rfl) (ao:mq m J a cells:=by exact ac9) (av:nn (aU Q g0).P t cells off=some v:=by exact gR (fz rfl) (by first|rfl|assumption)):cY (aU Q g0) B o n ds l m J (v):=ik ah aa ao av
theorem V.aaJ{t:TypeId}{x:Operand}{a off:Nat}{cells:List Value}{v:Value}(ah:o.op=.load t x:=by exact rfl) (aa:bJ l x=some (.pointer (some ⟨a,off,none⟩)):=by exact rfl) (ao:mq m J a cells:=by exact ac9) (av:nn (aU Q g0).P t cells off=some v:=by exact wP (fz rfl) (by first|rfl|assumption)):cY (aU Q g0) B o n ds l m J (v):=ik ah aa ao av
theorem V.cE{c x y:Operand}{t:Bool}{v:Value}(ah:o.op=.pick c x y:=by exact rfl) (aC:bJ l c=some (.bool t):=by exact rfl) (av:(if t=true then bJ l x else bJ l y)=some v:=by exact rfl):cY (aU Q g0) B o n ds l m J (v):=aww ah aC av
theorem V.aeV{op:BinOp}{t dH:TypeId}{x y:Operand}{k:IntKind}{a b:Int}{v:Value}(ah:o.op=.binOp op t x y dH:=by exact rfl) (aa:bJ l x=some (.int k a):=by exact rfl) (ap:bJ l y=some (.int k b):=by exact rfl) (av:PN k a b op=some v:=by exact rfl):cY (aU Q g0) B o n ds l m J (v):=aeE ah aa ap av
theorem V.iz{op:BinOp}{t dH:TypeId}{x y:Operand}{k:IntKind}{a b c c':Int}(ah:o.op=.binOp op t x y dH:=by exact rfl) (aa:bJ l x=some (.int k a):=by exact rfl) (ap:bJ l y=some (.int k b):=by exact rfl) (av:Pu a b op=some c:=by exact rfl) (hw:k.wrap c=c':=by first|exact wrap_i64 (by omega) (by omega)|exact wrap_u8 (by omega) (by omega)|exact wrap_u64 (by omega) (by omega)|exact wrap_u32 (by omega) (by omega)|rfl):cY (aU Q g0) B o n ds l m J (.int k c'):=awb ah aa ap av hw
theorem V.Hk{op:BinOp}{t dH:TypeId}{x y:Operand}{k:IntKind}{a b:Int}{v:Value}(ah:o.op=.binOp op t x y dH:=by exact rfl) (aa:bJ l x=some (.int k a):=by exact rfl) (ap:bJ l y=some (.int k b):=by exact rfl) (av:Ed k a b op=some v:=by exact rfl) (ai:b≠0:=by first|decide|omega):cY (aU Q g0) B o n ds l m J (v):=awh ah aa ap av ai
theorem V.Jq{v:Value}(h:cY (aU Q g0) B o n ds l m J v:=by first|exact awu rfl rfl|exact aeF rfl rfl):cY (aU Q g0) B o n ds l m J (v):=h
theorem V.ex{x:Operand}{dz:Nat}{vs:Array Value}{v:Value}(ah:o.op=.extract x dz:=by exact rfl) (aa:bJ l x=some (.tuple vs):=by exact rfl) (av:nth vs.toList dz=some v:=by exact rfl):cY (aU Q g0) B o n ds l m J (v):=awi ah aa av
theorem V.M2{v:Value}(h:cY (aU Q g0) B o n ds l m J v:=by exact awq rfl rfl rfl rfl (ad4 rfl)):cY (aU Q g0) B o n ds l m J (v):=h
theorem V.Tq{v:Value}(h:cY (aU Q g0) B o n ds l m J v:=by exact awp rfl rfl rfl rfl (U4 rfl)):cY (aU Q g0) B o n ds l m J (v):=h
theorem V.dz{t:TypeId}{x dz:Operand}{a off len cap sz:Nat}{k:IntKind}{i:Int}(ah:o.op=.indexAddr t x dz:=by exact rfl) (aa:bJ l x=some (.slice (some ⟨a,off,none⟩) len cap):=by exact rfl) (ak:bJ l dz=some (.int k i):=by exact rfl) (aI:Ej (aU Q g0).P t=some sz:=by exact U3 rfl) (aR:0<=i:=by first|omega|(simp;omega)) (ad:i<len:=by first|omega|(simp;omega)):cY (aU Q g0) B o n ds l m J (.pointer (some ⟨a,off+i.toNat*sz,none⟩)):=Vd ah aa ak aI aR ad
theorem V.aap{t elem:TypeId}{x dz:Operand}{a off len sz:Nat}{k:IntKind}{i:Int}(ah:o.op=.indexAddr t x dz:=by exact rfl) (aa:bJ l x=some (.pointer (some ⟨a,off,none⟩)):=by exact rfl) (ak:bJ l dz=some (.int k i):=by exact rfl) (aI:zy (aU Q g0).P t=some (len,elem,sz):=by exact ad3 rfl) (aR:0<=i:=by first|omega|(simp;omega)) (ad:i<len:=by first|omega|(simp;omega)):cY (aU Q g0) B o n ds l m J (.pointer (some ⟨a,off+i.toNat*sz,none⟩)):=awl ah aa ak aI aR ad
theorem V.sE{v:Value}(h:cY (aU Q g0) B o n ds l m J v:=by exact awf rfl rfl (avt rfl) rfl):cY (aU Q g0) B o n ds l m J (v):=h
theorem V.TT{v:Value}(h:cY (aU Q g0) B o n ds l m J v:=by exact awt rfl rfl):cY (aU Q g0) B o n ds l m J (v):=h
theorem V.lH{v:Value}(h:cY (aU Q g0) B o n ds l m J v:=by exact awg rfl rfl (avu rfl rfl) (by first|exact wrap_i64 (by omega) (by omega)|exact wrap_u8 (by omega) (by omega)|exact wrap_u64 (by omega) (by omega)|exact wrap_u32 (by omega) (by omega)|rfl)):cY (aU Q g0) B o n ds l m J (v):=h
theorem V.fn{v:Value}(h:cY (aU Q g0) B o n ds l m J v:=by exact awj rfl rfl rfl):cY (aU Q g0) B o n ds l m J (v):=h
theorem V.aas{v:Value}(h:cY (aU Q g0) B o n ds l m J v:=by exact awk rfl rfl (ad5 rfl)):cY (aU Q g0) B o n ds l m J (v):=h
theorem V.apk{t:TypeId}{x dz:Operand}{s:List UInt8}{k:IntKind}{i:Int}{b:UInt8}(ah:o.op=.index t x dz:=by exact rfl) (aa:bJ l x=some (.string ⟨⟨s⟩⟩):=by exact rfl) (ak:bJ l dz=some (.int k i):=by exact rfl) (aI:wA (aU Q g0).P t=true:=by exact U4 rfl) (aR:0<=i:=by first|omega|(simp;omega)) (ai:s[i.toNat]?=some b:=by first|assumption|exact ey (by first|omega|(simp;omega))):cY (aU Q g0) B o n ds l m J (.int .u8 b.toNat):=aeD ah aa ak aI aR ai
theorem V.UJ{v:Value}(h:cY (aU Q g0) B o n ds l m J v:=by exact awC (op:=.eql) rfl rfl rfl (ad4 rfl)):cY (aU Q g0) B o n ds l m J (v):=h
section
variable {ops rest:List Oper}{bq:Option (List PanicEntry)->ca->aN->aj->Prop}
theorem eZ{v:Value}(av:cY (aU Q g0) B o n ds l m J v)(h:W (aU Q g0) B ops rest ⟨n,ds,(d,v)::l⟩ m J bq)(ay:o.guard=none:=by exact rfl) (au:o.dst=some d:=by exact rfl) (aE:Nat.blt d n=true:=by exact rfl):W (aU Q g0) B ops (o::rest) ⟨n,ds,l⟩ m J bq:=W.step ay (Exec.val au aE av h)
theorem KX{v:Value}{g:Nat}{want b:Bool}(av:cY (aU Q g0) B o n ds l m J v)(h:W (aU Q g0) B ops rest ⟨n,ds,(d,v)::l⟩ m J bq)(ay:lg ops o=some (g,want):=by exact rfl) (ai:look l g=some (.bool b):=by exact rfl) (hw:(b==want)=true:=by exact rfl) (au:o.dst=some d:=by exact rfl) (aE:Nat.blt d n=true:=by exact rfl):W (aU Q g0) B ops (o::rest) ⟨n,ds,l⟩ m J bq:=W.LR ay ai hw (Exec.val au aE av h)
theorem age{e:Nat}{want b:Bool}(h:W (aU Q g0) B ops rest ⟨n,ds,(e,undef)::l⟩ m J bq)(ay:lg ops o=some (d,want):=by exact rfl) (ai:look l d=some (.bool b):=by exact rfl) (hw:(b==want)=false:=by exact rfl) (au:o.dst=some e:=by exact rfl) (aE:Nat.blt e n=true:=by exact rfl):W (aU Q g0) B ops (o::rest) ⟨n,ds,l⟩ m J bq:=W.YA ay ai hw au aE h
theorem agh{e:Nat}{want:Bool}(h:W (aU Q g0) B ops rest ⟨n,ds,(e,undef)::l⟩ m J bq)(ay:lg ops o=some (d,want):=by exact rfl) (ai:look l d=some undef:=by exact rfl) (au:o.dst=some e:=by exact rfl) (aE:Nat.blt e n=true:=by exact rfl):W (aU Q g0) B ops (o::rest) ⟨n,ds,l⟩ m J bq:=W.al' ay ai au aE h
theorem agf{t:TypeId}{x y:Operand}{a off k:Nat}{v:Value}{vs cells cells':List Value}{e:TypeId}(h:W (aU Q g0) B ops rest ⟨n,ds,l⟩ m' J bq)(ay:o.guard=none:=by exact rfl) (ah:o.op=.store t x y:=by exact rfl) (au:o.dst=none:=by exact rfl) (aa:bJ l x=some (.pointer (some ⟨a,off,none⟩)):=by exact rfl) (ap:bJ l y=some v:=by exact rfl) (hk:eV (aU Q g0).P t=some k:=by exact u2 rfl) (aC:v.cells.toList=vs:=by exact rfl) (aq:Nat.beq vs.length k=true:=by exact rfl) (aR:Nat.blt 0 vs.length=true:=by exact rfl) (ad:vs.all fh=true:=by exact rfl) (aw:gB m a (.row cells e) (.row cells' e) m':=by repeat first|exact .head _ _ _ _|apply gB.tail|apply gB.app) (hs:gS off cells vs=some cells':=by exact rfl):W (aU Q g0) B ops (o::rest) ⟨n,ds,l⟩ m J bq:=W.step ay (.of (AP ah au aa ap hk aC aq aR ad hs aw h))
end
section
variable {ops:List Oper}{a1:List jo}{F:List (FuncId×List Value)}{i:Nat}{bq:ca->aN->aj->Prop}
theorem zi{v:Value}(ak:nth ops i=some o)(av:cY (aU Q g0) B o n ds l m J v)(h:ct (aU Q g0) B ops a1 F ⟨n,ds,(d,v)::l⟩ m J bq)(ay:o.guard=none:=by exact rfl) (au:o.dst=some d:=by exact rfl) (aE:Nat.blt d n=true:=by exact rfl):ct (aU Q g0) B ops (.val i::a1) F ⟨n,ds,l⟩ m J bq:=ct.val ak ay au aE av h
theorem OB{v:Value}(ak:nth ops i=some o)(av:cY (aU Q g0) B o n ds l m J v)(h:ct (aU Q g0) B ops a1 F ⟨n,ds,(d,v)::l⟩ m J bq)(ay:o.guard=none:=by exact rfl) (au:o.dst=some d:=by exact rfl) (aE:Nat.blt d n=true:=by exact rfl):ct (aU Q g0) B ops (.bE i::a1) F ⟨n,ds,l⟩ m J bq:=ct.ah0 ak ay au aE av h
theorem afs{t:TypeId}{x y:Operand}{a off k:Nat}{v:Value}{vs cells cells':List Value}{e:TypeId}(ak:nth ops i=some o)(h:ct (aU Q g0) B ops a1 F ⟨n,ds,l⟩ m' J bq)(ay:o.guard=none:=by exact rfl) (ah:o.op=.store t x y:=by exact rfl) (au:o.dst=none:=by exact rfl) (aa:bJ l x=some (.pointer (some ⟨a,off,none⟩)):=by exact rfl) (ap:bJ l y=some v:=by exact rfl) (hk:eV (aU Q g0).P t=some k:=by exact u2 rfl) (aC:v.cells.toList=vs:=by exact rfl) (aq:Nat.beq vs.length k=true:=by exact rfl) (aR:Nat.blt 0 vs.length=true:=by exact rfl) (ad:vs.all fh=true:=by exact rfl) (aw:gB m a (.row cells e) (.row cells' e) m':=by repeat first|exact .head _ _ _ _|apply gB.tail|apply gB.app) (hs:gS off cells vs=some cells':=by exact rfl):ct (aU Q g0) B ops (.bE i::a1) F ⟨n,ds,l⟩ m J bq:=ct.vL ak ay (AP ah au aa ap hk aC aq aR ad hs aw h)
end
section
variable {R:vv}{ops:List Oper}{a1:List jo}{i g:Nat}{want b:Bool}{bq:ca->aN->aj->Prop}
theorem af8{v:Value}(ak:nth ops i=some o)(av:cY (aU Q g0) B o n ds l m J v)(h:ga (aU Q g0) B R ops a1 ⟨n,ds,(d,v)::l⟩ m J bq)(ay:o.guard=none:=by exact rfl) (au:o.dst=some d:=by exact rfl) (aE:Nat.blt d n=true:=by exact rfl):ga (aU Q g0) B R ops (.val i::a1) ⟨n,ds,l⟩ m J bq:=ga.val ak ay au aE av h
theorem af9{v:Value}(ak:nth ops i=some o)(av:cY (aU Q g0) B o n ds l m J v)(h:ga (aU Q g0) B R ops a1 ⟨n,ds,(d,v)::l⟩ m J bq)(ay:lg ops o=some (g,want):=by exact rfl) (ai:look l g=some (.bool b):=by exact rfl) (hw:(b==want)=true:=by exact rfl) (au:o.dst=some d:=by exact rfl) (aE:Nat.blt d n=true:=by exact rfl):ga (aU Q g0) B R ops (.val i::a1) ⟨n,ds,l⟩ m J bq:=ga.Of ak ay ai hw au aE av h
end
theorem gy{v u:Value}(h:eg 8 v u=true:=by first|assumption|rfl|exact aeT _ _ _|exact aeS _ _|exact aeU (by assumption) _ _ _|(refine awM ?_;repeat first|exact awP|refine awO ?_ ?_|exact aeT _ _ _|exact aeS _ _|exact aeU (by assumption) _ _ _)|simp[eg,addrEq]):eg 8 v u=true:=h
theorem gW{v:Value}(h:cY (aU Q g0) B o n ds l m J v:=by first|exact V.kK|exact V.GJ|exact V.QR|exact V.nC|exact V.aaJ|exact V.dz|exact V.cE|exact V.iz|exact V.aeV|exact V.ex|exact V.sE|exact V.Jq|exact V.iz|exact V.Hk|exact V.M2|exact V.Tq|exact V.TT|exact V.lH|exact V.fn|exact V.aas|exact V.apk|exact V.aap|exact V.UJ):cY (aU Q g0) B o n ds l m J v:=h
theorem fD{ops:List Oper}{is:List Nat}(h:tx (aU Q g0) B ops n ds l m J is:=by
 repeat first
  |exact trivial
  |exact e3.val rfl rfl rfl gW rfl gy
  |exact e3.Of rfl rfl rfl rfl rfl gW rfl gy
  |exact e3.no rfl (Q4 rfl rfl rfl)
  |exact e3.no rfl (Q5 rfl rfl)
  |refine⟨?_,?_⟩):tx (aU Q g0) B ops n ds l m J is:=h
theorem nS{ops:List Oper}{E:ca}{bq:Option (List PanicEntry)->ca->aN->aj->Prop}(h:bq none E m J):W (aU Q g0) B ops [] E m J bq:=W.nil h
theorem rg{p q:Prop}(h:p)(n3:Hid p->q:=by
 intro m6;repeat refine az.seq ?_
 refine az.region ?_;exact m6.out):q:=n3 ⟨h⟩
theorem a2{p q:Prop}(h:p)(n3:Hid p->q:=by
 intro m6;repeat refine az.seq ?_
 exact m6.out):q:=n3 ⟨h⟩
theorem Jo{p q:Prop}(h:p)(n3:Hid p->q:=by
 intro m6;refine nS ?_;repeat refine az.seq ?_
 refine az.region ?_;exact m6.out):q:=n3 ⟨h⟩
theorem ns{p q:Prop}(h:p)(n3:Hid p->q:=by
 intro m6;refine nS ?_;repeat refine az.seq ?_
 exact m6.out):q:=n3 ⟨h⟩
theorem hx{p q:Prop}(h:p)(n3:Hid p->q:=by
 intro m6;repeat refine az.seq ?_
 refine az.skip ?_;exact m6.out):q:=n3 ⟨h⟩
theorem I2{p q:Prop}(h:p)(n3:Hid p->q:=by
 intro m6;repeat refine az.seq ?_
 refine az.skip ?_;repeat refine az.seq ?_
 refine az.region ?_;exact m6.out):q:=n3 ⟨h⟩
structure rF (t:Bool) (dg jQ:Prop):Prop where
 y:t=true->dg
 n:t=false->jQ
theorem rF.p(p:Prop)[Decidable p]:rF (decide p) p (¬p):=⟨CP,of_decide_eq_false⟩
theorem rF.b(t:Bool):rF t (t=true) (t=false):=⟨id,id⟩
theorem If{cw:Exit->ca->aN->aj->Prop}{x:Operand}{a b:Code}{t:Bool}{dg jQ:Prop}(ad:dg->az (aU Q g0) B a ⟨n,ds,l⟩ m J cw)(aR:jQ->az (aU Q g0) B b ⟨n,ds,l⟩ m J cw)(aa:bJ l x=some (.bool t):=by exact rfl) (hs:rF t dg jQ:=by first|exact rF.p _|exact rF.b _):az (aU Q g0) B (.cond x a b) ⟨n,ds,l⟩ m J cw:=az.cond aa (fun q=>ad (hs.y q)) (fun q=>aR (hs.n q))
theorem c0{ops rest:List Oper}{bq:Option (List PanicEntry)->ca->aN->aj->Prop}(d:Nat){b:Bool}{dg jQ:Prop}(ad:dg->W (aU Q g0) B ops rest ⟨n,ds,(d,.bool true)::l⟩ m J bq)(aR:jQ->W (aU Q g0) B ops rest ⟨n,ds,(d,.bool false)::l⟩ m J bq)(ai:look l d=some (.bool b):=by exact rfl) (hs:rF b dg jQ:=by first|exact rF.p _|exact rF.b _):W (aU Q g0) B ops rest ⟨n,ds,l⟩ m J bq:=W.split ai (fun q=>ad (hs.y q)) (fun q=>aR (hs.n q))
theorem sA{R:vv}{ops:List Oper}{a1:List jo}{bq:ca->aN->aj->Prop}(d:Nat){b:Bool}{dg jQ:Prop}(ad:dg->ga (aU Q g0) B R ops a1 ⟨n,ds,(d,.bool true)::l⟩ m J bq)(aR:jQ->ga (aU Q g0) B R ops a1 ⟨n,ds,(d,.bool false)::l⟩ m J bq)(ai:look l d=some (.bool b):=by exact rfl) (hs:rF b dg jQ:=by first|exact rF.p _|exact rF.b _):ga (aU Q g0) B R ops a1 ⟨n,ds,l⟩ m J bq:=ga.split ai (fun q=>ad (hs.y q)) (fun q=>aR (hs.n q))
theorem Qk{l:List (Nat×Value)}{t:Nat}{v:Value}(h:look l t=some v:=by first|exact rfl|exact XB rfl (by first|omega|(simp_all;done))|exact Xz rfl (by first|omega|(simp_all;done))|exact XA rfl (by first|omega|(simp_all;done)|(simp_all;omega))|exact Xy rfl (by simp_all)|exact cC some (cC (Value.int .i64) (by omega))):look l t=some v:=h
theorem ce{p:Prop}(h:p:=by
 refine⟨⟨_,rfl,?_⟩,iZ _,?_⟩
 ·repeat first|exact trivial|refine⟨Qk,?_⟩
 ·first|exact rfl|exact aj.le.refl _|assumption):p:=h
def NG (l:List (Nat×Value)):List Nat->Option (List (Nat×Value))
 |[]=>some []
 |t::ts=>match look l t with
  |some v=>(match NG l ts with|some r=>some ((t,v)::r)|none=>none)
  |none=>none
theorem asI{l:List (Nat×Value)}:∀{ts:List Nat} {l':List (Nat×Value)},NG l ts=some l'->lv l l':=by
 intro ts;induction ts with
 |nil=>intro l' h;injection h with h;subst h;trivial
 |cons t ts aP=>
  intro l' h;unfold NG at h;split at h
  ·rename_i v av;split at h
   ·rename_i r ao;injection h with h;subst h
    exact⟨av,aP ao⟩
   ·cases h
  ·cases h
theorem c4{cw:Exit->ca->aN->aj->Prop}{c:Code}{l':List (Nat×Value)}(ts:List Nat)(h:az (aU Q g0) B c ⟨n,ds,l'⟩ m J cw)(aq:NG l ts=some l':=by exact rfl):az (aU Q g0) B c ⟨n,ds,l⟩ m J cw:=az.Ok (asI aq) (iZ _) h
section
variable {ops rest:List Oper}{bq:Option (List PanicEntry)->ca->aN->aj->Prop}{c:Call}{x:Operand}{f:FuncId}{first cap:Array Value}{args hp:List Value}{bm cN:aN}{dY:Value->aN->aj->Prop}
theorem bC(ay:o.guard=none:=by exact rfl) (ah:o.op=.call c:=by exact rfl) (au:o.dst=some d:=by exact rfl) (aE:Nat.blt d n=true:=by exact rfl) (aC:c.callee=.value x:=by exact rfl) (aa:bJ l x=some (.func (.func f) first cap):=by exact rfl) (aF:h4 l c.args.toList=some args:=by exact rfl) (has:(first.toList++args)++cap.toList=hp:=by exact rfl) (aw:(bm++cN).Perm m:=by exact .refl _) (G:Fn (aU Q g0) f hp bm J dY) (h:∀v m' af,J.le af->dY v m' af->W (aU Q g0) B ops rest ⟨n,ds,(d,v)::l⟩ (m'++cN) af bq):W (aU Q g0) B ops (o::rest) ⟨n,ds,l⟩ m J bq:=W.step ay (Exec.call ah au aE aC aa aF has aw trivial G h)
theorem iQ{v:Value}(ay:o.guard=none:=by exact rfl) (ah:o.op=.call c:=by exact rfl) (au:o.dst=some d:=by exact rfl) (aE:Nat.blt d n=true:=by exact rfl) (aC:c.callee=.value x:=by exact rfl) (aa:bJ l x=some (.func (.func f) first cap):=by exact rfl) (aF:h4 l c.args.toList=some args:=by exact rfl) (has:(first.toList++args)++cap.toList=hp:=by exact rfl) (G:Fn (aU Q g0) f hp [] J (fun w m' af=>w=v/\m'=[]/\af=J)) (h:W (aU Q g0) B ops rest ⟨n,ds,(d,v)::l⟩ m J bq):W (aU Q g0) B ops (o::rest) ⟨n,ds,l⟩ m J bq:=W.step ay (Exec.call ah au aE aC aa aF has (.refl _) trivial G (fun v' m' af _ q=>by obtain⟨rfl,rfl,rfl⟩:=q;exact h))
theorem xB{g:Nat}{want b:Bool}(ay:lg ops o=some (g,want):=by exact rfl) (ai:look l g=some (.bool b):=by exact rfl) (hw:(b==want)=true:=by exact rfl) (ah:o.op=.call c:=by exact rfl) (au:o.dst=some d:=by exact rfl) (aE:Nat.blt d n=true:=by exact rfl) (aC:c.callee=.value x:=by exact rfl) (aa:bJ l x=some (.func (.func f) first cap):=by exact rfl) (aF:h4 l c.args.toList=some args:=by exact rfl) (has:(first.toList++args)++cap.toList=hp:=by exact rfl) (aw:(bm++cN).Perm m:=by exact .refl _) (G:Fn (aU Q g0) f hp bm J dY) (h:∀v m' af,J.le af->dY v m' af->W (aU Q g0) B ops rest ⟨n,ds,(d,v)::l⟩ (m'++cN) af bq):W (aU Q g0) B ops (o::rest) ⟨n,ds,l⟩ m J bq:=W.LR ay ai hw (Exec.call ah au aE aC aa aF has aw trivial G h)
end
section
variable {ops:List Oper}{a1:List jo}{F:List (FuncId×List Value)}{i:Nat}{bq:ca->aN->aj->Prop}{c:Call}{x:Operand}{f:FuncId}{first cap:Array Value}{args hp:List Value}{bm cN:aN}{dY:Value->aN->aj->Prop}
theorem dl(ak:nth ops i=some o)(ay:o.guard=none:=by exact rfl) (ah:o.op=.call c:=by exact rfl) (au:o.dst=some d:=by exact rfl) (aE:Nat.blt d n=true:=by exact rfl) (aC:c.callee=.value x:=by exact rfl) (aa:bJ l x=some (.func (.func f) first cap):=by exact rfl) (aF:h4 l c.args.toList=some args:=by exact rfl) (has:(first.toList++args)++cap.toList=hp:=by exact rfl) (aA:F.all (fun g=>!Nat.beq g.1 f)=true:=by exact rfl) (aw:(bm++cN).Perm m:=by exact .refl _) (G:Fn (aU Q g0) f hp bm J dY) (h:∀v m' af,J.le af->dY v m' af->ct (aU Q g0) B ops a1 ((f,hp)::F) ⟨n,ds,(d,v)::l⟩ (m'++cN) af bq):ct (aU Q g0) B ops (.bE i::a1) F ⟨n,ds,l⟩ m J bq:=ct.call ak ay ah au aE aC aa aF has aA aw trivial G h
theorem nk{v:Value}(ak:nth ops i=some o)(ay:o.guard=none:=by exact rfl) (ah:o.op=.call c:=by exact rfl) (au:o.dst=some d:=by exact rfl) (aE:Nat.blt d n=true:=by exact rfl) (aC:c.callee=.value x:=by exact rfl) (aa:bJ l x=some (.func (.func f) first cap):=by exact rfl) (aF:h4 l c.args.toList=some args:=by exact rfl) (has:(first.toList++args)++cap.toList=hp:=by exact rfl) (aA:F.all (fun g=>!Nat.beq g.1 f)=true:=by exact rfl) (G:Fn (aU Q g0) f hp [] J (fun w m' af=>w=v/\m'=[]/\af=J)) (h:ct (aU Q g0) B ops a1 ((f,hp)::F) ⟨n,ds,(d,v)::l⟩ m J bq):ct (aU Q g0) B ops (.bE i::a1) F ⟨n,ds,l⟩ m J bq:=ct.call ak ay ah au aE aC aa aF has aA (.refl _) trivial G (fun v' m' af _ q=>by obtain⟨rfl,rfl,rfl⟩:=q;exact h)
end
theorem oU{E:ca}{t:Tmp}{dH:TypeId}{a:Nat}{cells:List Value}{e:TypeId}{v:Value}{rs:List ResultVar}{vs:List Value}(ao:mX (aU Q g0).P E m J rs vs)(ad:look E.l t=some (.pointer (some ⟨a,0,none⟩)):=by exact rfl) (ae:(a,dI.row cells e)∈m:=by repeat first|exact .head _|refine .tail _ ?_|refine ki _ ?_) (aD:nn (aU Q g0).P dH cells 0=some v:=by first|exact wP (fz rfl) rfl|exact gR (fz rfl) rfl):mX (aU Q g0).P E m J (.cell t dH::rs) (v::vs):=.cell ad ae aD ao
theorem gZ{e:Exit}{E:ca}{rs:List ResultVar}{vs:List Value}{zs:List Value->aN->Prop}(aw:zs vs m')(he:e=.normal\/e=.ret:=by first|exact .inl rfl|exact .inr rfl) (au:E.ds.ds=[]:=by exact rfl) (ao:mX (aU Q g0).P E m J rs vs:=by first|exact .tmp rfl .nil|exact .tmp rfl (.tmp rfl .nil)|exact .nil|exact oU .nil|exact oU (oU .nil)|exact .tmp rfl (.tmp rfl (.tmp rfl .nil))|exact oU (oU (oU .nil))) (hs:m'.Sublist m:=by first|exact i' _|exact iZ _):(e=.normal\/e=.ret)/\E.ds.ds=[]/\∃vs m',mX (aU Q g0).P E m J rs vs/\m'.Sublist m/\zs vs m':=⟨he,au,vs,m',ao,hs,aw⟩
end
end
theorem arz{p:Prop}(h:p:=by first|rfl|exact cC some (cC (Value.int .i64) (by omega))):p:=h
theorem ck{p:Prop}(h:p:=by first|omega|(simp;omega)|(simp only;omega)):p:=h
theorem yV{p:Prop}(h:p:=by first|exact fR.rd (by assumption)|exact mW.str|exact mW.own (by repeat first|exact .head _|refine .tail _ ?_|refine ki _ ?_) rfl):p:=h
theorem qr{p:Prop}(h:p:=by first|exact .own (by repeat first|exact .head _|refine .tail _ ?_|refine ki _ ?_)|exact .ei (by assumption)|exact .opn (by repeat first|exact .head _|refine .tail _ ?_|refine ki _ ?_)):p:=h
theorem asV{p:Prop}(h:p:=by first|exact List.Perm.refl _|exact NF|exact acA|exact acB):p:=h
section
variable {Q:c7 jc}{g0:Nat}
section
variable {B:dv}{o:Oper}{n:Nat}{ds:ee}{l:List (Nat×Value)}{m:aN}{J:aj}{d:Nat}
section
variable {ops rest:List Oper}{bq:Option (List PanicEntry)->ca->aN->aj->Prop}
theorem eQ{t:TypeId}{x:Operand}{v:Value}{cells:List Value}(h:∀a,W (aU Q g0) B ops rest ⟨n,ds,(d,.pointer (some ⟨a,0,none⟩))::l⟩ ((a,.row cells t)::m) J bq)(ay:o.guard=none:=by exact rfl) (ah:o.op=.box t x:=by exact rfl) (au:o.dst=some d:=by exact rfl) (aE:Nat.blt d n=true:=by exact rfl) (aa:bJ l x=some v:=by exact rfl) (aC:v.cells.toList=cells:=by exact rfl) (ad:cells.all fh=true:=by exact rfl):W (aU Q g0) B ops (o::rest) ⟨n,ds,l⟩ m J bq:=W.step ay (.of (axe ah au aE aa aC ad h))
theorem mr{t e:TypeId}{k sz:Nat}{gz cells:List Value}{ps:Array (Nat×Operand)}{vs:List (Nat×Value)}(h:∀a,W (aU Q g0) B ops rest ⟨n,ds,(d,.slice (some ⟨a,0,none⟩) k k)::l⟩ ((a,.row cells e)::m) J bq)(ay:o.guard=none:=by exact rfl) (ah:o.op=.buildSlice t k ps:=by exact rfl) (au:o.dst=some d:=by exact rfl) (aE:Nat.blt d n=true:=by exact rfl) (aw:tX l ps.toList=some vs:=by exact rfl) (aI:mN (aU Q g0).P t=some (e,sz,gz):=by exact eW rfl) (hk:(Nat.ble k 100000&&Nat.ble (k*sz) 100000)=true:=by exact rfl) (aA:nX (fun i=>some (i*sz,sz)) (fM gz k) vs=some cells:=by exact rfl) (ad:cells.all fh=true:=by exact rfl):W (aU Q g0) B ops (o::rest) ⟨n,ds,l⟩ m J bq:=W.step ay (.of (axf ah au aE aw aI hk aA ad h))
end
section
variable {R:vv}{ops:List Oper}{a1:List jo}{i g:Nat}{want b:Bool}{bq:ca->aN->aj->Prop}
theorem agb(ak:nth ops i=some o)(h:ga (aU Q g0) B R ops a1 ⟨n,ds,(d,undef)::l⟩ m J bq)(ay:lg ops o=some (g,want):=by exact rfl) (ai:look l g=some (.bool b):=by exact rfl) (hw:(b==want)=false:=by exact rfl) (au:o.dst=some d:=by exact rfl) (aE:Nat.blt d n=true:=by exact rfl):ga (aU Q g0) B R ops (.val i::a1) ⟨n,ds,l⟩ m J bq:=ga.Ob ak ay ai hw au aE h
end
end
end
structure VZ where
 d:List (Nat×Value)
 m:aN
 j:aj
 i:Prop
 k:Nat
section
variable {K:dR}{B:dv}{cw:Exit->ca->aN->aj->Prop}{n:Nat}{ds:ee}
theorem az.bH{α:Type}{c:Code}{base:List (Nat×Value)}(r:α->VZ)(s:α)(hs:(r s).i)
 (a7:∀s,(r s).i->az K B c ⟨n,ds,(r s).d++base⟩ (r s).m (r s).j fun e E m J=>match e with
  |.normal=>∃cM l,(r cM).i/\(r cM).k<(r s).k/\E=⟨n,ds,l⟩/\lv l ((r cM).d++base)/\((r cM).m).Sublist m/\J=(r cM).j
  |e=>cw e E m J):az K B (.loop c) ⟨n,ds,(r s).d++base⟩ (r s).m (r s).j cw:=
 az.aqE (fun s=>(r s).d) (fun s=>(r s).m) (fun s=>(r s).j) (fun s=>(r s).i) (fun s=>(r s).k) s hs a7
theorem dN{α:Type}{r:α->VZ}{base l:List (Nat×Value)}{h7:Nat}{m:aN}{J:aj}(cM:α)(ak:(r cM).i)(hm:((r cM).m).Sublist m:=by exact .refl _) (aX:J=(r cM).j:=by exact rfl) (hk:(r cM).k<h7:=by first|omega|(simp;omega)|(simp only;omega)) (aq:lv l ((r cM).d++base):=by repeat first|exact trivial|refine⟨by first|rfl|exact cC some (cC (Value.int .i64) (by omega)),?_⟩):∃cM l',(r cM).i/\(r cM).k<h7/\(⟨n,ds,l⟩:ca)=⟨n,ds,l'⟩/\lv l' ((r cM).d++base)/\((r cM).m).Sublist m/\J=(r cM).j:=⟨cM,l,ak,hk,rfl,aq,hm,aX⟩
end
theorem hp{p q:Prop}(h:p)(n3:Hid p->q:=by
 intro m6;repeat first
  |refine eZ V.kK ?_
  |refine eZ V.QR ?_
  |refine eZ V.GJ ?_
  |refine eZ V.TT ?_
  |refine eZ V.M2 ?_
  |refine eZ V.ex ?_
  |refine eZ V.sE ?_
  |refine eZ V.fn ?_
  |refine eZ V.Tq ?_
 exact m6.out):q:=n3 ⟨h⟩
theorem I{p:Prop}(h:p:=by omega):p:=h
theorem bI{p:Prop}(h:p:=by decide):p:=h
end
end Go.Opn
namespace Go.Opn
noncomputable section
open Go.Cre Go.RowKit
theorem Yh{α:Type}:∀{l:List (List α)} {j:Nat} {m:List α},l[j]?=some m->l.flatten.Perm (m++(l.eraseIdx j).flatten):=by
 intro l;induction l with
 |nil=>intro j m h;cases h
 |cons x r aP=>
  intro j m h;cases j with
  |zero=>simp at h;subst h;exact .refl _
  |succ j=>
   have:=aP (j:=j) (m:=m) (by simpa using h);show(x++r.flatten).Perm (m++(x++(r.eraseIdx j).flatten));refine(this.append_left x).trans ?_;rw[<-lB,<-lB];exact(DI).append_right _
theorem ak7{α:Type}{l:List (List α)}{j:Nat}{m:List α}(h:j<l.length):(l.set j m).flatten.Perm (m++(l.eraseIdx j).flatten):=by
 have ad:(l.set j m)[j]?=some m:=by rw[mS];simp[h]
 have ae:=Yh ad;rwa [List.eraseIdx_set_eq] at ae
structure tv (e:TypeId) (kO:List (List Int)) (vs:List Value) (lS:List aN):Prop where
 r6:vs.length=kO.length
 Cz:lS.length=kO.length
 at_:∀(j:Nat) (s:List Int) (v:Value) (m:aN),kO[j]?=some s->vs[j]?=some v->lS[j]?=some m->Acc e 1 v s.length (s.map (Value.int .i64)) m
theorem tv.init{e:TypeId}(n:Nat):tv e (List.replicate n []) (List.replicate n (.slice none 0 0)) (List.replicate n []):=by
 refine⟨by simp,by simp,fun j s v m ad ae aD=>?_⟩;rw[vm] at ad ae aD;split at ad
 ·rename_i q;rw[aV q] at ae aD;injection ad with ad;injection ae with ae;injection aD with aD
  subst ad;subst ae;subst aD;exact .nil
 ·cases ad
theorem ak6{α:Type}{n:Nat}:(List.replicate n ([]:List α)).flatten=[]:=by simp
theorem tv.get{e:TypeId}{kO:List (List Int)}{vs:List Value}{lS:List aN}(h:tv e kO vs lS){j:Nat}{s:List Int}(hs:kO[j]?=some s):∃v m,vs[j]?=some v/\lS[j]?=some m/\Acc e 1 v s.length (s.map (Value.int .i64)) m:=by
 have aX:j<kO.length:=(ff.1 hs).1;have ad:=ey (l:=vs) (i:=j) (by rw[h.r6];exact aX);have ae:=ey (l:=lS) (i:=j) (by rw[h.Cz];exact aX);exact⟨_,_,ad,ae,h.at_ j s _ _ hs ad ae⟩
theorem tv.set{e:TypeId}{kO:List (List Int)}{vs:List Value}{lS:List aN}(h:tv e kO vs lS){j:Nat}{s:List Int}{v:Value}{m:aN}(aF:Acc e 1 v s.length (s.map (Value.int .i64)) m):tv e (kO.set j s) (vs.set j v) (lS.set j m):=by
 refine⟨by simp[h.r6],by simp[h.Cz],fun i cM v' m' ad ae aD=>?_⟩;rw[mS] at ad ae aD;split at ad
 ·rename_i q;subst q;rw[aV rfl] at ae aD;split at ad
  ·rename_i aG;rw[aV (by rw[h.r6];exact aG)] at ae;rw[aV (by rw[h.Cz];exact aG)] at aD;injection ad with ad;injection ae with ae;injection aD with aD
   subst ad;subst ae;subst aD;exact aF
  ·cases ad
 ·rename_i q;rw[aQ q] at ae aD;exact h.at_ i cM v' m' ad ae aD
theorem WG{α:Type}{x y z:α}{BA bc E R:List α}(h:BA.Perm (bc++E)):(x::y::z::(BA++R)).Perm (bc++x::y::z::(E++R)):=by
 refine(((((h.append_right R).cons z).cons y).cons x)).trans ?_;rw[lB];exact acB
section
variable {K:dR}{B:dv}{E:ca}{m fo:aN}{J:aj}{cw:Exit->ca->aN->aj->Prop}
theorem az.asY{c:Code}{e:TypeId}:∀{lS:List aN} {kO:List (List Int)} {vs:List Value} {m fo:aN} {J:aj},tv e kO vs lS->m.Perm (lS.flatten++fo)->
 (∀af,J.le af->(∀(j:Nat) (s:List Int) (v:Value),kO[j]?=some s->vs[j]?=some v->fR af e 1 v s.length (s.map (Value.int .i64)))->az K B c E fo af cw)->az K B c E m J cw:=by
 intro lS;induction lS with
 |nil=>
  intro kO vs m fo J h hm hk;refine az.ri hm.symm (hk J (aj.le.refl _) fun j s v hs av=>?_);have:kO=[]:=w'.1 h.Cz.symm;subst this;cases hs
 |cons bc r aP=>
  intro kO vs m fo J h hm hk;cases kO with
  |nil=>have:=h.Cz;cases this
  |cons s kO=>
   cases vs with
   |nil=>have:=h.r6;cases this
   |cons v vs=>
    have aF:=h.at_ 0 s v bc rfl rfl rfl;have ao:tv e kO vs r:=⟨by simpa using h.r6,by simpa using h.Cz,fun j cM v' m' ad ae aD=>h.at_ (j+1) cM v' m' (by simpa using ad) (by simpa using ae) (by simpa using aD)⟩;refine aF.qv (fo:=r.flatten++fo) (by rw[<-lB];exact hm) fun bu aY n6=>?_;refine aP ao (.refl _) fun cZ bG ew=>?_;refine hk cZ (aY.trans bG) fun j cM v' ad ae=>?_;cases j with
    |zero=>simp at ad ae;subst ad;subst ae;exact n6.mono bG
    |succ j=>exact ew j cM v' (by simpa using ad) (by simpa using ae)
end
def Wi(J:aj)(s:List Int)(cs:List Value):Prop:=∃b c,cs=[.slice b s.length c]/\iL J (.slice b s.length c) s
theorem aj2{J:aj}{e XZ:TypeId}{a:Nat}{kO:List (List Int)}{vs:List Value}(h:J a=some (vs,e))(aq:vs.length=kO.length)(aC:kO.length<cO)(ew:∀(j:Nat) (s:List Int) (v:Value),kO[j]?=some s->vs[j]?=some v->fR J XZ 1 v s.length (s.map (Value.int .i64))):dD J e 1 (Wi J) (.slice (some ⟨a,0,none⟩) kO.length kO.length) kO:=by
 refine⟨vs,.row h (by rw[gO,cU (by omega)]) (by omega) (fun _=>⟨bU _,aC⟩) (fun _=>rfl),fun i s hs=>?_⟩;have ak:i<vs.length:=by rw[aq];exact(ff.1 hs).1
 have av:=ey ak;have ad:=ew i s _ hs av;obtain⟨b,c,ae,_⟩:=ad.inv;rw[ha,AZ ak,DK,fO,ae];rw[ae] at ad;exact⟨b,c,rfl,XZ,ad⟩
section
variable {K:dR}{B:dv}{o:Oper}{n:Nat}{ds:ee}{l:List (Nat×Value)}{m m':aN}{J:aj}{fk:ca->aN->aj->Prop}{d:Nat}
end
section
variable {K:dR}{B:dv}{ops:List Oper}{a1:List jo}{E:ca}{m m':aN}{J:aj}{o:Oper}{bq:ca->aN->aj->Prop}{cw:Exit->ca->aN->aj->Prop}
variable {n:Nat}{ds:ee}{l:List (Nat×Value)}{d i:Nat}
end
section
variable {K:dR}{B:dv}{o:Oper}{n:Nat}{ds:ee}{l:List (Nat×Value)}{m m':aN}{J:aj}{fk:ca->aN->aj->Prop}{d:Nat}
theorem F4{t:TypeId}{x:Operand}{k:IntKind}{a b:Int}(ah:o.op=.unOp .neg t x)(aa:bJ l x=some (.int k a))(hw:k.wrap (-a)=b):cY K B o n ds l m J (.int k b):=by
 intro call aJ S H al aB;unfold cz e4;simp only[ah];show fl K.P S.T H o=_;refine acD al (by rw[ah];rfl) aa rfl ?_ rfl;unfold execOp;simp only[ah];rw[hK al H aa,<-hw];show some (Next.value (.int k (k.wrap (0 -a))))=_;rw[Int.zero_sub]
end
section
variable {K:dR}{B:dv}{ops:List Oper}{a1:List jo}{F:List (FuncId×List Value)}{E:ca}{m:aN}{J:aj}{bq:ca->aN->aj->Prop}
end
end
end Go.Opn
