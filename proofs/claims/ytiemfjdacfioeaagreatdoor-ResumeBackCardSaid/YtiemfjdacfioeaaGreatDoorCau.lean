/- A part of the proof of ResumeBack. -/
import Derived.Test.YtiemfjdacfioeaaGreatDoorCat
import Derived.Test.YtiemfjdacfioeaaGreatDoorCas
import Derived.Test.YtiemfjdacfioeaaGreatDoorCar
set_option linter.unusedVariables false
set_option linter.unusedSimpArgs false
namespace Go.Opn
noncomputable section
open Go.Cre Go.RowKit
open Classical
theorem b4.B9{μ:b1}:∀{l l':List Value},l.all plain=true->b4 μ l l'->l'=l:=by
 intro l;induction l with
 |nil=>intro l' _ h;exact h.lf
 |cons v l aK=>
  intro l' aw h;simp only[r1,fU] at aw;obtain⟨v',t,rfl,aa,ae⟩:=h.jC;rw[bF.B9 aw.1 aa,aK aw.2 ae]
section
variable {K:eL}
theorem Fn.ak9{f:FuncId}{fn:Func}{c:Code}{args:List Value}{v:Value}{J:aI}{R:Value->Prop}(a':args.all plain=true)(aC:K.P.funcs[f]?=some fn)(au:fn.body=some c)
 (az:∀μ v',R v'->bF μ v v')
 (aH:∀B w0 w,K.Q.ok B w0->Kept B w0 w->Calls K.P f args.toArray w fun e bu=>(∃v',e=.returned v'/\R v')/\Below w.heap.size w bu):Fn K f args [] J (fun u m' ag=>u=v/\m'=[]/\ag=J):=by
 intro H aJ;refine⟨v,H,J,[],fun B w0 fR=>?_,aJ,rfl,rfl,rfl⟩;intro cW cz H' e qQ he μ w abd h av;unfold nz at he;split at he
 ·rename_i q;obtain⟨rfl,rfl,rfl⟩:=q;simp only[cp,dC] at he;obtain⟨rfl,rfl⟩:=he;obtain rfl:=b4.B9 a' av;refine .inr ⟨Dv aC au (K.dD.num cW fn aC (by rw[au];rfl)) _ w,?_⟩;refine Calls.mono (aH B w0 w fR h.below) fun bG bu ⟨⟨v',oP,ey⟩,su⟩=>?_;subst oP;exact⟨μ,h.grow su,Step.refl _ _,az μ v' ey⟩
 ·cases he
end
section
variable {K:eL}{B:ea}{o:Oper}{n:Nat}{ds:e7}{l:List (Nat×Value)}{m m':aO}{J:aI}{eR:cn->aO->aI->Prop}{d:Nat}{c0:Exit->cn->aO->aI->Prop}
theorem W.gB{ops rest:List Oper}{E:cn}{bL:Option (List PanicEntry)->cn->aO->aI->Prop}(aw:m'.Perm m)(h:W K B ops rest E m' J bL):W K B ops rest E m J bL:=fun S H ax aJ=>h S H ax (aJ.perm aw.symm)
theorem Fn.perm{f:FuncId}{args:List Value}{bh:aO}{eO Sw:Value->aO->aI->Prop}(h:Fn K f args bh J eO)(aw:∀v m' ag,eO v m' ag->∃m2,m'.Perm m2/\Sw v m2 ag):Fn K f args bh J Sw:=fun H aJ=>by
 obtain⟨v,H',ag,m1,a,b,c⟩:=h H aJ;obtain⟨m2,bd,a6⟩:=aw v m1 ag c;exact⟨v,H',ag,m2,a,b.perm bd,a6⟩
end
theorem WY{pA:Nat}:∀(l:List Nat) {H:aB},jc H->(∀x∈l,x<H.ak)->∃H',sK H pA l=some H'/\jc H':=by
 intro l;induction l with
 |nil=>intro H w _;exact⟨H,rfl,w⟩
 |cons x l aK=>
  intro H w h;simp only[sK];cases au:Nat.beq x pA with
  |true=>exact aK w fun y ai=>h y (.tail _ ai)
  |false=>
   obtain⟨H1,aN⟩:=w.upd .dead (h x (.head _));rw[dZ,aN];exact aK (w.Rv (h x (.head _)) aN) fun y ai=>by rw[(aB.x9 aN).1];exact h y (.tail _ ai)
section
variable {g0:Nat}{B:ea}{H:aB}{J:aI}{m m':aO}
theorem Inv.kill{a z:Nat}{cells:List Value}{e:TypeId}{rest:List Nat}(h:Inv g0 B J ((a,.opn cells e rest z)::m) H)(cells':List Value)(hQ:Nat):
 ∃f H1 cN,H.mem.get a=some (.row cells e true f z false)/\H.upd a (.row cells' e true f hQ false)=some H1/\zx H1 a f=some cN/\Inv g0 B J ((a,.opn cells' e [] hQ)::m) cN:=by
 obtain⟨bp,bC,b5,da⟩:=h.own a _ (.head _);obtain⟨f,f1,f2,f3⟩:=bp;have c4:=h.lt (.head _);have d':=h.gm;rw[show ids ((a,cK.opn cells e rest z)::m)=a::(rest++ids m) from rfl,uU,kX,Jq] at d';obtain⟨D5,Hp,Ho,OI⟩:=d';obtain⟨H1,aN⟩:=h.wf.upd (.row cells' e true f hQ false) c4;have e3:=h.wf.Rv c4 aN;obtain⟨jT,mH,ke,x8,sZ⟩:=aB.x9 aN;have Ea:∀x∈a::rest,x<H1.ak:=fun x U=>by
  rw[jT];rcases fg.1 U with q|q
  ·subst q;exact c4
  ·exact(h.opn a _ (.head _) x q).1
 obtain⟨cN,bn,iD⟩:=WY (pA:=a) (a::rest) e3 Ea;obtain⟨v1,v2,v3,v4,v5,v6⟩:=K8 bn;have iK:f<cN.ct:=by rw[v3,ke];exact h.wf.GF f3
 obtain⟨o9,cP⟩:=iD.rS [a] iK;obtain⟨s2,s1,zU,ES,uF⟩:=aB.EX cP;have ah3:o9.mem.get a=some (.row cells' e true f hQ false):=by rw[s1,v6 a (.inr rfl),sZ,aE rfl]
 have Bt:∀x,x≠a->x∉rest->o9.mem.get x=H.mem.get x:=fun x bd a6=>by
  rw[s1,v6 x (.inl (fun q=>by rcases fg.1 q with q|q;exact bd q;exact a6 q)),sZ,ap bd]
 have G':∀g,g≠f->o9.bM.get g=H.bM.get g:=fun g q=>by rw[uF,ap q,v2,mH]
 have e0:o9.ak=H.ak:=by rw[s2,v1,jT]
 refine⟨f,H1,o9,f2,aN,?_,⟨iD.Q9 iK cP,by rw[ES,v4,x8];exact h.bZ,by rw[e0];exact h.ak,by rw[zU,v3,ke];exact h.ct,fun x U k6=>?_,fun g aq=>?_,fun x c bG ba=>?_,h.le,h.fresh,fun x b au=>?_,fun x b au y ai=>?_,?_⟩⟩
 ·unfold zx
  rw[mH,f3];simp only[bn,cP]
 ·rw[Bt x (fun q=>by subst q;rcases bC with q|q;·omega
                     ·exact k6 q) (fun q=>by rcases(h.opn a _ (.head _) x q).2.1 with r|r;·omega
                                             ·exact k6 r)]
  exact h.eF x U k6
 ·rw[G' g (fun q=>aq (by rw[q];exact f1))];exact h.oc g aq
 ·obtain⟨o,cW,z0,s,q⟩:=h.fz x c bG ba
  exact⟨o,cW,z0,s,by rw[Bt x (fun r=>by subst r;rw[b5] at ba;cases ba) (fun r=>by have:=(h.opn a _ (.head _) x r).2.2;rw[this] at ba;cases ba)];exact q⟩
 ·rcases fg.1 au with q|q
  ·injection q with bd a6;subst bd;subst a6
   exact⟨⟨f,f1,ah3,by rw[uF,aE rfl]⟩,bC,b5,da⟩
  ·obtain⟨cU,ee,mx,rE⟩:=h.own x b (.tail _ q)
   have jR:x∈ids m:=BG q;refine⟨?_,ee,mx,rE⟩;refine cK.yI cU (Bt x (fun r=>D5 (.inr (r▸jR))) (fun r=>OI _ r _ jR rfl)) fun g r aq=>?_;rw[G' g (fun dz=>by
        subst dz;rw[f3] at aq;injection aq with aq;injection aq with aq
        exact D5 (.inr (aq▸jR)))]
   exact aq
 ·rcases fg.1 au with q|q
  ·injection q with bd a6;subst bd;subst a6;cases ai
  ·rw[e0];exact h.opn x b (.tail _ q) y ai
 ·show(a::([]++ids m)).Nodup
  rw[me,uU];exact⟨fun q=>D5 (.inr q),Ho⟩
end
section
variable {K:eL}{B:ea}{o:Oper}{n:Nat}{ds:e7}{l:List (Nat×Value)}{m m':aO}{J:aI}{eR:cn->aO->aI->Prop}{d:Nat}
theorem XA{g0:Nat}{H:aB}(aJ:Inv g0 B J m H){a:Nat}(h:g0<=a):Nat.blt a H.bZ=false:=by
 cases q:Nat.blt a H.bZ
 ·rfl
 ·have:a<H.bZ:=by simpa[Nat.blt,tc] using q
  have:=aJ.bZ;omega
theorem Aj{t:TypeId}{x y:Operand}{a off k z:Nat}{v:Value}{vs cells cells':List Value}{e:TypeId}{rest:List Nat}{m0:aO}(ar:o.op=.store t x y)(aZ:o.dst=none)(U:b7 l x=some (.pointer (some ⟨a,off,none⟩)))(ai:b7 l y=some v)(aU:ej K.P t=some k)(aH:v.cells.toList=vs)(av:Nat.beq vs.length k=true)(bD:Nat.blt 0 vs.length=true)(aa:vs.all eQ=true)(af:gD off cells vs=some cells')(bN:z<=off)(aw:m.Perm ((a,.opn cells e rest z)::m0))(h:eR ⟨n,ds,l⟩ ((a,.opn cells' e [] z)::m0) J):hZ K B o ⟨n,ds,l⟩ m J eR:=by
 refine hZ.skip aZ fun S H ax aJ=>?_;have aJ:=aJ.perm aw;obtain⟨f,H1,cN,aN,bn,cP,eW⟩:=aJ.kill cells' z;obtain⟨bp,bC,b5,da⟩:=aJ.own _ _ (.head _);refine⟨cN,_,J,fun call aR=>?_,eW,h⟩;unfold cO fq;simp only[ar];show EI K.P _ t (bk S.T H x) (bk S.T H y)=_;rw[du ax H U,du ax H ai];show Kl (AT K.P H t (.pointer (some ⟨a,off,none⟩)) v)=_;unfold AT;simp only[aU,aH,av,cb];unfold sk;cases vs with
 |nil=>cases bD
 |cons v0 vs=>
  simp only
  rw[XA aJ da,dZ,aN];simp only[show Nat.ble z off=true from lr bN,Je,aa,cb,af,bn,cP];rfl
def WO (P:Program)(t:TypeId):Bool:=match P.underlying t with|some (.pointer _)=>true|_=>false
theorem ZL{op:BinOp}{t eD:TypeId}{x y:Operand}{b:Option Addr}{r:Bool}(ar:o.op=.binOp op t x y eD)(U:b7 l x=some (.pointer b))(ai:b7 l y=some (.pointer none))(aD:WO K.P t=true)(dW:op=.eql/\r=b.isNone\/op=.neq/\r=!b.isNone):cV K B o n ds l m J (.bool r):=by
 intro call aR S H ax aJ;unfold WO at aD;split at aD
 ·rename_i e hu;cases b with
  |none=>
   unfold cO fq;simp only[ar];show nM K.P _ op t (bk S.T H x) (bk S.T H y)=_;rw[du ax H U,du ax H ai];show orElse (fI K.P S.T H o) _=_;have vF:eP K.P (Op.equal t (.pointer none) (.pointer none))=some true:=by
    show eP K.P (Op.equalIn (9999+1) t (.pointer none) (.pointer none))=_;unfold Op.equalIn;rw[dL (w6 hu)];rfl
   have:fI K.P S.T H o=some (.val (.bool r) H):=by
    refine uz ax (by rw[ar];rfl) U ai rfl rfl ?_ rfl;unfold execOp;simp only[ar];rw[jy ax H U,jy ax H ai];rw[dL (a:=.bool r)]
    ·rfl
    rcases dW with⟨rfl,rfl⟩|⟨rfl,rfl⟩
    ·rw[dL (a:=()) (by rfl)];have au:binOp .eql t (.pointer none) (.pointer none)=(do pure (.bool (<-Op.equal t (.pointer none) (.pointer none)))):=by simp[binOp]
     rw[au,dL vF];rfl
    ·rw[dL (a:=()) (by rfl)];have au:binOp .neq t (.pointer none) (.pointer none)=(do pure (.bool (!(<-Op.equal t (.pointer none) (.pointer none))))):=by simp[binOp]
     rw[au,dL vF];rfl
   rw[this];rfl
  |some a=>
   refine MO ar (du ax H U) (du ax H ai) (fun _ _ q=>by cases q) ?_ ?_
   ·unfold fI;rw[ar];have:ez S.T H (Op.binOp op t x y eD).operands.toList=some [.pointer (some a),.pointer none]:=by
     show ez S.T H [x,y]=_;simp only[ez];rw[du ax H U,du ax H ai]
    rw[this];rfl
   ·rcases dW with⟨rfl,rfl⟩|⟨rfl,rfl⟩<;>(unfold uw tA;simp only[hu];rfl)
 ·cases aD
def Yj (P:Program)(t:TypeId):Bool:=match P.underlying t with
 |some (.pointer e)=>(match ej P e with|some (_+1)=>true|_=>false)
 |_=>false
theorem aoO{op:BinOp}{t eD:TypeId}{x y:Operand}{a off:Nat}{r:Bool}(ar:o.op=.binOp op t x y eD)(U:b7 l x=some (.pointer (some ⟨a,off,none⟩)))(ai:b7 l y=some (.pointer (some ⟨a,off,none⟩)))(aD:Yj K.P t=true)(dW:op=.eql/\r=true\/op=.neq/\r=false):cV K B o n ds l m J (.bool r):=by
 intro call aR S H ax aJ;have hV:tA K.P t (.pointer (some ⟨a,off,none⟩)) (.pointer (some ⟨a,off,none⟩))=some true:=by
  unfold Yj at aD;split at aD
  ·rename_i e hu;split at aD
   ·rename_i k aU;unfold tA;simp only[hu,aU,hA,cb];rw[beq_self_eq_true]
   ·cases aD
  ·cases aD
 refine MO ar (du ax H U) (du ax H ai) (fun _ _ q=>by cases q) ?_ ?_
 ·unfold fI;rw[ar];have:ez S.T H (Op.binOp op t x y eD).operands.toList=some [.pointer (some ⟨a,off,none⟩),.pointer (some ⟨a,off,none⟩)]:=by
   show ez S.T H [x,y]=_;simp only[ez];rw[du ax H U,du ax H ai]
  rw[this];rfl
 ·rcases dW with⟨rfl,rfl⟩|⟨rfl,rfl⟩<;>(unfold uw;simp only[hV];first|done|rfl)
def Zs (P:Program)(s t:TypeId):Bool:=match P.underlying s,P.underlying t with
 |some (.pointer e),some .unsafePointer=>(match ej P e with|some (_+1)=>true|_=>false)
 |_,_=>false
theorem aoR{s t:TypeId}{x:Operand}{a off:Nat}{cells:List Value}(ar:o.op=.convert s t x)(U:b7 l x=some (.pointer (some ⟨a,off,none⟩)))(aD:Zs K.P s t=true)(ay:ij m J a cells)(av:Nat.blt off cells.length=true):cV K B o n ds l m J (.pointer (some ⟨a,off,none⟩)):=by
 intro call aR S H ax aJ;unfold cO fq;simp only[ar];show uy K.P _ s t (bk S.T H x)=_;rw[du ax H U];show gp (AP K.P H s t (.pointer (some ⟨a,off,none⟩))) H=_;obtain⟨e,o',f,z,c3,q⟩:=ay.get aJ;unfold Zs at aD;split at aD
 ·rename_i aN aa ae;split at aD
  ·rename_i k aU;unfold AP;simp only[aa,ae,aU,q,av,cb];rfl
  ·cases aD
 ·cases aD
def XL (P:Program)(s t e:TypeId)(len off:Nat):Bool:=match P.underlying s,P.underlying t with
 |some .unsafePointer,some (.pointer u)=>(match ej P u with|some (_+1)=>liesAt P P.depth e (len / P.cellsOf e) off u 1|_=>false)
 |_,_=>false
theorem aoM{s t e:TypeId}{x:Operand}{a off:Nat}{cells:List Value}(ar:o.op=.convert s t x)(U:b7 l x=some (.pointer (some ⟨a,off,none⟩)))(ay:(a,cK.row cells e)∈m)(aD:XL K.P s t e cells.length off=true):cV K B o n ds l m J (.pointer (some ⟨a,off,none⟩)):=by
 intro call aR S H ax aJ;unfold cO fq;simp only[ar];show uy K.P _ s t (bk S.T H x)=_;rw[du ax H U];show gp (AP K.P H s t (.pointer (some ⟨a,off,none⟩))) H=_;have q:H.mem.get a=some (.row cells e false 0 0 false):=(aJ.own _ _ ay).1;unfold XL at aD;split at aD
 ·rename_i u aa ae;split at aD
  ·rename_i k aU;unfold AP;simp only[aa,ae,aU,q,aD,cb];rfl
  ·cases aD
 ·cases aD
theorem Fn.same{f:FuncId}{fn:Func}{v:Value}(aC:K.fb.get f=some fn)(au:fn.body=none)(aP:fn.name= "internal/abi.NoEscape")(ar:fn.origin= "")(az:plain v=false):Fn K f [v] [] J (fun u m' ag=>u=v/\m'=[]/\ag=J):=by
 intro H aJ;refine⟨v,H,J,[],lL.cH K.dD hN mz (bJ:=.run) ?_,aJ,rfl,rfl,rfl⟩;unfold p7;rw[aC];show FW K.P _ f fn [v] false .run H fn.body=_;rw[au];show r9 .run (AQ K.P fn f [v] H)=_;unfold AQ;simp only[r1,az,Bool.false_and,dZ,NH,aP,ar,decide_true,wg,cb];rfl
theorem L7{c:Call}{x y:Operand}{k:IntKind}{a b:Int}(ar:o.op=.call c)(aH:c.callee=.builtin .max)(gV:c.args.toList=[x,y])(U:b7 l x=some (.int k a))(ai:b7 l y=some (.int k b)):cV K B o n ds l m J (.int k (max a b)):=by
 intro call aR S H ax aJ;rw[yY ar aH];have st:c.args=#[x,y]:=by rw[<-Array.toList_inj];exact gV
 have:fI K.P S.T H o=some (.val (.int k (max a b)) H):=by
  refine uz ax ?_ U ai rfl rfl ?_ rfl
  ·rw[ar];show(Call.operands c).toList=_;simp[Call.operands,aH,st]
  ·unfold execOp;simp only[ar];have ay:eP K.P (resolve (pG S.T H) c o.type)=some {target:=.builtin .max c.argTypes o.type (c.args.map fun|.const _=>true|_=>false),args:=#[.int k a,.int k b]}:=by
    unfold resolve;simp only[aH,st];show some _=some _;simp[jy ax H U,jy ax H ai];exact⟨by cases x<;>rfl,by cases y<;>rfl⟩
   rw[dL ay];show eP K.P ((Builtin.max_ c.argTypes o.type #[.int k a,.int k b]) >>= fun v=>pure (Next.value v))=_;have:eP K.P (Builtin.max_ c.argTypes o.type #[.int k a,.int k b])=some (.int k (max a b)):=by
    show some (Value.int k (if b>a then b else a))=_;congr 2
    split<;>omega
   rw[dL this];rfl
 unfold pn;rw[oI ax H (vs:=[.int k a,.int k b]) (by rw[gV];simp only[h5,U,ai])];exact this
def tm(b:UInt8):Value:=.int .u8 b.toNat
theorem abC:∀(bs:List UInt8),oz (bs.map tm)=some bs:=by
 intro bs;induction bs with
 |nil=>rfl
 |cons b bs aK=>
  show(bif Nat.blt b.toNat 256 then(match oz (bs.map tm) with|some r=>some (UInt8.ofNat b.toNat::r)|none=>none) else none)=_
  rw[aK,show Nat.blt b.toNat 256=true from by have:=b.toNat_lt;simpa[Nat.blt,tc] using this];simp
theorem mQ.str{g0:Nat}{s:List UInt8}:mQ g0 B J m 1 (.string ⟨⟨s⟩⟩) s.length (s.map tm):=by
 intro H aJ;refine⟨rfl,?_⟩;show(match takeN s.length s with|some l=>some (l.map fun b:UInt8=>Value.int .u8 b.toNat)|none=>none)=_
 rw[x6 (cZ _),qV];rfl
theorem aoP{c:Call}{a:Addr}{len cap:Nat}(ar:o.op=.call c)(aH:c.callee=.builtin .unsafeSliceData)(a':h5 l c.args.toList=some [.slice (some a) len cap])(bD:0<len)(aa:0<cap):cV K B o n ds l m J (.pointer (some a)):=by
 intro call aR S H ax aJ;rw[yY ar aH];unfold pn;rw[oI ax H a'];show(bif Nat.beq cap c9&&Nat.beq len 0 then none else bif Nat.beq cap 0 then none else some (cM.val (.pointer (some a)) H))=_;have aN:Nat.beq len 0=false:=by cases q:Nat.beq len 0;rfl;exact absurd (eN q) (by omega)
 have bn:Nat.beq cap 0=false:=by cases q:Nat.beq cap 0;rfl;exact absurd (eN q) (by omega)
 rw[aN,bn,Bool.and_false];rfl
theorem apw{c:Call}{o5 t2 u:TypeId}{a z:Nat}{rest:List Nat}{bs:List UInt8}{m0:aO}{k:Int}(ar:o.op=.call c)(aH:c.callee=.builtin .unsafeString)(aZ:o.dst=some d)(aP:Nat.blt d n=true)(a':h5 l c.args.toList=some [.pointer (some ⟨a,0,none⟩),.int .i64 k])(oY:c.argTypes.toList=[o5,t2])(aiK:K.P.underlying o5=some (.pointer u))(Kv:K.P.cellsOf u=1)(hm:m.Perm ((a,.opn (bs.map tm) u rest z)::m0))(aU:k=bs.length)(bD:0<bs.length)(aa:bs.length<=1000000)
 (h:eR ⟨n,ds,(d,.string ⟨⟨bs⟩⟩)::l⟩ ((a,.opn (bs.map tm) u [] (Nat.max z bs.length))::m0) J):hZ K B o ⟨n,ds,l⟩ m J eR:=by
 refine hZ.x' aZ aP fun S H ax aJ=>?_;have aJ:=aJ.perm hm;obtain⟨f,H1,cN,aN,bn,cP,eW⟩:=aJ.kill (bs.map tm) (Nat.max z bs.length);obtain⟨bp,bC,b5,da⟩:=aJ.own _ _ (.head _);refine⟨_,cN,_,J,fun call aR=>?_,eW,h⟩;rw[yY ar aH];unfold pn;rw[oI ax H a',oY];show mJ (Gz K.P H o5 (.pointer (some ⟨a,0,none⟩)) (.int .i64 k))=_;obtain⟨j,ba⟩:∃j,bs.length=j+1:=⟨bs.length -1,by omega⟩;rw[aU,ba,show((j+1:Nat):Int)=Int.ofNat (j+1) from rfl];have aD:takeN (j+1) (bs.map tm)=some (bs.map tm):=by rw[x6 (by rw[mc];omega),et (by rw[mc];omega)]
 rw[ba] at bn;unfold Gz;simp only[aiK,aN,hA,Kv,show Nat.ble (j+1) 1000000=true from lr (by omega),XA aJ da,Ml,wg,lK,dZ,aD,abC,bn,cb,cP];rfl
theorem Ai{c:Call}{t hy e:TypeId}{sz k j:Nat}{gf cells new:List Value}{v x:Value}{aY m0:aO}{hn:TypeDesc}(ar:o.op=.call c)(aH:c.callee=.builtin .append)(aZ:o.dst=some d)(aP:Nat.blt d n=true)(a':h5 l c.args.toList=some [v,x])(oY:c.argTypes.toList=[t,hy])(aD:jS K.P t=some (e,sz,gf))(jQ:K.P.underlying hy=some hn)(vL:∀i,hn≠.int i)
 (az:Acc e sz v k cells aY)(hm:m.Perm (aY++m0))(U:mQ K.g0 B J m sz x j new)(cr:new.length=j*sz)(cc:new.all eQ=true)(av:k+j<=1000000)
 (h:∀w hF,Acc e sz w (k+j) (cells++new) hF->(z0 aY->z0 hF)/\(my aY->my hF)->eR ⟨n,ds,(d,w)::l⟩ (hF++m0) J):hZ K B o ⟨n,ds,l⟩ m J eR:=fun S H ax aJ=>
 aad ar aH aZ aP a' oY aD jQ vL az rfl (U.perm hm) cr cc av h S H ax (aJ.perm hm)
theorem Rf{α:Type}{f:α->Value}{L:List α}{i:Nat}{x:α}(h:i<L.length):gD i (L.map f) [f x]=some ((L.set i x).map f):=by
 rw[Cm _ _ _ (by rw[mc,s'];omega)];congr 1
 rw[List.map_set,Mt,aE (by rw[mc];exact h)];simp
theorem jo{L:List Int}{off:Nat}{x:Int}(i:Nat)(h:i<L.length)(ar:off=i:=by omega):gD off (L.map (Value.int .i64)) [.int .i64 x]=some ((L.set i x).map (Value.int .i64)):=by subst ar;exact Rf (f:=Value.int .i64) h
theorem nh{L:List Int}{off:Nat}{x:Int}(i:Nat)(h:L[i]?=some x)(ar:off=i:=by omega):nth (L.map (Value.int .i64)) off=some (.int .i64 x):=by subst ar;rw[kR,pb,h];rfl
theorem CB{v:Value}{k:Nat}:gG [v] k=List.replicate k v:=by
 show RK v k=_;induction k with
 |zero=>rfl
 |succ k aK=>show v::RK v k=_;rw[aK];rfl
theorem yi{k:Nat}:gG [.int .i64 0] k=(List.replicate k (0:Int)).map (Value.int .i64):=by rw[CB,List.map_replicate]
end
section
variable {K:eL}{B:ea}{ops:List Oper}{bf:List jr}{F:List (FuncId×List Value)}{E:cn}{m m':aO}{J:aI}{o:Oper}{bL:cn->aO->aI->Prop}
variable {n:Nat}{ds:e7}{l:List (Nat×Value)}{d i:Nat}
theorem a7.makeSlice{t e:TypeId}{x y:Operand}{sz:Nat}{gf:List Value}{p q:Int}{zw K':IntKind}(ao:nth ops i=some o)(aq:o.guard=none)(ar:o.op=.makeSlice t x y)(aZ:o.dst=some d)(aP:Nat.blt d n=true)(U:b7 l x=some (.int zw p))(ai:b7 l y=some (.int K' q))(aD:jS K.P t=some (e,sz,gf))(bD:0<=p)(aa:p<=q)(ae:q<=1000000)
 (h:∀a,a7 K B ops bf F ⟨n,ds,(d,.slice (some ⟨a,0,none⟩) p.toNat q.toNat)::l⟩ ((a,.row (gG gf q.toNat) e)::m) J bL):a7 K B ops (.gh i::bf) F ⟨n,ds,l⟩ m J bL:=by
 obtain⟨hu,eU,gS,z,h',bN,bm,rfl,bl,b8,gx⟩:=x2 aD;refine a7.gh (b:=.row (gG z.cells.toList q.toNat) e false 0 0 false) (p:=.row (gG z.cells.toList q.toNat) e) (ep:=.Ck p.toNat q.toNat) ao aq aZ aP (fun S ax=>?_) (fun H a q=>q) (fun c e r z q=>by cases q) h;rw[ar];simp only[nx];rw[QI ax U,QI ax ai];simp only[FN,hu,bN,h',eU];rw[HY (by omega) (by omega),HY (by omega) (by omega)];simp only[bm,b8,gx,wh];rw[show Nat.beq z.cells.toList.length sz=true by rw[bl];exact hA _,show Nat.ble p.toNat q.toNat=true from lr (by omega)];simp only[wh,cb]
end
end
end Go.Opn
