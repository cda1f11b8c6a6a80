/- A part of the proof of TableRounds. -/
import Derived.Test.YtfdhclnfkafebaaGreatDoorCao
import Derived.Test.YtfdhclnfkafebaaGreatDoorProg
import Derived.KernelRfl
import Derived.Test.YtfdhclnfkafebaaGreatDoorCan
set_option maxRecDepth 100000
namespace Go.Opn
noncomputable section
open Go.Cre Go.RowKit Go.Proofs
theorem sJ:Tryz.prog.follows .mixedOrders=true:=by kernel_rfl
theorem num:Q7 Tryz.prog=true:=by kernel_rfl
abbrev j9:Program:=Tryz.prog
abbrev a1 (Q:dD Tryz.prog)(g0:Nat):ef:=⟨Tryz.prog,CD Tryz.prog,YI sJ num,Q,g0⟩
end
end Go.Opn
set_option linter.unusedVariables false
namespace Go.Opn
noncomputable section
open Go.Cre Go.RowKit Go.Proofs
section
variable (Q:dD j9)(g0:Nat)
def MF:List (Nat×Option Nat):=[(3,none),(4,none),(5,none),(22,none),(27,none),(28,none),(32,none),(34,some 3),(43,none),(44,none),(46,some 3),(48,none),(50,none),(52,some 2),(59,none),(65,none),(67,some 3),(72,none),(74,none),(78,some 2),(82,some 6),(122,none),(166,none),(180,none)]
theorem ab9:MF.map (fun x=>r6 j9 x.1)=MF.map (fun x=>some (id x.2)):=by kernel_rfl
def RW:List (Nat×Nat):=[(3,1),(4,1),(27,1),(28,1),(34,3),(46,3),(59,1),(67,3),(72,1),(74,1),(78,2),(82,6),(87,1),(122,1),(167,4),(184,64)]
theorem aoQ:RW.map (fun x=>eV j9 x.1)=RW.map (fun x=>some (id x.2)):=by kernel_rfl
def NV:List (Nat×Nat):=[(3400,0),(3401,1),(3402,2),(4600,0),(4601,1),(4602,2),(5200,0),(5201,1),(6700,0),(6701,1),(6702,2),(7800,0),(7801,1),(8200,0),(8201,1),(8202,2),(8203,3),(8204,4),(8205,5),(8700,0),(13900,0),(13901,3),(13902,4),(13903,5)]
theorem af5:NV.map (fun x=>CB j9 (x.1 / 100) (x.1 % 100))=NV.map (fun x=>some (id x.2)):=by kernel_rfl
def MK:List (Nat×(Nat×Nat×Nat)):=[(167,4,166,1),(184,64,5,1)]
theorem acq:MK.map (fun x=>yl j9 x.1)=MK.map (fun x=>some (id x.2)):=by kernel_rfl
def NC:List (Nat×Nat):=[(22,3),(25,3),(27,1),(31,1),(32,1),(43,6),(44,2),(48,1),(49,1),(50,1),(59,3),(65,1),(74,1)]
theorem afi:NC.map (fun x=>Cv j9 x.1)=NC.map (fun x=>some (id x.2)):=by kernel_rfl
def Nn:List (Nat×IntKind):=[(20072,.u32),(30072,.u32),(30122,.u64),(30153,.u64),(50003,.i64),(720002,.i64),(720003,.i64),(720122,.u64),(1220002,.i64),(1220003,.i64),(1220005,.u8),(1220072,.u32),(1530003,.i64)]
theorem aec:Nn.map (fun x=>isInt j9 (x.1 / 10000) (x.1 % 10000))=Nn.map (fun x=>some (id x.2)):=by kernel_rfl
def MW:List (Nat×(Sum (List (Nat×Nat)) Nat×List Value)):=[(34,.inl [(0,1),(1,1),(2,1)],[(.bool false),(.slice none 0 0),(.slice none 0 0)]),(46,.inl [(0,1),(1,1),(2,1)],[(.int .i64 (0)),(.slice none 0 0),(.slice none 0 0)]),(52,.inl [(0,1),(1,1)],[(.int .i64 (0)),(.slice none 0 0)]),(67,.inl [(0,1),(1,1),(2,1)],[(.bool false),(.slice none 0 0),(.slice none 0 0)]),(78,.inl [(0,1),(1,1)],[(.int .i64 (0)),(.int .i64 (0))]),(82,.inl [(0,1),(1,1),(2,1),(3,1),(4,1),(5,1)],[(.int .i64 (0)),(.int .i64 (0)),(.int .i64 (0)),(.slice none 0 0),(.slice none 0 0),(.slice none 0 0)]),(87,.inl [(0,1)],[(.int .i64 (0))]),(139,.inl [(0,3),(3,1),(4,1),(5,1)],[(.int .i64 (0)),(.slice none 0 0),(.slice none 0 0),(.slice none 0 0),(.slice none 0 0),(.slice none 0 0)]),(167,.inr 1,[.nilFunc,.nilFunc,.nilFunc,.nilFunc]),(184,.inr 1,[(.int .u8 (0)),(.int .u8 (0)),(.int .u8 (0)),(.int .u8 (0)),(.int .u8 (0)),(.int .u8 (0)),(.int .u8 (0)),(.int .u8 (0)),(.int .u8 (0)),(.int .u8 (0)),(.int .u8 (0)),(.int .u8 (0)),(.int .u8 (0)),(.int .u8 (0)),(.int .u8 (0)),(.int .u8 (0)),(.int .u8 (0)),(.int .u8 (0)),(.int .u8 (0)),(.int .u8 (0)),(.int .u8 (0)),(.int .u8 (0)),(.int .u8 (0)),(.int .u8 (0)),(.int .u8 (0)),(.int .u8 (0)),(.int .u8 (0)),(.int .u8 (0)),(.int .u8 (0)),(.int .u8 (0)),(.int .u8 (0)),(.int .u8 (0)),(.int .u8 (0)),(.int .u8 (0)),(.int .u8 (0)),(.int .u8 (0)),(.int .u8 (0)),(.int .u8 (0)),(.int .u8 (0)),(.int .u8 (0)),(.int .u8 (0)),(.int .u8 (0)),(.int .u8 (0)),(.int .u8 (0)),(.int .u8 (0)),(.int .u8 (0)),(.int .u8 (0)),(.int .u8 (0)),(.int .u8 (0)),(.int .u8 (0)),(.int .u8 (0)),(.int .u8 (0)),(.int .u8 (0)),(.int .u8 (0)),(.int .u8 (0)),(.int .u8 (0)),(.int .u8 (0)),(.int .u8 (0)),(.int .u8 (0)),(.int .u8 (0)),(.int .u8 (0)),(.int .u8 (0)),(.int .u8 (0)),(.int .u8 (0))])]
theorem acD:MW.map (fun x=>EY j9 x.1)=MW.map (fun x=>some (id x.2)):=by kernel_rfl
def W1:List Nat:=[22,25,27,31,32,43,44,48,49,50,59,65,74]
theorem isOk:W1.all (fun t=>isSlice j9 t)=true:=by kernel_rfl
def W2:List Nat:=[9]
theorem ajZ:W2.all (fun t=>vv j9 t)=true:=by kernel_rfl
def Ye:List Nat:=[9,87]
theorem alm:Ye.all (fun t=>Bf j9 t)=true:=by kernel_rfl
theorem aqK:gR (a1 Q g0).P 3=some (.int .i64 (0)):=by kernel_rfl
theorem aaW:gR (a1 Q g0).P 28=some (.int .i64 (0)):=by kernel_rfl
theorem lb:gR (a1 Q g0).P 34=some (.agg #[(.bool false),(.slice none 0 0),(.slice none 0 0)]):=by kernel_rfl
theorem aqL:gR (a1 Q g0).P 59=some (.slice none 0 0):=by kernel_rfl
theorem nh:gR (a1 Q g0).P 67=some (.agg #[(.bool false),(.slice none 0 0),(.slice none 0 0)]):=by kernel_rfl
theorem aqM:gR (a1 Q g0).P 87=some (.agg #[(.int .i64 (0))]):=by kernel_rfl
theorem aqJ:gR (a1 Q g0).P 122=some (.int .u64 (0)):=by kernel_rfl
theorem Zq:kQ (a1 Q g0).P 22=some (34,3,[(.bool false),(.slice none 0 0),(.slice none 0 0)]):=by kernel_rfl
theorem Zr:kQ (a1 Q g0).P 25=some (34,3,[(.bool false),(.slice none 0 0),(.slice none 0 0)]):=by kernel_rfl
theorem HR:kQ (a1 Q g0).P 27=some (3,1,[(.int .i64 (0))]):=by kernel_rfl
theorem hb:kQ (a1 Q g0).P 32=some (72,1,[(.int .u32 (0))]):=by kernel_rfl
theorem Zs:kQ (a1 Q g0).P 59=some (67,3,[(.bool false),(.slice none 0 0),(.slice none 0 0)]):=by kernel_rfl
theorem kj:kQ (a1 Q g0).P 65=some (122,1,[(.int .u64 (0))]):=by kernel_rfl
theorem apj:(a1 Q g0).P.underlying 22=some (.slice 34):=by kernel_rfl
theorem apk:(a1 Q g0).P.underlying 25=some (.slice 34):=by kernel_rfl
theorem apl:(a1 Q g0).P.underlying 27=some (.slice 3):=by kernel_rfl
theorem sZ:(a1 Q g0).P.underlying 32=some (.slice 72):=by kernel_rfl
theorem R6:(a1 Q g0).P.underlying 65=some (.slice 122):=by kernel_rfl
theorem WX:isIface (a1 Q g0).P 20=true:=by kernel_rfl
end
end
end Go.Opn
set_option linter.unusedSimpArgs false
namespace Go.Opn
noncomputable section
open Go.Cre Go.RowKit
section
variable {K:ef}{B:dy}{o:Oper}{n:Nat}{ds:eK}{l:List (Nat×Value)}{m m':a8}{J:an}{e8:cC->a8->an->Prop}{d:Nat}
def Cq (k:IntKind)(a b:Int):BinOp->Option Value
 |.quo=>some (.int k (k.wrap (a.tdiv b)))
 |.rem=>some (.int k (a.tmod b))
 |_=>none
theorem apw{op:BinOp}{t dH:TypeId}{x y:Operand}{k:IntKind}{a b:Int}{v:Value}(aj:o.op=.binOp op t x y dH)(ab:bT l x=some (.int k a))(aB:bT l y=some (.int k b))(az:Cq k a b op=some v)(ak:b≠0):c5 K B o n ds l m J v:=by
 intro call aQ S H ax aH;unfold cL e3;simp only[aj];show l6 K.P _ op t (ba S.T H x) (ba S.T H y)=_;rw[dg ax H ab,dg ax H aB];show(bif mi k k then jG H k a b _ op else _)=_;rw[Dv,cv];have key:∀(xC:BinOp),op=xC->(xC=.quo\/xC=.rem)->fk K.P S.T H o=some (.val v H):=by
  intro xC e h;subst e;refine pM ax (by rw[aj];rfl) ab aB rfl rfl ?_ ?_
  ·unfold execOp;simp only[aj];rw[hS ax H ab,hS ax H aB];rcases h with rfl|rfl
   ·simp only[Cq,cD] at az;subst az;have aF:fc K.P (eqGuard .quo t x y (.int k a) (.int k b))=some ():=rfl;have iy:binOp .quo t (.int k a) (.int k b)=pure (.int k (k.wrap (a.tdiv b))):=by simp[binOp,Op.intDiv,ak]
    rw[gB (a:=.int k (k.wrap (a.tdiv b)))]
    ·rfl
    rw[gB aF,iy];rfl
   ·simp only[Cq,cD] at az;subst az;have aF:fc K.P (eqGuard .rem t x y (.int k a) (.int k b))=some ():=rfl;have iy:binOp .rem t (.int k a) (.int k b)=pure (.int k (a.tmod b)):=by simp[binOp,Op.intDiv,ak]
    rw[gB (a:=.int k (a.tmod b))]
    ·rfl
    rw[gB aF,iy];rfl
  ·rcases h with rfl|rfl<;>simp only[Cq,cD] at az<;>subst az<;>rfl
 cases op<;>simp only[Cq,reduceCtorEq] at az
 ·exact key _ rfl (.inl rfl)
 ·exact key _ rfl (.inr rfl)
end
structure ew {α:Type} (J:an) (e:TypeId) (sz:Nat) (R:α->List Value->Prop) (v:Value) (xs:List α):Prop where
 ex:∃cs,fP J e sz v xs.length cs/\∀i x,xs[i]?=some x->R x ((cs.drop (i*sz)).take sz)
theorem ew.mono{α:Type}{J ah:an}{e:TypeId}{sz:Nat}{R R':α->List Value->Prop}{v:Value}{xs:List α}(hle:J.le ah)(c0:∀x cs,R x cs->R' x cs)(h:ew J e sz R v xs):ew ah e sz R' v xs:=by
 obtain⟨cs,ad,af⟩:=h;exact⟨cs,ad.mono hle,fun i x ab=>c0 _ _ (af i x ab)⟩
theorem fP.addr{J:an}{e:TypeId}{sz n c:Nat}{b:Option Addr}{cs:List Value}{k:Nat}(h:fP J e sz (.slice b n c) k cs):addrEq b b=true:=by
 cases h with
 |nil=>rfl
 |js a off cap h=>simp[addrEq]
 |yx=>rfl
 |row ad af aV bq fL=>simp[addrEq]
theorem ew.addr{α:Type}{J:an}{e:TypeId}{sz n c:Nat}{b:Option Addr}{R:α->List Value->Prop}{xs:List α}(h:ew J e sz R (.slice b n c) xs):addrEq b b=true:=by
 obtain⟨cs,ad,_⟩:=h;exact ad.addr
theorem ew.get{α:Type}{J:an}{e:TypeId}{sz n c:Nat}{b:Option Addr}{R:α->List Value->Prop}{xs:List α}(h:ew J e sz R (.slice b n c) xs):n=xs.length/\(0<xs.length->∃a off cells b3,b=some ⟨a,off,none⟩/\J a=some (cells,b3)/\
 ∀(i:Nat) (x:α),xs[i]?=some x->∃cs,takeN sz (nY (off+((i:Nat):Int).toNat*sz) cells)=some cs/\R x cs):=by
 obtain⟨cs,ad,af⟩:=h;have aE:n=xs.length:=by
  obtain⟨b',c',aV,_⟩:=ad.inv;injection aV
 refine⟨aE,fun Gk=>?_⟩;generalize hk:xs.length=k at ad;cases ad with
 |nil=>omega
 |js=>omega
 |yx=>omega
 |@row a off len cap cells cs b3 a7 a0 bJ cO gj=>
  refine⟨a,off,cells,b3,rfl,a7,fun i x ab=>⟨_,?_,af i x ab⟩⟩;have ar:i<xs.length:=(gS.1 ab).1;rw[<-hk] at a0 bJ;have hle:i*sz+sz<=xs.length*sz:=by rw[<-o9];exact e0 _ ar
  have aJ:xs.length*sz<=(cells.drop off).length:=by
   have:((cells.drop off).take (xs.length*sz)).length=xs.length*sz:=by rw[a0];exact bJ
   rw[dY] at this;omega
  rw[lQ] at aJ;rw[wy,xS (by rw[lQ];simp;omega),<-a0];congr 1
  rw[IF,Et,rX,gn (by omega)];simp
open Classical
section
variable {K:ef}
end
section
variable {K:ef}{B:dy}{o:Oper}{n:Nat}{ds:eK}{l:List (Nat×Value)}{m m':a8}{J:an}{e8:cC->a8->an->Prop}{d:Nat}{c7:Exit->cC->a8->an->Prop}
end
theorem W6{pG:Nat}:∀(l:List Nat) {H:aw},jA H->(∀x∈l,x<H.aG)->∃H',sG H pG l=some H'/\jA H':=by
 intro l;induction l with
 |nil=>intro H w _;exact⟨H,rfl,w⟩
 |cons x l aZ=>
  intro H w h;simp only[sG];cases ak:Nat.beq x pG with
  |true=>exact aZ w fun y aB=>h y (.tail _ aB)
  |false=>
   obtain⟨H1,aC⟩:=w.upd .dead (h x (.head _));rw[dB,aC];exact aZ (w.R7 (h x (.head _)) aC) fun y aB=>by rw[(aw.xX aC).1];exact h y (.tail _ aB)
section
variable {g0:Nat}{B:dy}{H:aw}{J:an}{m m':a8}
theorem Inv.kill{a z:Nat}{cells:List Value}{e:TypeId}{rest:List Nat}(h:Inv g0 B J ((a,.opn cells e rest z)::m) H)(cells':List Value)(hq:Nat):
 ∃f H1 cz,H.mem.get a=some (.row cells e true f z false)/\H.upd a (.row cells' e true f hq false)=some H1/\y0 H1 a f=some cz/\Inv g0 B J ((a,.opn cells' e [] hq)::m) cz:=by
 obtain⟨a7,a0,bJ,cO⟩:=h.own a _ (.head _);obtain⟨f,f1,f2,f3⟩:=a7;have cA:=h.lt (.head _);have ez:=h.gv;rw[show ids ((a,ec.opn cells e rest z)::m)=a::(rest++ids m) from rfl,uG,qV,IK] at ez;obtain⟨ny,AG,Ke,OP⟩:=ez;obtain⟨H1,aC⟩:=h.wf.upd (.row cells' e true f hq false) cA;have bm:=h.wf.R7 cA aC;obtain⟨u1,cm,xV,BH,sY⟩:=aw.xX aC;have Gs:∀x∈a::rest,x<H1.aG:=fun x ab=>by
  rw[u1];rcases gb.1 ab with q|q
  ·subst q;exact cA
  ·exact(h.opn a _ (.head _) x q).1
 obtain⟨cz,aW,bW⟩:=W6 (pG:=a) (a::rest) bm Gs;obtain⟨v1,v2,H7,v4,apo,v6⟩:=KE aW;have kc:f<cz.cF:=by rw[H7,xV];exact h.wf.FD f3
 obtain⟨ic,cw⟩:=bW.rF [a] kc;obtain⟨s2,s1,hK,ms,qH⟩:=aw.D3 cw;have ais:ic.mem.get a=some (.row cells' e true f hq false):=by rw[s1,v6 a (.inr rfl),sY,bj rfl]
 have AI:∀x,x≠a->x∉rest->ic.mem.get x=H.mem.get x:=fun x aX aU=>by
  rw[s1,v6 x (.inl (fun q=>by rcases gb.1 q with q|q;exact aX q;exact aU q)),sY,bd aX]
 have Ax:∀g,g≠f->ic.bP.get g=H.bP.get g:=fun g q=>by rw[qH,bd q,v2,cm]
 have ly:ic.aG=H.aG:=by rw[s2,v1,u1]
 refine⟨f,H1,ic,f2,aC,?_,⟨bW.RF kc cw,by rw[ms,v4,BH];exact h.bU,by rw[ly];exact h.aG,by rw[hK,H7,xV];exact h.cF,fun x ab fG=>?_,fun g aF=>?_,fun x c b3 bf=>?_,h.le,h.fresh,fun x b ak=>?_,fun x b ak y aB=>?_,?_⟩⟩
 ·unfold y0
  rw[cm,f3];simp only[aW,cw]
 ·rw[AI x (fun q=>by subst q;rcases a0 with q|q;·omega
                     ·exact fG q) (fun q=>by rcases(h.opn a _ (.head _) x q).2.1 with r|r;·omega
                                             ·exact fG r)]
  exact h.gE x ab fG
 ·rw[Ax g (fun q=>aF (by rw[q];exact f1))];exact h.nC g aF
 ·obtain⟨o,f',ir,s,q⟩:=h.et x c b3 bf
  exact⟨o,f',ir,s,by rw[AI x (fun r=>by subst r;rw[bJ] at bf;cases bf) (fun r=>by have:=(h.opn a _ (.head _) x r).2.2;rw[this] at bf;cases bf)];exact q⟩
 ·rcases gb.1 ak with q|q
  ·injection q with aX aU;subst aX;subst aU
   exact⟨⟨f,f1,ais,by rw[qH,bj rfl]⟩,a0,bJ,cO⟩
  ·obtain⟨dF,dq,ja,k6⟩:=h.own x b (.tail _ q)
   have AV:x∈ids m:=AY q;refine⟨?_,dq,ja,k6⟩;refine ec.ym dF (AI x (fun r=>ny (.inr (r▸AV))) (fun r=>OP _ r _ AV rfl)) fun g r aF=>?_;rw[Ax g (fun dG=>by
        subst dG;rw[f3] at aF;injection aF with aF;injection aF with aF
        exact ny (.inr (aF▸AV)))]
   exact aF
 ·rcases gb.1 ak with q|q
  ·injection q with aX aU;subst aX;subst aU;cases aB
  ·rw[ly];exact h.opn x b (.tail _ q) y aB
 ·show(a::([]++ids m)).Nodup
  rw[kp,uG];exact⟨fun q=>ny (.inr q),Ke⟩
end
section
variable {K:ef}{B:dy}{o:Oper}{n:Nat}{ds:eK}{l:List (Nat×Value)}{m m':a8}{J:an}{e8:cC->a8->an->Prop}{d:Nat}
theorem als{g0:Nat}{H:aw}(aH:Inv g0 B J m H){a:Nat}(h:g0<=a):Nat.blt a H.bU=false:=by
 cases q:Nat.blt a H.bU
 ·rfl
 ·have:a<H.bU:=by simpa[Nat.blt,v8] using q
  have:=aH.bU;omega
theorem Ii{t:TypeId}{x y:Operand}{a off k z:Nat}{v:Value}{vs cells cells':List Value}{e:TypeId}{rest:List Nat}{dc:a8}(aj:o.op=.store t x y)(aq:o.dst=none)(ab:bT l x=some (.pointer (some ⟨a,off,none⟩)))(aB:bT l y=some v)(hk:eV K.P t=some k)(aJ:v.cells.toList=vs)(aD:Nat.beq vs.length k=true)(aO:Nat.blt 0 vs.length=true)(ad:vs.all ff=true)(ag:gw off cells vs=some cells')(aL:z<=off)(ap:m.Perm ((a,.opn cells e rest z)::dc))(h:e8 ⟨n,ds,l⟩ ((a,.opn cells' e [] z)::dc) J):jQ K B o ⟨n,ds,l⟩ m J e8:=by
 refine jQ.skip aq fun S H ax aH=>?_;have aH:=aH.perm ap;obtain⟨f,H1,cz,aC,aW,cw,ed⟩:=aH.kill cells' z;obtain⟨a7,a0,bJ,cO⟩:=aH.own _ _ (.head _);refine⟨cz,_,J,fun call aQ=>?_,ed,h⟩;unfold cL e3;simp only[aj];show DT K.P _ t (ba S.T H x) (ba S.T H y)=_;rw[dg ax H ab,dg ax H aB];show JO (Ae K.P H t (.pointer (some ⟨a,off,none⟩)) v)=_;unfold Ae;simp only[hk,aJ,aD,cv];unfold se;cases vs with
 |nil=>cases aO
 |cons v0 vs=>
  simp only
  rw[als aH cO,dB,aC];simp only[show Nat.ble z off=true from mU aL,SE,ad,cv,ag,aW,cw];rfl
theorem H8{c:Call}{x y:Operand}{k:IntKind}{a b:Int}(aj:o.op=.call c)(aJ:c.callee=.builtin .max)(h4:c.args.toList=[x,y])(ab:bT l x=some (.int k a))(aB:bT l y=some (.int k b)):c5 K B o n ds l m J (.int k (max a b)):=by
 intro call aQ S H ax aH;rw[Aa aj aJ];have nw:c.args=#[x,y]:=by rw[<-SC];exact h4
 have:fk K.P S.T H o=some (.val (.int k (max a b)) H):=by
  refine pM ax ?_ ab aB rfl rfl ?_ rfl
  ·rw[aj];show(Call.operands c).toList=_;simp[Call.operands,aJ,nw]
  ·unfold execOp;simp only[aj];have av:fc K.P (resolve (pL S.T H) c o.type)=some {target:=.builtin .max c.argTypes o.type (c.args.map fun|.const _=>true|_=>false),args:=#[.int k a,.int k b]}:=by
    unfold resolve;simp only[aJ,nw];show some _=some _;simp[hS ax H ab,hS ax H aB];exact⟨by cases x<;>rfl,by cases y<;>rfl⟩
   rw[gB av];show fc K.P ((Builtin.max_ c.argTypes o.type #[.int k a,.int k b]) >>= fun v=>pure (Next.value v))=_;have:fc K.P (Builtin.max_ c.argTypes o.type #[.int k a,.int k b])=some (.int k (max a b)):=by
    show some (Value.int k (if b>a then b else a))=_;congr 2
    split<;>omega
   rw[gB this];rfl
 unfold qh;rw[oG ax H (vs:=[.int k a,.int k b]) (by rw[h4];simp only[ix,ab,aB])];exact this
def acL(b:UInt8):Value:=.int .u8 b.toNat
theorem mA.str{g0:Nat}{s:List UInt8}:mA g0 B J m 1 (.string ⟨⟨s⟩⟩) s.length (s.map acL):=by
 intro H aH;refine⟨rfl,?_⟩;show(match takeN s.length s with|some l=>some (l.map fun b:UInt8=>Value.int .u8 b.toNat)|none=>none)=_
 rw[xS (bX _),uH];rfl
theorem qM{c:Call}{t hM e:TypeId}{sz k j:Nat}{zs cells new:List Value}{v x:Value}{bZ dc:a8}{ht:TypeDesc}(aj:o.op=.call c)(aJ:c.callee=.builtin .append)(aq:o.dst=some d)(aE:Nat.blt d n=true)(aI:ix l c.args.toList=some [v,x])(nA:c.argTypes.toList=[t,hM])(aS:kQ K.P t=some (e,sz,zs))(kN:K.P.underlying hM=some ht)(st:∀i,ht≠.int i)
 (az:Acc e sz v k cells bZ)(hm:m.Perm (bZ++dc))(ab:mA K.g0 B J m sz x j new)(ei:new.length=j*sz)(eh:new.all ff=true)(aD:k+j<=1000000)
 (h:∀w jL,Acc e sz w (k+j) (cells++new) jL->(ir bZ->ir jL)/\(tX bZ->tX jL)->e8 ⟨n,ds,(d,w)::l⟩ (jL++dc) J):jQ K B o ⟨n,ds,l⟩ m J e8:=fun S H ax aH=>
 aaR aj aJ aq aE aI nA aS kN st az rfl (ab.perm hm) ei eh aD h S H ax (aH.perm hm)
theorem ZL{α:Type}{f:α->Value}{L:List α}{i:Nat}{x:α}(h:i<L.length):gw i (L.map f) [f x]=some ((L.set i x).map f):=by
 rw[HV _ _ _ (by rw[g6,x9];omega)];congr 1
 rw[IJ,abv,bj (by rw[g6];exact h)];simp
theorem aqQ{v:Value}{k:Nat}:fM [v] k=List.replicate k v:=by
 show Sv v k=_;induction k with
 |zero=>rfl
 |succ k aZ=>show v::Sv v k=_;rw[aZ];rfl
end
section
variable {K:ef}{B:dy}{ops:List Oper}{a':List jP}{F:List (FuncId×List Value)}{E:cC}{m m':a8}{J:an}{o:Oper}{bF:cC->a8->an->Prop}
variable {n:Nat}{ds:eK}{l:List (Nat×Value)}{d i:Nat}
theorem bp.makeSlice{t e:TypeId}{x y:Operand}{sz:Nat}{zs:List Value}{p q:Int}{qB Dw:IntKind}(ar:nth ops i=some o)(aF:o.guard=none)(aj:o.op=.makeSlice t x y)(aq:o.dst=some d)(aE:Nat.blt d n=true)(ab:bT l x=some (.int qB p))(aB:bT l y=some (.int Dw q))(aS:kQ K.P t=some (e,sz,zs))(aO:0<=p)(ad:p<=q)(af:q<=1000000)
 (h:∀a,bp K B ops a' F ⟨n,ds,(d,.slice (some ⟨a,0,none⟩) p.toNat q.toNat)::l⟩ ((a,.row (fM zs q.toNat) e)::m) J bF):bp K B ops (.ka i::a') F ⟨n,ds,l⟩ m J bF:=by
 obtain⟨hu,ea,jm,z,h3,aL,bQ,rfl,bL,cZ,dE⟩:=sV aS;refine bp.ka (b:=.row (fM z.cells.toList q.toNat) e false 0 0 false) (p:=.row (fM z.cells.toList q.toNat) e) (eJ:=.BB p.toNat q.toNat) ar aF aq aE (fun S ax=>?_) (fun H a q=>q) (fun c e r z q=>by cases q) h;rw[aj];simp only[nm];rw[Rh ax ab,Rh ax aB];simp only[EQ,hu,aL,h3,ea];rw[GO (by omega) (by omega),GO (by omega) (by omega)];simp only[bQ,cZ,dE,It];rw[show Nat.beq z.cells.toList.length sz=true by rw[bL];exact hY _,show Nat.ble p.toNat q.toNat=true from mU (by omega)];simp only[It,cv]
theorem bp.et{a:Nat}{b:ec}{x:List Value×TypeId}(ab:b.rowOf=some x)(h:J.le (J.add a x)->(J.add a x) a=some x->bp K B ops a' F E m (J.add a x) bF):bp K B ops a' F E ((a,b)::m) J bF:=by
 intro S H ax aH;obtain⟨a7,a0⟩:=aH.h9 ab;exact h a0 (an.g7 _ _ _) S H ax a7
end
end
end Go.Opn
namespace Go.Opn
noncomputable section
open Go.Cre Go.RowKit Go.Proofs
theorem wrap_u64{n:Int}(aO:0<=n)(ad:n<18446744073709551616):IntKind.u64.wrap n=n:=by
 unfold IntKind.wrap IntKind.signed IntKind.bits;simp only[En,Eo,Dl];omega
theorem wrap_u32{n:Int}(aO:0<=n)(ad:n<4294967296):IntKind.u32.wrap n=n:=by
 unfold IntKind.wrap IntKind.signed IntKind.bits;simp only[En,Eo,Dl];omega
section
variable {Q:dD j9}{g0:Nat}
theorem A4{α β:Type}{f:Nat->Option β}{g:α->β}:∀{L:List (Nat×α)},L.map (fun x=>f x.1)=L.map (fun x=>some (g x.2))->∀{t:Nat} {r:α},vy L t=some r->f t=some (g r):=by
 intro L;induction L with
 |nil=>intro _ t r h;cases h
 |cons x L aZ=>
  obtain⟨u,v⟩:=x;intro h t r av;rw[uF,uF,List.cons.injEq] at h;simp only[vy] at av;cases ak:Nat.beq t u with
  |true=>
   rw[ak,cv] at av;injection av with av;subst av
   obtain rfl:=eC ak;exact h.1
  |false=>rw[ak,dB] at av;exact aZ h.2 av
theorem Qq{f:Nat->Bool}:∀{L:List Nat},L.all f=true->∀{t:Nat},DD t L=true->f t=true:=by
 intro L;induction L with
 |nil=>intro _ t h;cases h
 |cons u L aZ=>
  intro h t aS;rw[B4,gI] at h;simp only[DD] at aS;cases ak:Nat.beq t u with
  |true=>obtain rfl:=eC ak;exact h.1
  |false=>rw[ak,dB] at aS;exact aZ h.2 aS
theorem dm{t:Nat}{r:Option Nat}(h:vy MF t=some r):r6 (a1 Q g0).P t=some r:=A4 (f:=fun t=>r6 j9 t) (g:=id) ab9 h
theorem hh{t:Nat}{r:Nat}(h:vy RW t=some r):eV (a1 Q g0).P t=some r:=A4 (f:=fun t=>eV j9 t) (g:=id) aoQ h
theorem rH{t f:Nat}{r:Nat}(h:vy NV (t*100+f)=some r)(aM:Nat.blt f 100=true):CB (a1 Q g0).P t f=some r:=by
 have:=A4 (f:=fun k=>CB j9 (k / 100) (k % 100)) (g:=id) af5 h;have aM:f<100:=by simpa[Nat.blt,v8] using aM
 rwa [show(t*100+f) / 100=t by omega,show(t*100+f) % 100=f by omega] at this
theorem ZY{t:Nat}{r:Nat×Nat×Nat}(h:vy MK t=some r):yl (a1 Q g0).P t=some r:=A4 (f:=fun t=>yl j9 t) (g:=id) acq h
theorem aoU{t:Nat}{r:Nat}(h:vy NC t=some r):Cv (a1 Q g0).P t=some r:=A4 (f:=fun t=>Cv j9 t) (g:=id) afi h
theorem ZZ{t:Nat}(h:DD t W1=true):isSlice (a1 Q g0).P t=true:=Qq (f:=fun t=>isSlice j9 t) isOk h
theorem RX{t:Nat}(h:DD t W2=true):vv (a1 Q g0).P t=true:=Qq (f:=fun t=>vv j9 t) ajZ h
theorem Z0{t:Nat}(h:DD t Ye=true):Bf (a1 Q g0).P t=true:=Qq (f:=fun t=>Bf j9 t) alm h
theorem aoS{t:Nat}{r:Sum (List (Nat×Nat)) Nat×List Value}(h:vy MW t=some r):EY (a1 Q g0).P t=some r:=A4 (f:=fun t=>EY j9 t) (g:=id) acD h
theorem aoT{s t:Nat}{r:IntKind}(h:vy Nn (s*10000+t)=some r)(aM:Nat.blt t 10000=true):isInt (a1 Q g0).P s t=some r:=by
 have:=A4 (f:=fun k=>isInt j9 (k / 10000) (k % 10000)) (g:=id) aec h;have aM:t<10000:=by simpa[Nat.blt,v8] using aM
 rwa [show(s*10000+t) / 10000=s by omega,show(s*10000+t) % 10000=t by omega] at this
structure Hid (p:Prop):Prop where
 out:p
section
variable {B:dy}{o:Oper}{n:Nat}{ds:eK}{l:List (Nat×Value)}{m m':a8}{J:an}{d:Nat}
theorem Zd{a:Nat}{cells:List Value}(h:p9 m J a cells:=by first|exact .own (by repeat first|exact .head _|refine .tail _ ?_|refine eF _ ?_)|exact .et (by assumption)|exact .opn (by repeat first|exact .head _|refine .tail _ ?_|refine eF _ ?_)):p9 m J a cells:=h
theorem V.ay{x:Operand}{v:Value}(aj:o.op=.move x:=by exact rfl) (ab:bT l x=some v:=by exact rfl):c5 (a1 Q g0) B o n ds l m J (v):=LO aj ab
theorem V.au{x:Operand}{v:Value}(aj:o.op=.assign x:=by exact rfl) (ab:bT l x=some v:=by exact rfl):c5 (a1 Q g0) B o n ds l m J (v):=apt aj ab
theorem V.cJ{s:TypeId}{x:Operand}{f a off k:Nat}(aj:o.op=.fieldAddr s x f:=by exact rfl) (ab:bT l x=some (.pointer (some ⟨a,off,none⟩)):=by exact rfl) (aM:CB (a1 Q g0).P s f=some k:=by exact rH rfl rfl):c5 (a1 Q g0) B o n ds l m J (.pointer (some ⟨a,off+k,none⟩)):=rL aj ab aM
theorem V.cI{t:TypeId}{x:Operand}{a off:Nat}{cells:List Value}{v:Value}(aj:o.op=.load t x:=by exact rfl) (ab:bT l x=some (.pointer (some ⟨a,off,none⟩)):=by exact rfl) (av:p9 m J a cells:=by exact Zd) (az:m3 (a1 Q g0).P t cells off=some v:=by exact iB (dm rfl) (by first|rfl|assumption)):c5 (a1 Q g0) B o n ds l m J (v):=lM aj ab av az
theorem V.ik{t:TypeId}{x:Operand}{a off:Nat}{cells:List Value}{v:Value}(aj:o.op=.load t x:=by exact rfl) (ab:bT l x=some (.pointer (some ⟨a,off,none⟩)):=by exact rfl) (av:p9 m J a cells:=by exact Zd) (az:m3 (a1 Q g0).P t cells off=some v:=by exact fA (dm rfl) (by first|rfl|assumption)):c5 (a1 Q g0) B o n ds l m J (v):=lM aj ab av az
theorem V.bt{c x y:Operand}{t:Bool}{v:Value}(aj:o.op=.pick c x y:=by exact rfl) (aJ:bT l c=some (.bool t):=by exact rfl) (az:(if t=true then bT l x else bT l y)=some v:=by exact rfl):c5 (a1 Q g0) B o n ds l m J (v):=apK aj aJ az
theorem V.bb{op:BinOp}{t dH:TypeId}{x y:Operand}{k:IntKind}{a b:Int}{v:Value}(aj:o.op=.binOp op t x y dH:=by exact rfl) (ab:bT l x=some (.int k a):=by exact rfl) (aB:bT l y=some (.int k b):=by exact rfl) (az:MQ k a b op=some v:=by exact rfl):c5 (a1 Q g0) B o n ds l m J (v):=aan aj ab aB az
theorem V.aY{op:BinOp}{t dH:TypeId}{x y:Operand}{k:IntKind}{a b c c':Int}(aj:o.op=.binOp op t x y dH:=by exact rfl) (ab:bT l x=some (.int k a):=by exact rfl) (aB:bT l y=some (.int k b):=by exact rfl) (az:MJ a b op=some c:=by exact rfl) (hw:k.wrap c=c':=by first|exact wrap_i64 (by omega) (by omega)|exact wrap_u8 (by omega) (by omega)|exact wrap_u64 (by omega) (by omega)|exact wrap_u32 (by omega) (by omega)|rfl):c5 (a1 Q g0) B o n ds l m J (.int k c'):=apr aj ab aB az hw
theorem V.hn{op:BinOp}{t dH:TypeId}{x y:Operand}{k:IntKind}{a b:Int}{v:Value}(aj:o.op=.binOp op t x y dH:=by exact rfl) (ab:bT l x=some (.int k a):=by exact rfl) (aB:bT l y=some (.int k b):=by exact rfl) (az:Cq k a b op=some v:=by exact rfl) (ak:b≠0:=by first|decide|omega):c5 (a1 Q g0) B o n ds l m J (v):=apw aj ab aB az ak
theorem V.rB{v:Value}(h:c5 (a1 Q g0) B o n ds l m J v:=by first|exact apJ rfl rfl|exact aao rfl rfl):c5 (a1 Q g0) B o n ds l m J (v):=h
theorem V.ex{x:Operand}{bh:Nat}{vs:Array Value}{v:Value}(aj:o.op=.extract x bh:=by exact rfl) (ab:bT l x=some (.tuple vs):=by exact rfl) (az:nth vs.toList bh=some v:=by exact rfl):c5 (a1 Q g0) B o n ds l m J (v):=apx aj ab az
theorem V.h7{v:Value}(h:c5 (a1 Q g0) B o n ds l m J v:=by exact apF rfl rfl rfl rfl (ZZ rfl)):c5 (a1 Q g0) B o n ds l m J (v):=h
theorem V.KG{v:Value}(h:c5 (a1 Q g0) B o n ds l m J v:=by exact apE rfl rfl rfl rfl (RX rfl)):c5 (a1 Q g0) B o n ds l m J (v):=h
theorem V.bh{t:TypeId}{x bh:Operand}{a off len cap sz:Nat}{k:IntKind}{i:Int}(aj:o.op=.indexAddr t x bh:=by exact rfl) (ab:bT l x=some (.slice (some ⟨a,off,none⟩) len cap):=by exact rfl) (ar:bT l bh=some (.int k i):=by exact rfl) (aS:Cv (a1 Q g0).P t=some sz:=by exact aoU rfl) (aO:0<=i:=by first|omega|(simp;omega)) (ad:i<len:=by first|omega|(simp;omega)):c5 (a1 Q g0) B o n ds l m J (.pointer (some ⟨a,off+i.toNat*sz,none⟩)):=apA aj ab ar aS aO ad
theorem V.ajE{t elem:TypeId}{x bh:Operand}{a off len sz:Nat}{k:IntKind}{i:Int}(aj:o.op=.indexAddr t x bh:=by exact rfl) (ab:bT l x=some (.pointer (some ⟨a,off,none⟩)):=by exact rfl) (ar:bT l bh=some (.int k i):=by exact rfl) (aS:yl (a1 Q g0).P t=some (len,elem,sz):=by exact ZY rfl) (aO:0<=i:=by first|omega|(simp;omega)) (ad:i<len:=by first|omega|(simp;omega)):c5 (a1 Q g0) B o n ds l m J (.pointer (some ⟨a,off+i.toNat*sz,none⟩)):=apB aj ab ar aS aO ad
theorem V.kW{v:Value}(h:c5 (a1 Q g0) B o n ds l m J v:=by exact apu rfl rfl (aoS rfl) rfl):c5 (a1 Q g0) B o n ds l m J (v):=h
theorem V.KZ{v:Value}(h:c5 (a1 Q g0) B o n ds l m J v:=by exact apI rfl rfl):c5 (a1 Q g0) B o n ds l m J (v):=h
theorem V.d'{v:Value}(h:c5 (a1 Q g0) B o n ds l m J v:=by exact apv rfl rfl (aoT rfl rfl) (by first|exact wrap_i64 (by omega) (by omega)|exact wrap_u8 (by omega) (by omega)|exact wrap_u64 (by omega) (by omega)|exact wrap_u32 (by omega) (by omega)|rfl)):c5 (a1 Q g0) B o n ds l m J (v):=h
theorem V.fn{v:Value}(h:c5 (a1 Q g0) B o n ds l m J v:=by exact apy rfl rfl rfl):c5 (a1 Q g0) B o n ds l m J (v):=h
theorem V.GN{v:Value}(h:c5 (a1 Q g0) B o n ds l m J v:=by exact apz rfl rfl (Z0 rfl)):c5 (a1 Q g0) B o n ds l m J (v):=h
theorem V.ajF{t:TypeId}{x bh:Operand}{s:List UInt8}{k:IntKind}{i:Int}{b:UInt8}(aj:o.op=.index t x bh:=by exact rfl) (ab:bT l x=some (.string ⟨⟨s⟩⟩):=by exact rfl) (ar:bT l bh=some (.int k i):=by exact rfl) (aS:vv (a1 Q g0).P t=true:=by exact RX rfl) (aO:0<=i:=by first|omega|(simp;omega)) (ak:s[i.toNat]?=some b:=by first|assumption|exact eE (by first|omega|(simp;omega))):c5 (a1 Q g0) B o n ds l m J (.int .u8 b.toNat):=aam aj ab ar aS aO ak
theorem V.RE{v:Value}(h:c5 (a1 Q g0) B o n ds l m J v:=by exact apP (op:=.eql) rfl rfl rfl (ZZ rfl)):c5 (a1 Q g0) B o n ds l m J (v):=h
section
variable {ops rest:List Oper}{bF:Option (List PanicEntry)->cC->a8->an->Prop}
theorem U{v:Value}(az:c5 (a1 Q g0) B o n ds l m J v)(h:W (a1 Q g0) B ops rest ⟨n,ds,(d,v)::l⟩ m J bF)(aF:o.guard=none:=by exact rfl) (aq:o.dst=some d:=by exact rfl) (aE:Nat.blt d n=true:=by exact rfl):W (a1 Q g0) B ops (o::rest) ⟨n,ds,l⟩ m J bF:=W.step aF (Exec.val aq aE az h)
theorem bo{v:Value}{g:Nat}{want b:Bool}(az:c5 (a1 Q g0) B o n ds l m J v)(h:W (a1 Q g0) B ops rest ⟨n,ds,(d,v)::l⟩ m J bF)(aF:lr ops o=some (g,want):=by exact rfl) (ak:look l g=some (.bool b):=by exact rfl) (hw:(b==want)=true:=by exact rfl) (aq:o.dst=some d:=by exact rfl) (aE:Nat.blt d n=true:=by exact rfl):W (a1 Q g0) B ops (o::rest) ⟨n,ds,l⟩ m J bF:=W.Vc aF ak hw (Exec.val aq aE az h)
theorem bs{e:Nat}{want b:Bool}(h:W (a1 Q g0) B ops rest ⟨n,ds,(e,undef)::l⟩ m J bF)(aF:lr ops o=some (d,want):=by exact rfl) (ak:look l d=some (.bool b):=by exact rfl) (hw:(b==want)=false:=by exact rfl) (aq:o.dst=some e:=by exact rfl) (aE:Nat.blt e n=true:=by exact rfl):W (a1 Q g0) B ops (o::rest) ⟨n,ds,l⟩ m J bF:=W.wH aF ak hw aq aE h
theorem pd{e:Nat}{want:Bool}(h:W (a1 Q g0) B ops rest ⟨n,ds,(e,undef)::l⟩ m J bF)(aF:lr ops o=some (d,want):=by exact rfl) (ak:look l d=some undef:=by exact rfl) (aq:o.dst=some e:=by exact rfl) (aE:Nat.blt e n=true:=by exact rfl):W (a1 Q g0) B ops (o::rest) ⟨n,ds,l⟩ m J bF:=W.agH aF ak aq aE h
theorem e9{t:TypeId}{x y:Operand}{a off k:Nat}{v:Value}{vs cells cells':List Value}{e:TypeId}(h:W (a1 Q g0) B ops rest ⟨n,ds,l⟩ m' J bF)(aF:o.guard=none:=by exact rfl) (aj:o.op=.store t x y:=by exact rfl) (aq:o.dst=none:=by exact rfl) (ab:bT l x=some (.pointer (some ⟨a,off,none⟩)):=by exact rfl) (aB:bT l y=some v:=by exact rfl) (hk:eV (a1 Q g0).P t=some k:=by exact hh rfl) (aJ:v.cells.toList=vs:=by exact rfl) (aD:Nat.beq vs.length k=true:=by exact rfl) (aO:Nat.blt 0 vs.length=true:=by exact rfl) (ad:vs.all ff=true:=by exact rfl) (ap:dh m a (.row cells e) (.row cells' e) m':=by repeat first|exact .head _ _ _ _|apply dh.tail|apply dh.app) (ag:gw off cells vs=some cells':=by exact rfl):W (a1 Q g0) B ops (o::rest) ⟨n,ds,l⟩ m J bF:=W.step aF (.of (ia aj aq ab aB hk aJ aD aO ad ag ap h))
end
section
variable {ops:List Oper}{a':List jP}{F:List (FuncId×List Value)}{i:Nat}{bF:cC->a8->an->Prop}
theorem aT{v:Value}(ar:nth ops i=some o)(az:c5 (a1 Q g0) B o n ds l m J v)(h:bp (a1 Q g0) B ops a' F ⟨n,ds,(d,v)::l⟩ m J bF)(aF:o.guard=none:=by exact rfl) (aq:o.dst=some d:=by exact rfl) (aE:Nat.blt d n=true:=by exact rfl):bp (a1 Q g0) B ops (.val i::a') F ⟨n,ds,l⟩ m J bF:=bp.val ar aF aq aE az h
theorem zD{v:Value}(ar:nth ops i=some o)(az:c5 (a1 Q g0) B o n ds l m J v)(h:bp (a1 Q g0) B ops a' F ⟨n,ds,(d,v)::l⟩ m J bF)(aF:o.guard=none:=by exact rfl) (aq:o.dst=some d:=by exact rfl) (aE:Nat.blt d n=true:=by exact rfl):bp (a1 Q g0) B ops (.bR i::a') F ⟨n,ds,l⟩ m J bF:=bp.adt ar aF aq aE az h
theorem mw{t:TypeId}{x y:Operand}{a off k:Nat}{v:Value}{vs cells cells':List Value}{e:TypeId}(ar:nth ops i=some o)(h:bp (a1 Q g0) B ops a' F ⟨n,ds,l⟩ m' J bF)(aF:o.guard=none:=by exact rfl) (aj:o.op=.store t x y:=by exact rfl) (aq:o.dst=none:=by exact rfl) (ab:bT l x=some (.pointer (some ⟨a,off,none⟩)):=by exact rfl) (aB:bT l y=some v:=by exact rfl) (hk:eV (a1 Q g0).P t=some k:=by exact hh rfl) (aJ:v.cells.toList=vs:=by exact rfl) (aD:Nat.beq vs.length k=true:=by exact rfl) (aO:Nat.blt 0 vs.length=true:=by exact rfl) (ad:vs.all ff=true:=by exact rfl) (ap:dh m a (.row cells e) (.row cells' e) m':=by repeat first|exact .head _ _ _ _|apply dh.tail|apply dh.app) (ag:gw off cells vs=some cells':=by exact rfl):bp (a1 Q g0) B ops (.bR i::a') F ⟨n,ds,l⟩ m J bF:=bp.uR ar aF (ia aj aq ab aB hk aJ aD aO ad ag ap h)
end
section
variable {R:uK}{ops:List Oper}{a':List jP}{i g:Nat}{want b:Bool}{bF:cC->a8->an->Prop}
theorem Cb{v:Value}(ar:nth ops i=some o)(az:c5 (a1 Q g0) B o n ds l m J v)(h:eQ (a1 Q g0) B R ops a' ⟨n,ds,(d,v)::l⟩ m J bF)(aF:o.guard=none:=by exact rfl) (aq:o.dst=some d:=by exact rfl) (aE:Nat.blt d n=true:=by exact rfl):eQ (a1 Q g0) B R ops (.val i::a') ⟨n,ds,l⟩ m J bF:=eQ.val ar aF aq aE az h
theorem lh{v:Value}(ar:nth ops i=some o)(az:c5 (a1 Q g0) B o n ds l m J v)(h:eQ (a1 Q g0) B R ops a' ⟨n,ds,(d,v)::l⟩ m J bF)(aF:lr ops o=some (g,want):=by exact rfl) (ak:look l g=some (.bool b):=by exact rfl) (hw:(b==want)=true:=by exact rfl) (aq:o.dst=some d:=by exact rfl) (aE:Nat.blt d n=true:=by exact rfl):eQ (a1 Q g0) B R ops (.val i::a') ⟨n,ds,l⟩ m J bF:=eQ.apW ar aF ak hw aq aE az h
end
theorem iG{v u:Value}(h:eD 8 v u=true:=by first|assumption|rfl|exact aaE _ _ _|exact aaD _ _|exact aaF (by assumption) _ _ _|(refine apY ?_;repeat first|exact ap1|refine ap0 ?_ ?_|exact aaE _ _ _|exact aaD _ _|exact aaF (by assumption) _ _ _)|simp[eD,addrEq]):eD 8 v u=true:=h
theorem gQ{v:Value}(h:c5 (a1 Q g0) B o n ds l m J v:=by first|exact V.ay|exact V.au|exact V.cJ|exact V.cI|exact V.ik|exact V.bh|exact V.bt|exact V.aY|exact V.bb|exact V.ex|exact V.kW|exact V.rB|exact V.aY|exact V.hn|exact V.h7|exact V.KG|exact V.KZ|exact V.d'|exact V.fn|exact V.GN|exact V.ajF|exact V.ajE|exact V.RE):c5 (a1 Q g0) B o n ds l m J v:=h
theorem eH{ops:List Oper}{is:List Nat}(h:vV (a1 Q g0) B ops n ds l m J is:=by
 repeat first
  |exact trivial
  |exact hN.val rfl rfl rfl gQ rfl iG
  |refine⟨?_,?_⟩):vV (a1 Q g0) B ops n ds l m J is:=h
theorem a3{ops:List Oper}{E:cC}{bF:Option (List PanicEntry)->cC->a8->an->Prop}(h:bF none E m J):W (a1 Q g0) B ops [] E m J bF:=W.nil h
theorem rg{p q:Prop}(h:p)(oO:Hid p->q:=by
 intro pt;repeat refine ae.seq ?_
 refine ae.region ?_;exact pt.out):q:=oO ⟨h⟩
theorem ao{p q:Prop}(h:p)(oO:Hid p->q:=by
 intro pt;repeat refine ae.seq ?_
 exact pt.out):q:=oO ⟨h⟩
theorem a2{p q:Prop}(h:p)(oO:Hid p->q:=by
 intro pt;refine a3 ?_;repeat refine ae.seq ?_
 refine ae.region ?_;exact pt.out):q:=oO ⟨h⟩
theorem aA{p q:Prop}(h:p)(oO:Hid p->q:=by
 intro pt;refine a3 ?_;repeat refine ae.seq ?_
 exact pt.out):q:=oO ⟨h⟩
theorem dW{p q:Prop}(h:p)(oO:Hid p->q:=by
 intro pt;repeat refine ae.seq ?_
 refine ae.skip ?_;exact pt.out):q:=oO ⟨h⟩
theorem fy{p q:Prop}(h:p)(oO:Hid p->q:=by
 intro pt;repeat refine ae.seq ?_
 refine ae.skip ?_;repeat refine ae.seq ?_
 refine ae.region ?_;exact pt.out):q:=oO ⟨h⟩
structure oD (t:Bool) (dr jw:Prop):Prop where
 y:t=true->dr
 n:t=false->jw
theorem oD.p(p:Prop)[Decidable p]:oD (decide p) p (¬p):=⟨Hr,of_decide_eq_false⟩
theorem oD.b(t:Bool):oD t (t=true) (t=false):=⟨id,id⟩
theorem If{c7:Exit->cC->a8->an->Prop}{x:Operand}{a b:Code}{t:Bool}{dr jw:Prop}(ad:dr->ae (a1 Q g0) B a ⟨n,ds,l⟩ m J c7)(aO:jw->ae (a1 Q g0) B b ⟨n,ds,l⟩ m J c7)(ab:bT l x=some (.bool t):=by exact rfl) (ag:oD t dr jw:=by first|exact oD.p _|exact oD.b _):ae (a1 Q g0) B (.cond x a b) ⟨n,ds,l⟩ m J c7:=ae.cond ab (fun q=>ad (ag.y q)) (fun q=>aO (ag.n q))
theorem ft{ops rest:List Oper}{bF:Option (List PanicEntry)->cC->a8->an->Prop}(d:Nat){b:Bool}{dr jw:Prop}(ad:dr->W (a1 Q g0) B ops rest ⟨n,ds,(d,.bool true)::l⟩ m J bF)(aO:jw->W (a1 Q g0) B ops rest ⟨n,ds,(d,.bool false)::l⟩ m J bF)(ak:look l d=some (.bool b):=by exact rfl) (ag:oD b dr jw:=by first|exact oD.p _|exact oD.b _):W (a1 Q g0) B ops rest ⟨n,ds,l⟩ m J bF:=W.split ak (fun q=>ad (ag.y q)) (fun q=>aO (ag.n q))
theorem Tt{R:uK}{ops:List Oper}{a':List jP}{bF:cC->a8->an->Prop}(d:Nat){b:Bool}{dr jw:Prop}(ad:dr->eQ (a1 Q g0) B R ops a' ⟨n,ds,(d,.bool true)::l⟩ m J bF)(aO:jw->eQ (a1 Q g0) B R ops a' ⟨n,ds,(d,.bool false)::l⟩ m J bF)(ak:look l d=some (.bool b):=by exact rfl) (ag:oD b dr jw:=by first|exact oD.p _|exact oD.b _):eQ (a1 Q g0) B R ops a' ⟨n,ds,l⟩ m J bF:=eQ.split ak (fun q=>ad (ag.y q)) (fun q=>aO (ag.n q))
theorem Nk{l:List (Nat×Value)}{t:Nat}{v:Value}(h:look l t=some v:=by first|exact rfl|exact fw rfl (by first|omega|(simp_all;done))|exact fu rfl (by first|omega|(simp_all;done))|exact fv rfl (by first|omega|(simp_all;done)|(simp_all;omega))|exact fE rfl (by simp_all)|exact aa some (aa (Value.int .i64) (by omega))):look l t=some v:=h
theorem ce{p:Prop}(h:p:=by
 refine⟨⟨_,rfl,?_⟩,bx _,?_⟩
 ·repeat first|exact trivial|refine⟨Nk,?_⟩
 ·first|exact rfl|exact an.le.refl _|assumption):p:=h
def Ln (l:List (Nat×Value)):List Nat->Option (List (Nat×Value))
 |[]=>some []
 |t::gF=>match look l t with
  |some v=>(match Ln l gF with|some r=>some ((t,v)::r)|none=>none)
  |none=>none
theorem amE{l:List (Nat×Value)}:∀{gF:List Nat} {l':List (Nat×Value)},Ln l gF=some l'->o1 l l':=by
 intro gF;induction gF with
 |nil=>intro l' h;injection h with h;subst h;trivial
 |cons t gF aZ=>
  intro l' h;unfold Ln at h;split at h
  ·rename_i v az;split at h
   ·rename_i r av;injection h with h;subst h
    exact⟨az,aZ av⟩
   ·cases h
  ·cases h
theorem eP{c7:Exit->cC->a8->an->Prop}{c:Code}{l':List (Nat×Value)}(gF:List Nat)(h:ae (a1 Q g0) B c ⟨n,ds,l'⟩ m J c7)(aD:Ln l gF=some l':=by exact rfl):ae (a1 Q g0) B c ⟨n,ds,l⟩ m J c7:=ae.dO (amE aD) (bx _) h
section
variable {ops rest:List Oper}{bF:Option (List PanicEntry)->cC->a8->an->Prop}{c:Call}{x:Operand}{f:FuncId}{first cap:Array Value}{args al:List Value}{cj eB:a8}{ek:Value->a8->an->Prop}
theorem bN(aF:o.guard=none:=by exact rfl) (aj:o.op=.call c:=by exact rfl) (aq:o.dst=some d:=by exact rfl) (aE:Nat.blt d n=true:=by exact rfl) (aJ:c.callee=.value x:=by exact rfl) (ab:bT l x=some (.func (.func f) first cap):=by exact rfl) (aI:ix l c.args.toList=some args:=by exact rfl) (has:(first.toList++args)++cap.toList=al:=by exact rfl) (ap:(cj++eB).Perm m:=by exact .refl _) (G:Fn (a1 Q g0) f al cj J ek) (h:∀v m' ah,J.le ah->ek v m' ah->W (a1 Q g0) B ops rest ⟨n,ds,(d,v)::l⟩ (m'++eB) ah bF):W (a1 Q g0) B ops (o::rest) ⟨n,ds,l⟩ m J bF:=W.step aF (Exec.call aj aq aE aJ ab aI has ap trivial G h)
theorem hl{v:Value}(aF:o.guard=none:=by exact rfl) (aj:o.op=.call c:=by exact rfl) (aq:o.dst=some d:=by exact rfl) (aE:Nat.blt d n=true:=by exact rfl) (aJ:c.callee=.value x:=by exact rfl) (ab:bT l x=some (.func (.func f) first cap):=by exact rfl) (aI:ix l c.args.toList=some args:=by exact rfl) (has:(first.toList++args)++cap.toList=al:=by exact rfl) (G:Fn (a1 Q g0) f al [] J (fun w m' ah=>w=v/\m'=[]/\ah=J)) (h:W (a1 Q g0) B ops rest ⟨n,ds,(d,v)::l⟩ m J bF):W (a1 Q g0) B ops (o::rest) ⟨n,ds,l⟩ m J bF:=W.step aF (Exec.call aj aq aE aJ ab aI has (.refl _) trivial G (fun v' m' ah _ q=>by obtain⟨rfl,rfl,rfl⟩:=q;exact h))
theorem qf{g:Nat}{want b:Bool}(aF:lr ops o=some (g,want):=by exact rfl) (ak:look l g=some (.bool b):=by exact rfl) (hw:(b==want)=true:=by exact rfl) (aj:o.op=.call c:=by exact rfl) (aq:o.dst=some d:=by exact rfl) (aE:Nat.blt d n=true:=by exact rfl) (aJ:c.callee=.value x:=by exact rfl) (ab:bT l x=some (.func (.func f) first cap):=by exact rfl) (aI:ix l c.args.toList=some args:=by exact rfl) (has:(first.toList++args)++cap.toList=al:=by exact rfl) (ap:(cj++eB).Perm m:=by exact .refl _) (G:Fn (a1 Q g0) f al cj J ek) (h:∀v m' ah,J.le ah->ek v m' ah->W (a1 Q g0) B ops rest ⟨n,ds,(d,v)::l⟩ (m'++eB) ah bF):W (a1 Q g0) B ops (o::rest) ⟨n,ds,l⟩ m J bF:=W.Vc aF ak hw (Exec.call aj aq aE aJ ab aI has ap trivial G h)
end
section
variable {ops:List Oper}{a':List jP}{F:List (FuncId×List Value)}{i:Nat}{bF:cC->a8->an->Prop}{c:Call}{x:Operand}{f:FuncId}{first cap:Array Value}{args al:List Value}{cj eB:a8}{ek:Value->a8->an->Prop}
theorem dl(ar:nth ops i=some o)(aF:o.guard=none:=by exact rfl) (aj:o.op=.call c:=by exact rfl) (aq:o.dst=some d:=by exact rfl) (aE:Nat.blt d n=true:=by exact rfl) (aJ:c.callee=.value x:=by exact rfl) (ab:bT l x=some (.func (.func f) first cap):=by exact rfl) (aI:ix l c.args.toList=some args:=by exact rfl) (has:(first.toList++args)++cap.toList=al:=by exact rfl) (aM:F.all (fun g=>!Nat.beq g.1 f)=true:=by exact rfl) (ap:(cj++eB).Perm m:=by exact .refl _) (G:Fn (a1 Q g0) f al cj J ek) (h:∀v m' ah,J.le ah->ek v m' ah->bp (a1 Q g0) B ops a' ((f,al)::F) ⟨n,ds,(d,v)::l⟩ (m'++eB) ah bF):bp (a1 Q g0) B ops (.bR i::a') F ⟨n,ds,l⟩ m J bF:=bp.call ar aF aj aq aE aJ ab aI has aM ap trivial G h
end
theorem Bt{E:cC}{t:Tmp}{dH:TypeId}{a:Nat}{cells:List Value}{e:TypeId}{v:Value}{rs:List ResultVar}{vs:List Value}(av:pa (a1 Q g0).P E m J rs vs)(ad:look E.l t=some (.pointer (some ⟨a,0,none⟩)):=by exact rfl) (af:(a,ec.row cells e)∈m:=by repeat first|exact .head _|refine .tail _ ?_|refine eF _ ?_) (aV:m3 (a1 Q g0).P dH cells 0=some v:=by first|exact fA (dm rfl) rfl|exact iB (dm rfl) rfl):pa (a1 Q g0).P E m J (.cell t dH::rs) (v::vs):=.cell ad af aV av
theorem mR{e:Exit}{E:cC}{rs:List ResultVar}{vs:List Value}{Tq:List Value->a8->Prop}(ap:Tq vs m')(he:e=.normal\/e=.ret:=by first|exact .inl rfl|exact .inr rfl) (aq:E.ds.ds=[]:=by exact rfl) (av:pa (a1 Q g0).P E m J rs vs:=by first|exact .tmp rfl .nil|exact .tmp rfl (.tmp rfl .nil)|exact .nil|exact Bt .nil|exact Bt (Bt .nil)|exact .tmp rfl (.tmp rfl (.tmp rfl .nil))|exact Bt (Bt (Bt .nil))) (ag:m'.Sublist m:=by first|exact br _|exact bx _):(e=.normal\/e=.ret)/\E.ds.ds=[]/\∃vs m',pa (a1 Q g0).P E m J rs vs/\m'.Sublist m/\Tq vs m':=⟨he,aq,vs,m',av,ag,ap⟩
end
end
theorem bg{p:Prop}(h:p:=by first|rfl|exact aa some (aa (Value.int .i64) (by omega))):p:=h
theorem bz{p:Prop}(h:p:=by first|omega|(simp;omega)|(simp only;omega)):p:=h
theorem zf{p:Prop}(h:p:=by first|exact fP.rd (by assumption)|exact mA.str|exact mA.own (by repeat first|exact .head _|refine .tail _ ?_|refine eF _ ?_) rfl):p:=h
theorem qr{p:Prop}(h:p:=by first|exact .own (by repeat first|exact .head _|refine .tail _ ?_|refine eF _ ?_)|exact .et (by assumption)|exact .opn (by repeat first|exact .head _|refine .tail _ ?_|refine eF _ ?_)):p:=h
theorem amT{p:Prop}(h:p:=by first|exact List.Perm.refl _|exact Lm|exact YH|exact amC):p:=h
section
variable {Q:dD j9}{g0:Nat}
section
variable {B:dy}{o:Oper}{n:Nat}{ds:eK}{l:List (Nat×Value)}{m:a8}{J:an}{d:Nat}
section
variable {ops rest:List Oper}{bF:Option (List PanicEntry)->cC->a8->an->Prop}
theorem gU{t:TypeId}{x:Operand}{v:Value}{cells:List Value}(h:∀a,W (a1 Q g0) B ops rest ⟨n,ds,(d,.pointer (some ⟨a,0,none⟩))::l⟩ ((a,.row cells t)::m) J bF)(aF:o.guard=none:=by exact rfl) (aj:o.op=.box t x:=by exact rfl) (aq:o.dst=some d:=by exact rfl) (aE:Nat.blt d n=true:=by exact rfl) (ab:bT l x=some v:=by exact rfl) (aJ:v.cells.toList=cells:=by exact rfl) (ad:cells.all ff=true:=by exact rfl):W (a1 Q g0) B ops (o::rest) ⟨n,ds,l⟩ m J bF:=W.step aF (.of (aqv aj aq aE ab aJ ad h))
theorem ll{t e:TypeId}{k sz:Nat}{zs cells:List Value}{ps:Array (Nat×Operand)}{vs:List (Nat×Value)}(aS:kQ (a1 Q g0).P t=some (e,sz,zs))(h:∀a,W (a1 Q g0) B ops rest ⟨n,ds,(d,.slice (some ⟨a,0,none⟩) k k)::l⟩ ((a,.row cells e)::m) J bF)(aF:o.guard=none:=by exact rfl) (aj:o.op=.buildSlice t k ps:=by exact rfl) (aq:o.dst=some d:=by exact rfl) (aE:Nat.blt d n=true:=by exact rfl) (ap:tq l ps.toList=some vs:=by exact rfl) (hk:(Nat.ble k 100000&&Nat.ble (k*sz) 100000)=true:=by exact rfl) (aM:nr (fun i=>some (i*sz,sz)) (fM zs k) vs=some cells:=by exact rfl) (ad:cells.all ff=true:=by exact rfl):W (a1 Q g0) B ops (o::rest) ⟨n,ds,l⟩ m J bF:=W.step aF (.of (aqw aj aq aE ap aS hk aM ad h))
end
section
variable {R:uK}{ops:List Oper}{a':List jP}{i g:Nat}{want b:Bool}{bF:cC->a8->an->Prop}
theorem lT(ar:nth ops i=some o)(h:eQ (a1 Q g0) B R ops a' ⟨n,ds,(d,undef)::l⟩ m J bF)(aF:lr ops o=some (g,want):=by exact rfl) (ak:look l g=some (.bool b):=by exact rfl) (hw:(b==want)=false:=by exact rfl) (aq:o.dst=some d:=by exact rfl) (aE:Nat.blt d n=true:=by exact rfl):eQ (a1 Q g0) B R ops (.val i::a') ⟨n,ds,l⟩ m J bF:=eQ.rN ar aF ak hw aq aE h
end
end
end
structure SQ where
 d:List (Nat×Value)
 m:a8
 j:an
 i:Prop
 k:Nat
section
variable {K:ef}{B:dy}{c7:Exit->cC->a8->an->Prop}{n:Nat}{ds:eK}
theorem ae.e2{α:Type}{c:Code}{base:List (Nat×Value)}(r:α->SQ)(s:α)(ag:(r s).i)
 (bD:∀s,(r s).i->ae K B c ⟨n,ds,(r s).d++base⟩ (r s).m (r s).j fun e E m J=>match e with
  |.normal=>∃dC l,(r dC).i/\(r dC).k<(r s).k/\E=⟨n,ds,l⟩/\o1 l ((r dC).d++base)/\((r dC).m).Sublist m/\J=(r dC).j
  |e=>c7 e E m J):ae K B (.loop c) ⟨n,ds,(r s).d++base⟩ (r s).m (r s).j c7:=
 ae.akK (fun s=>(r s).d) (fun s=>(r s).m) (fun s=>(r s).j) (fun s=>(r s).i) (fun s=>(r s).k) s ag bD
theorem fl{α:Type}{r:α->SQ}{base l:List (Nat×Value)}{kx:Nat}{m:a8}{J:an}(dC:α)(ar:(r dC).i)(hm:((r dC).m).Sublist m:=by exact .refl _) (bf:J=(r dC).j:=by exact rfl) (hk:(r dC).k<kx:=by first|omega|(simp;omega)|(simp only;omega)) (aD:o1 l ((r dC).d++base):=by repeat first|exact trivial|refine⟨by first|rfl|exact aa some (aa (Value.int .i64) (by omega)),?_⟩):∃dC l',(r dC).i/\(r dC).k<kx/\(⟨n,ds,l⟩:cC)=⟨n,ds,l'⟩/\o1 l' ((r dC).d++base)/\((r dC).m).Sublist m/\J=(r dC).j:=⟨dC,l,ar,hk,rfl,aD,hm,bf⟩
end
theorem al{p q:Prop}(h:p)(oO:Hid p->q:=by
 intro pt;repeat first
  |refine U V.ay ?_
  |refine U V.cJ ?_
  |refine U V.au ?_
  |refine U V.KZ ?_
  |refine U V.h7 ?_
  |refine U V.ex ?_
  |refine U V.kW ?_
  |refine U V.fn ?_
  |refine U V.KG ?_
 exact pt.out):q:=oO ⟨h⟩
theorem eg{p q:Prop}(h:p)(oO:Hid p->q:=by
 intro pt;repeat first
  |refine aT rfl V.ay ?_
  |refine aT rfl V.cJ ?_
  |refine aT rfl V.au ?_
  |refine aT rfl V.KZ ?_
  |refine aT rfl V.h7 ?_
  |refine aT rfl V.ex ?_
  |refine aT rfl V.kW ?_
  |refine aT rfl V.fn ?_
  |refine aT rfl V.KG ?_
 exact pt.out):q:=oO ⟨h⟩
theorem I{p:Prop}(h:p:=by omega):p:=h
theorem bC{p:Prop}(h:p:=by decide):p:=h
end
end Go.Opn
namespace Go.Opn
noncomputable section
open Go.Cre Go.RowKit
section
variable {K:ef}{B:dy}{E:cC}{m dc:a8}{J:an}{c7:Exit->cC->a8->an->Prop}
end
section
variable {K:ef}{B:dy}{o:Oper}{n:Nat}{ds:eK}{l:List (Nat×Value)}{m m':a8}{J:an}{e8:cC->a8->an->Prop}{d:Nat}
end
section
variable {K:ef}{B:dy}{ops:List Oper}{a':List jP}{E:cC}{m m':a8}{J:an}{o:Oper}{bF:cC->a8->an->Prop}{c7:Exit->cC->a8->an->Prop}
variable {n:Nat}{ds:eK}{l:List (Nat×Value)}{d i:Nat}
end
end
end Go.Opn
