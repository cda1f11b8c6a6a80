/- A part of the proof of SampleParts. -/
import Derived.Test.YtdbhjgpppmkagaaGreatCaw
import Derived.ChangeSame
import Derived.OpenShut
import Derived.Test.YtdbhjgpppmkagaaGreatProg
import Derived.KernelRfl
import Derived.Test.YtdbhjgpppmkagaaGreatCav
import Derived.Test.YtdbhjgpppmkagaaGreatCau
set_option linter.unusedVariables false
set_option linter.unusedSimpArgs false
namespace Go.Opn
noncomputable section
open Go.Cre Go.RowKit Go.ChangeShapes Go.WideShapes
def sJ {α:Type}:List (Nat×α)->Nat->Option α
 |[],_=>none
 |(u,v)::l,t=>bif Nat.beq t u then some v else sJ l t
def BW:Nat->List Nat->Bool
 |_,[]=>false
 |t,u::l=>bif Nat.beq t u then true else BW t l
theorem WC{H:Type}{enc:TypeId×Value->H}{P:Program}{W uS:World}(ay:laidOutB P=true)(ai:Below W.heap.size W uS){sp:Nat->Bool}:
 ∀{fN:List TypeId} {vs:List Value} {ds:List (DataW H)} {dx:List MemPlace},(∀t∈fN,P.readableRec t=true/\t<P.types.size)->DataW.TrodAll enc P W 0 (fun _=>true) true fN vs ds dx->(∀p∈dx,p.block<W.heap.size)->(∀p∈dx,sp p.block=true)->DataW.TrodAll enc P uS 0 sp true fN vs ds dx
 |[],_,_,_,_,h,_,_=>by
  obtain⟨rfl,rfl,rfl⟩:=trodAll_nil h;rfl
 |t::fN,_,_,_,ax,h,cP,al=>by
  obtain⟨v,akH,d,ty,a,b,rfl,rfl,rfl,aa,ab⟩:=trodAll_cons h
  exact⟨a,b,WideElems.Trod_stays ay (ax t (.head _)).1 (ax t (.head _)).2 aa (fun x I=>ai.same (cP x (rZ _ I))) (fun x I=>al x (rZ _ I)),
   WC ay ai (fun u hu=>ax u (.tail _ hu)) ab (fun p au=>cP p (lm _ au)) (fun p au=>al p (lm _ au)),rfl⟩
theorem ahU{H:Type}{enc:TypeId×Value->H}{P:Program}{f:Func}{s:ChangeSpec}{apart fresh handsOn:Bool}{W uS:World}{args:Array Value}{v:Value}{ds gs:List (DataW H)}{before:List MemPlace}
 (kd:DataW.Whole enc P f.params.toList s.vars apart W args.toList ds gs before)(ai:Below W.heap.size W uS)(ay:laidOutB P=true)(ad8:∀t∈f.params.toList,P.readableRec t=true/\t<P.types.size)(ap:s.vars=[])
 (q8:(s.fn H (ds++gs)).args=ds)(qg:(s.fn H (ds++gs)).vars=[])
 (xr:∀(b:Nat) (sp:Nat->Bool) (aS:Bool),DataW.TrodAll enc P uS b sp aS f.resultTypes.toList (v.resultList f.resultTypes.size) (s.fn H (ds++gs)).results []):
 s.post enc P f apart fresh handsOn false W args v uS:=by
 have cP:=kd.lt;obtain⟨p,q,aa,ab,rfl,aK,bh⟩:=id kd;have zr:∀x∈p,x.block<W.heap.size:=fun x I=>cP x (rZ _ I);refine⟨ds,gs,p++q,[],p,[],kd,xr _ _ _,?_,?_,World.keptBut_mono (fun p au=>by cases au) (ai.frame fun p=>p∈([]:List MemPlace)),fun h=>by cases h⟩
 ·rw[q8];exact WC ay ai ad8 aa zr (fun x I=>by simpa using zr x I)
 ·rw[ap,qg];rfl
end
end Go.Opn
set_option maxRecDepth 100000
namespace Go.Opn
noncomputable section
open Go.Cre Go.RowKit Go.Proofs
theorem qm:Tryz.prog.follows .mixedOrders=true:=by kernel_rfl
theorem num:NN Tryz.prog=true:=by kernel_rfl
abbrev j4:Program:=Tryz.prog
abbrev a2 (Q:db Tryz.prog)(g0:Nat):eN:=⟨Tryz.prog,A3 Tryz.prog,Vj qm num,Q,g0⟩
section
variable (Q:db j4)(g0:Nat)
def Kp:List (Nat×Option Nat):=[(3,none),(4,none),(22,none),(24,none),(25,none),(27,some 3),(30,none),(32,some 4),(55,none),(58,none),(59,none),(62,none),(64,some 3),(68,none),(70,none),(78,none),(87,some 2),(92,some 6),(123,some 4),(139,none),(145,none),(147,some 2),(166,none),(171,some 2),(177,none)]
theorem Ya:Kp.map (fun x=>qR j4 x.1)=Kp.map (fun x=>some (id x.2)):=by kernel_rfl
def OJ:List (Nat×Nat):=[(3,1),(4,1),(22,1),(24,1),(25,1),(27,3),(30,1),(32,4),(58,1),(59,1),(62,1),(64,3),(87,2),(92,6),(123,4),(147,2),(166,1),(171,2),(178,4)]
theorem ajS:OJ.map (fun x=>eB j4 x.1)=OJ.map (fun x=>some (id x.2)):=by kernel_rfl
def Lj:List (Nat×Nat):=[(2700,0),(2701,1),(2702,2),(3200,0),(3201,1),(3202,2),(3203,3),(5700,0),(5701,1),(6100,0),(6101,1),(6102,2),(6103,3),(6104,4),(6105,5),(6107,7),(6400,0),(6401,1),(6402,2),(7300,0),(7301,1),(7302,2),(7303,6),(7304,7),(7305,8),(8000,0),(8001,3),(8002,4),(8003,5),(8004,6),(8005,7),(8700,0),(8701,1),(9200,0),(9201,1),(9202,2),(9203,3),(9204,4),(9205,5),(12300,0),(12301,1),(12302,2),(12303,3),(14400,0),(14700,0),(14701,1),(14900,0),(14901,3),(14902,4),(14903,5)]
theorem abm:Lj.map (fun x=>A2 j4 (x.1 / 100) (x.1 % 100))=Lj.map (fun x=>some (id x.2)):=by kernel_rfl
def Ll:List (Nat×(Nat×Nat)):=[]
theorem abv:Ll.map (fun x=>DS j4 (x.1 / 100) (x.1 % 100))=Ll.map (fun x=>some (id x.2)):=by kernel_rfl
def Kv:List (Nat×(Nat×Nat×Nat)):=[(71,10,3,1),(178,4,177,1)]
theorem Yl:Kv.map (fun x=>wM j4 x.1)=Kv.map (fun x=>some (id x.2)):=by kernel_rfl
def K7:List (Nat×Nat):=[(22,1),(24,6),(25,2),(30,1),(58,3),(59,4),(78,1),(166,2)]
theorem aaw:K7.map (fun x=>AU j4 x.1)=K7.map (fun x=>some (id x.2)):=by kernel_rfl
def KZ:List (Nat×IntKind):=[(30153,.u64),(1530003,.i64)]
theorem ZM:KZ.map (fun x=>isInt j4 (x.1 / 10000) (x.1 % 10000))=KZ.map (fun x=>some (id x.2)):=by kernel_rfl
def KB:List (Nat×(Sum (List (Nat×Nat)) Nat×List Value)):=[(32,.inl [(0,1),(1,1),(2,1),(3,1)],[(.int .i64 (0)),(.int .i64 (0)),(.slice none 0 0),(.slice none 0 0)]),(57,.inl [(0,1),(1,1)],[(.slice none 0 0),(.int .i64 (0))]),(61,.inl [(0,1),(1,1),(2,1),(3,1),(4,1),(5,1),(6,1),(7,3)],[(.pointer none),(.slice none 0 0),(.slice none 0 0),(.int .i64 (0)),(.int .i64 (0)),(.bool false),(.bool false),(.int .i64 (0)),(.slice none 0 0),(.slice none 0 0)]),(64,.inl [(0,1),(1,1),(2,1)],[(.int .i64 (0)),(.int .i64 (0)),(.int .i64 (0))]),(73,.inl [(0,1),(1,1),(2,4),(6,1),(7,1),(8,10)],[(.pointer none),(.slice none 0 0),(.int .i64 (0)),(.int .i64 (0)),(.slice none 0 0),(.slice none 0 0),(.slice none 0 0),(.slice none 0 0),(.int .i64 (0)),(.int .i64 (0)),(.int .i64 (0)),(.int .i64 (0)),(.int .i64 (0)),(.int .i64 (0)),(.int .i64 (0)),(.int .i64 (0)),(.int .i64 (0)),(.int .i64 (0))]),(80,.inl [(0,3),(3,1),(4,1),(5,1),(6,1),(7,1)],[(.int .i64 (0)),(.slice none 0 0),(.slice none 0 0),(.slice none 0 0),(.int .i64 (0)),(.slice none 0 0),(.slice none 0 0),(.slice none 0 0)]),(87,.inl [(0,1),(1,1)],[(.int .i64 (0)),(.int .i64 (0))]),(92,.inl [(0,1),(1,1),(2,1),(3,1),(4,1),(5,1)],[(.int .i64 (0)),(.int .i64 (0)),(.int .i64 (0)),(.slice none 0 0),(.slice none 0 0),(.slice none 0 0)]),(123,.inl [(0,1),(1,1),(2,1),(3,1)],[(.int .i64 (0)),(.int .i64 (0)),(.slice none 0 0),(.int .i64 (0))]),(144,.inl [(0,1),(1,1),(2,1),(3,1)],[(.int .i64 (0)),(.int .i64 (0)),(.int .i64 (0)),(.int .i64 (0))]),(147,.inl [(0,1),(1,1)],[(.pointer none),.nilFunc]),(149,.inl [(0,3),(3,1),(4,1),(5,1)],[(.int .i64 (0)),(.slice none 0 0),(.slice none 0 0),(.slice none 0 0),(.slice none 0 0),(.slice none 0 0)]),(171,.inr 1,[(.int .i64 (0)),(.int .i64 (0))]),(178,.inr 1,[.nilFunc,.nilFunc,.nilFunc,.nilFunc])]
theorem YA:KB.map (fun x=>Dl j4 x.1)=KB.map (fun x=>some (id x.2)):=by kernel_rfl
def TZ:List Nat:=[22,24,25,30,58,59,78,166]
theorem isOk:TZ.all (fun t=>isSlice j4 t)=true:=by kernel_rfl
def T0:List Nat:=[]
theorem afc:T0.all (fun t=>ue j4 t)=true:=by kernel_rfl
def UG:List Nat:=[9,68]
theorem af6:UG.all (fun t=>Fy j4 t)=true:=by kernel_rfl
theorem JN:fO (a2 Q g0).P 3=some (.int .i64 (0)):=by kernel_rfl
theorem alz:fO (a2 Q g0).P 4=some (.bool false):=by kernel_rfl
theorem aly:fO (a2 Q g0).P 22=some (.slice none 0 0):=by kernel_rfl
theorem Xg:fO (a2 Q g0).P 27=some (.agg #[(.int .i64 (0)),(.slice none 0 0),(.slice none 0 0)]):=by kernel_rfl
theorem yg:fO (a2 Q g0).P 32=some (.agg #[(.int .i64 (0)),(.int .i64 (0)),(.slice none 0 0),(.slice none 0 0)]):=by kernel_rfl
theorem alA:fO (a2 Q g0).P 62=some .nilFunc:=by kernel_rfl
theorem alB:fO (a2 Q g0).P 64=some (.agg #[(.int .i64 (0)),(.int .i64 (0)),(.int .i64 (0))]):=by kernel_rfl
theorem Gf:fO (a2 Q g0).P 87=some (.agg #[(.int .i64 (0)),(.int .i64 (0))]):=by kernel_rfl
theorem yh:fO (a2 Q g0).P 92=some (.agg #[(.int .i64 (0)),(.int .i64 (0)),(.int .i64 (0)),(.slice none 0 0),(.slice none 0 0),(.slice none 0 0)]):=by kernel_rfl
theorem alu:fO (a2 Q g0).P 123=some (.agg #[(.int .i64 (0)),(.int .i64 (0)),(.slice none 0 0),(.int .i64 (0))]):=by kernel_rfl
theorem alv:fO (a2 Q g0).P 147=some (.agg #[(.pointer none),.nilFunc]):=by kernel_rfl
theorem alw:fO (a2 Q g0).P 166=some (.slice none 0 0):=by kernel_rfl
theorem alx:fO (a2 Q g0).P 178=some (.agg #[.nilFunc,.nilFunc,.nilFunc,.nilFunc]):=by kernel_rfl
theorem hL:kn (a2 Q g0).P 22=some (3,1,[(.int .i64 (0))]):=by kernel_rfl
theorem On:kn (a2 Q g0).P 24=some (92,6,[(.int .i64 (0)),(.int .i64 (0)),(.int .i64 (0)),(.slice none 0 0),(.slice none 0 0),(.slice none 0 0)]):=by kernel_rfl
theorem Oo:kn (a2 Q g0).P 25=some (87,2,[(.int .i64 (0)),(.int .i64 (0))]):=by kernel_rfl
theorem sX:kn (a2 Q g0).P 30=some (22,1,[(.slice none 0 0)]):=by kernel_rfl
theorem VV:kn (a2 Q g0).P 58=some (64,3,[(.int .i64 (0)),(.int .i64 (0)),(.int .i64 (0))]):=by kernel_rfl
theorem Oq:kn (a2 Q g0).P 59=some (123,4,[(.int .i64 (0)),(.int .i64 (0)),(.slice none 0 0),(.int .i64 (0))]):=by kernel_rfl
theorem VW:kn (a2 Q g0).P 78=some (4,1,[(.bool false)]):=by kernel_rfl
theorem VU:kn (a2 Q g0).P 166=some (171,2,[(.int .i64 (0)),(.int .i64 (0))]):=by kernel_rfl
theorem s3:(a2 Q g0).P.underlying 22=some (.slice 3):=by kernel_rfl
theorem aka:(a2 Q g0).P.underlying 24=some (.slice 92):=by kernel_rfl
theorem akb:(a2 Q g0).P.underlying 25=some (.slice 87):=by kernel_rfl
theorem WE:(a2 Q g0).P.underlying 30=some (.slice 22):=by kernel_rfl
theorem akc:(a2 Q g0).P.underlying 58=some (.slice 64):=by kernel_rfl
theorem akd:(a2 Q g0).P.underlying 59=some (.slice 123):=by kernel_rfl
theorem aj':(a2 Q g0).P.underlying 166=some (.slice 171):=by kernel_rfl
theorem aeY:Is (a2 Q g0).P 87=some 2:=by kernel_rfl
end
end
end Go.Opn
namespace Go.Opn
noncomputable section
open Go.Cre Go.RowKit
section
variable {K:eN}{B:dO}{o:Oper}{n:Nat}{ds:eQ}{l:List (Nat×Value)}{m m':aI}{J:aA}{eF:b9->aI->aA->Prop}{d:Nat}
def AP (k:IntKind)(a b:Int):BinOp->Option Value
 |.quo=>some (.int k (k.wrap (a.tdiv b)))
 |.rem=>some (.int k (a.tmod b))
 |_=>none
theorem akh{op:BinOp}{t eV:TypeId}{x y:Operand}{k:IntKind}{a b:Int}{v:Value}(an:o.op=.binOp op t x y eV)(I:bW l x=some (.int k a))(ah:bW l y=some (.int k b))(ap:AP k a b op=some v)(ai:b≠0):c1 K B o n ds l m J v:=by
 intro call aL S H aC aE;unfold cY fU;simp only[an];show nr K.P _ op t (a6 S.T H x) (a6 S.T H y)=_;rw[ey aC H I,ey aC H ah];show(bif sG k k then mu H k a b _ op else _)=_;rw[Iz,cc];have key:∀(vY:BinOp),op=vY->(vY=.quo\/vY=.rem)->gH K.P S.T H o=some (.val v H):=by
  intro vY e h;subst e;refine uq aC (by rw[an];rfl) I ah rfl rfl ?_ ?_
  ·unfold execOp;simp only[an];rw[lx aC H I,lx aC H ah];rcases h with rfl|rfl
   ·simp only[AP,b6] at ap;subst ap;have ar:fI K.P (eqGuard .quo t x y (.int k a) (.int k b))=some ():=rfl;have ou:binOp .quo t (.int k a) (.int k b)=pure (.int k (k.wrap (a.tdiv b))):=by simp[binOp,Op.intDiv,ai]
    rw[eC (a:=.int k (k.wrap (a.tdiv b)))]
    ·rfl
    rw[eC ar,ou];rfl
   ·simp only[AP,b6] at ap;subst ap;have ar:fI K.P (eqGuard .rem t x y (.int k a) (.int k b))=some ():=rfl;have ou:binOp .rem t (.int k a) (.int k b)=pure (.int k (a.tmod b)):=by simp[binOp,Op.intDiv,ai]
    rw[eC (a:=.int k (a.tmod b))]
    ·rfl
    rw[eC ar,ou];rfl
  ·rcases h with rfl|rfl<;>simp only[AP,b6] at ap<;>subst ap<;>rfl
 cases op<;>simp only[AP,reduceCtorEq] at ap
 ·exact key _ rfl (.inl rfl)
 ·exact key _ rfl (.inr rfl)
end
structure fX {α:Type} (J:aA) (e:TypeId) (aj:Nat) (R:α->List Value->Prop) (v:Value) (xs:List α):Prop where
 ex:∃cs,hl J e aj v xs.length cs/\∀i x,xs[i]?=some x->R x ((cs.drop (i*aj)).take aj)
theorem fX.mono{α:Type}{J ag:aA}{e:TypeId}{aj:Nat}{R R':α->List Value->Prop}{v:Value}{xs:List α}(hle:J.le ag)(gB:∀x cs,R x cs->R' x cs)(h:fX J e aj R v xs):fX ag e aj R' v xs:=by
 obtain⟨cs,aa,ab⟩:=h;exact⟨cs,aa.mono hle,fun i x I=>gB _ _ (ab i x I)⟩
theorem hl.addr{J:aA}{e:TypeId}{aj n c:Nat}{b:Option Addr}{cs:List Value}{k:Nat}(h:hl J e aj (.slice b n c) k cs):addrEq b b=true:=by
 cases h with
 |nil=>rfl
 |lu a off cap h=>simp[addrEq]
 |w2=>rfl
 |row aa ab aK bh ff=>simp[addrEq]
theorem fX.addr{α:Type}{J:aA}{e:TypeId}{aj n c:Nat}{b:Option Addr}{R:α->List Value->Prop}{xs:List α}(h:fX J e aj R (.slice b n c) xs):addrEq b b=true:=by
 obtain⟨cs,aa,_⟩:=h;exact aa.addr
theorem fX.get{α:Type}{J:aA}{e:TypeId}{aj n c:Nat}{b:Option Addr}{R:α->List Value->Prop}{xs:List α}(h:fX J e aj R (.slice b n c) xs):n=xs.length/\(0<xs.length->∃a off cells bn,b=some ⟨a,off,none⟩/\J a=some (cells,bn)/\
 ∀(i:Nat) (x:α),xs[i]?=some x->∃cs,takeN aj (nI (off+((i:Nat):Int).toNat*aj) cells)=some cs/\R x cs):=by
 obtain⟨cs,aa,ab⟩:=h;have aM:n=xs.length:=by
  obtain⟨b',b1,aK,_⟩:=aa.inv;injection aK
 refine⟨aM,fun Ti=>?_⟩;generalize aH:xs.length=k at aa;cases aa with
 |nil=>omega
 |lu=>omega
 |w2=>omega
 |@row a off len cap cells cs bn a' bd bz cM ha=>
  refine⟨a,off,cells,bn,rfl,a',fun i x I=>⟨_,?_,ab i x I⟩⟩;have ak:i<xs.length:=(dv.1 I).1;rw[<-aH] at bd bz;have hle:i*aj+aj<=xs.length*aj:=by rw[<-pN];exact mD _ ak
  have av:xs.length*aj<=(cells.drop off).length:=by
   have:((cells.drop off).take (xs.length*aj)).length=xs.length*aj:=by rw[bd];exact bz
   rw[fc] at this;omega
  rw[jJ] at av;rw[vd,x7 (by rw[jJ];simp;omega),<-bd];congr 1
  rw[CS,Aq,uN,k4 (by omega)];simp
open Classical
section
variable {K:eN}
end
section
variable {K:eN}{B:dO}{o:Oper}{n:Nat}{ds:eQ}{l:List (Nat×Value)}{m m':aI}{J:aA}{eF:b9->aI->aA->Prop}{d:Nat}{cx:Exit->b9->aI->aA->Prop}
theorem W.gZ{ops rest:List Oper}{E:b9}{bD:Option (List PanicEntry)->b9->aI->aA->Prop}(au:m'.Perm m)(h:W K B ops rest E m' J bD):W K B ops rest E m J bD:=fun S H aC aE=>h S H aC (aE.perm au.symm)
theorem Fn.perm{f:FuncId}{args:List Value}{a4:aI}{dT P3:Value->aI->aA->Prop}(h:Fn K f args a4 J dT)(au:∀v m' ag,dT v m' ag->∃eM,m'.Perm eM/\P3 v eM ag):Fn K f args a4 J P3:=fun H aE=>by
 obtain⟨v,H',ag,ct,a,b,c⟩:=h H aE;obtain⟨eM,aZ,aR⟩:=au v ct ag c;exact⟨v,H',ag,eM,a,b.perm aZ,aR⟩
end
theorem T7{oH:Nat}:∀(l:List Nat) {H:ao},iJ H->(∀x∈l,x<H.af)->∃H',rz H oH l=some H'/\iJ H':=by
 intro l;induction l with
 |nil=>intro H w _;exact⟨H,rfl,w⟩
 |cons x l aG=>
  intro H w h;simp only[rz];cases ai:Nat.beq x oH with
  |true=>exact aG w fun y ah=>h y (.tail _ ah)
  |false=>
   obtain⟨H1,aD⟩:=w.upd .dead (h x (.head _));rw[dN,aD];exact aG (w.JD (h x (.head _)) aD) fun y ah=>by rw[(ao.pF aD).1];exact h y (.tail _ ah)
section
variable {g0:Nat}{B:dO}{H:ao}{J:aA}{m m':aI}
theorem Inv.kill{a z:Nat}{cells:List Value}{e:TypeId}{rest:List Nat}(h:Inv g0 B J ((a,.opn cells e rest z)::m) H)(cells':List Value)(hT:Nat):
 ∃f H1 bZ,H.mem.get a=some (.row cells e true f z false)/\H.upd a (.row cells' e true f hT false)=some H1/\xE H1 a f=some bZ/\Inv g0 B J ((a,.opn cells' e [] hT)::m) bZ:=by
 obtain⟨a',bd,bz,cM⟩:=h.own a _ (.head _);obtain⟨f,f1,f2,f3⟩:=a';have cP:=h.lt (.head _);have dL:=h.gD;rw[show ids ((a,cI.opn cells e rest z)::m)=a::(rest++ids m) from rfl,r0,lL,CX] at dL;obtain⟨Bq,EL,H5,Mg⟩:=dL;obtain⟨H1,aD⟩:=h.wf.upd (.row cells' e true f hT false) cP;have d':=h.wf.JD cP aD;obtain⟨iC,iU,iw,wi,rP⟩:=ao.pF aD;have BB:∀x∈a::rest,x<H1.af:=fun x I=>by
  rw[iC];rcases ft.1 I with q|q
  ·subst q;exact cP
  ·exact(h.opn a _ (.head _) x q).1
 obtain⟨bZ,a5,gS⟩:=T7 (oH:=a) (a::rest) d' BB;obtain⟨v1,v2,jX,v4,oV,v6⟩:=Iy a5;have jx:f<bZ.cd:=by rw[jX,iw];exact h.wf.DV f3
 obtain⟨gf,cC⟩:=gS.qx [a] jx;obtain⟨s2,s1,h2,xY,sW⟩:=ao.Cn cC;have adI:gf.mem.get a=some (.row cells' e true f hT false):=by rw[s1,v6 a (.inr rfl),rP,aF rfl]
 have zv:∀x,x≠a->x∉rest->gf.mem.get x=H.mem.get x:=fun x aZ aR=>by
  rw[s1,v6 x (.inl (fun q=>by rcases ft.1 q with q|q;exact aZ q;exact aR q)),rP,aq aZ]
 have sv:∀g,g≠f->gf.br.get g=H.br.get g:=fun g q=>by rw[sW,aq q,v2,iU]
 have gk:gf.af=H.af:=by rw[s2,v1,iC]
 refine⟨f,H1,gf,f2,aD,?_,⟨gS.Ov jx cC,by rw[xY,v4,wi];exact h.bq,by rw[gk];exact h.af,by rw[h2,jX,iw];exact h.cd,fun x I jS=>?_,fun g ar=>?_,fun x c bn aU=>?_,h.le,h.fresh,fun x b ai=>?_,fun x b ai y ah=>?_,?_⟩⟩
 ·unfold xE
  rw[iU,f3];simp only[a5,cC]
 ·rw[zv x (fun q=>by subst q;rcases bd with q|q;·omega
                     ·exact jS q) (fun q=>by rcases(h.opn a _ (.head _) x q).2.1 with r|r;·omega
                                             ·exact jS r)]
  exact h.e7 x I jS
 ·rw[sv g (fun q=>ar (by rw[q];exact f1))];exact h.lY g ar
 ·obtain⟨o,dj,lI,s,q⟩:=h.fj x c bn aU
  exact⟨o,dj,lI,s,by rw[zv x (fun r=>by subst r;rw[bz] at aU;cases aU) (fun r=>by have:=(h.opn a _ (.head _) x r).2.2;rw[this] at aU;cases aU)];exact q⟩
 ·rcases ft.1 ai with q|q
  ·injection q with aZ aR;subst aZ;subst aR
   exact⟨⟨f,f1,adI,by rw[sW,aF rfl]⟩,bd,bz,cM⟩
  ·obtain⟨dZ,eJ,kV,mY⟩:=h.own x b (.tail _ q)
   have np:x∈ids m:=xz q;refine⟨?_,eJ,kV,mY⟩;refine cI.uT dZ (zv x (fun r=>Bq (.inr (r▸np))) (fun r=>Mg _ r _ np rfl)) fun g r ar=>?_;rw[sv g (fun dt=>by
        subst dt;rw[f3] at ar;injection ar with ar;injection ar with ar
        exact Bq (.inr (ar▸np)))]
   exact ar
 ·rcases ft.1 ai with q|q
  ·injection q with aZ aR;subst aZ;subst aR;cases ah
  ·rw[gk];exact h.opn x b (.tail _ q) y ah
 ·show(a::([]++ids m)).Nodup
  rw[mB,r0];exact⟨fun q=>Bq (.inr q),H5⟩
end
section
variable {K:eN}{B:dO}{o:Oper}{n:Nat}{ds:eQ}{l:List (Nat×Value)}{m m':aI}{J:aA}{eF:b9->aI->aA->Prop}{d:Nat}
theorem age{g0:Nat}{H:ao}(aE:Inv g0 B J m H){a:Nat}(h:g0<=a):Nat.blt a H.bq=false:=by
 cases q:Nat.blt a H.bq
 ·rfl
 ·have:a<H.bq:=by simpa[Nat.blt,tb] using q
  have:=aE.bq;omega
theorem CD{t:TypeId}{x y:Operand}{a off k z:Nat}{v:Value}{vs cells cells':List Value}{e:TypeId}{rest:List Nat}{eA:aI}(an:o.op=.store t x y)(aS:o.dst=none)(I:bW l x=some (.pointer (some ⟨a,off,none⟩)))(ah:bW l y=some v)(aH:eB K.P t=some k)(av:v.cells.toList=vs)(ay:Nat.beq vs.length k=true)(bt:Nat.blt 0 vs.length=true)(aa:vs.all eT=true)(al:gE off cells vs=some cells')(bC:z<=off)(au:m.Perm ((a,.opn cells e rest z)::eA))(h:eF ⟨n,ds,l⟩ ((a,.opn cells' e [] z)::eA) J):iG K B o ⟨n,ds,l⟩ m J eF:=by
 refine iG.skip aS fun S H aC aE=>?_;have aE:=aE.perm au;obtain⟨f,H1,bZ,aD,a5,cC,e0⟩:=aE.kill cells' z;obtain⟨a',bd,bz,cM⟩:=aE.own _ _ (.head _);refine⟨bZ,_,J,fun call aL=>?_,e0,h⟩;unfold cY fU;simp only[an];show B9 K.P _ t (a6 S.T H x) (a6 S.T H y)=_;rw[ey aC H I,ey aC H ah];show HE (yX K.P H t (.pointer (some ⟨a,off,none⟩)) v)=_;unfold yX;simp only[aH,av,ay,cc];unfold pW;cases vs with
 |nil=>cases bt
 |cons hr vs=>
  simp only
  rw[age aE cM,dN,aD];simp only[show Nat.ble z off=true from kK bC,JT,aa,cc,al,a5,cC];rfl
theorem JF{c:Call}{x y:Operand}{k:IntKind}{a b:Int}(an:o.op=.call c)(av:c.callee=.builtin .max)(kx:c.args.toList=[x,y])(I:bW l x=some (.int k a))(ah:bW l y=some (.int k b)):c1 K B o n ds l m J (.int k (max a b)):=by
 intro call aL S H aC aE;rw[AV an av];have q8:c.args=#[x,y]:=by rw[<-Array.toList_inj];exact kx
 have:gH K.P S.T H o=some (.val (.int k (max a b)) H):=by
  refine uq aC ?_ I ah rfl rfl ?_ rfl
  ·rw[an];show(Call.operands c).toList=_;simp[Call.operands,av,q8]
  ·unfold execOp;simp only[an];have ax:fI K.P (resolve (rH S.T H) c o.type)=some {target:=.builtin .max c.argTypes o.type (c.args.map fun|.const _=>true|_=>false),args:=#[.int k a,.int k b]}:=by
    unfold resolve;simp only[av,q8];show some _=some _;simp[lx aC H I,lx aC H ah];exact⟨by cases x<;>rfl,by cases y<;>rfl⟩
   rw[eC ax];show fI K.P ((Builtin.max_ c.argTypes o.type #[.int k a,.int k b]) >>= fun v=>pure (Next.value v))=_;have:fI K.P (Builtin.max_ c.argTypes o.type #[.int k a,.int k b])=some (.int k (max a b)):=by
    show some (Value.int k (if b>a then b else a))=_;congr 2
    split<;>omega
   rw[eC this];rfl
 unfold q4;rw[o9 aC H (vs:=[.int k a,.int k b]) (by rw[kx];simp only[il,I,ah])];exact this
def YF(b:UInt8):Value:=.int .u8 b.toNat
theorem nb.str{g0:Nat}{s:List UInt8}:nb g0 B J m 1 (.string ⟨⟨s⟩⟩) s.length (s.map YF):=by
 intro H aE;refine⟨rfl,?_⟩;show(match takeN s.length s with|some l=>some (l.map fun b:UInt8=>Value.int .u8 b.toNat)|none=>none)=_
 rw[x7 (dH _),Aw];rfl
theorem O8{c:Call}{t hq e:TypeId}{aj k j:Nat}{gd cells new:List Value}{v x:Value}{aY eA:aI}{eZ:TypeDesc}(an:o.op=.call c)(av:c.callee=.builtin .append)(aS:o.dst=some d)(aM:Nat.blt d n=true)(aW:il l c.args.toList=some [v,x])(nn:c.argTypes.toList=[t,hq])(aN:kn K.P t=some (e,aj,gd))(kg:K.P.underlying hq=some eZ)(tZ:∀i,eZ≠.int i)
 (ap:Acc e aj v k cells aY)(hm:m.Perm (aY++eA))(I:nb K.g0 B J m aj x j new)(df:new.length=j*aj)(dR:new.all eT=true)(ay:k+j<=1000000)
 (h:∀w hy,Acc e aj w (k+j) (cells++new) hy->(lI aY->lI hy)/\(cE aY->cE hy)->eF ⟨n,ds,(d,w)::l⟩ (hy++eA) J):iG K B o ⟨n,ds,l⟩ m J eF:=fun S H aC aE=>
 Xd an av aS aM aW nn aN kg tZ ap rfl (I.perm hm) df dR ay h S H aC (aE.perm hm)
theorem Wg{α:Type}{f:α->Value}{L:List α}{i:Nat}{x:α}(h:i<L.length):gE i (L.map f) [f x]=some ((L.set i x).map f):=by
 rw[z7 _ _ _ (by rw[ig,Gu];omega)];congr 1
 rw[PN,Kb,aF (by rw[ig];exact h)];simp
theorem pC{L:List Int}{off:Nat}{x:Int}(i:Nat)(h:i<L.length)(an:off=i:=by omega):gE off (L.map (Value.int .i64)) [.int .i64 x]=some ((L.set i x).map (Value.int .i64)):=by subst an;exact Wg (f:=Value.int .i64) h
theorem NM{L:List Int}{off:Nat}{x:Int}(i:Nat)(h:L[i]?=some x)(an:off=i:=by omega):nth (L.map (Value.int .i64)) off=some (.int .i64 x):=by subst an;rw[kk,gG,h];rfl
theorem yj{v:Value}{k:Nat}:gp [v] k=List.replicate k v:=by
 show Pk v k=_;induction k with
 |zero=>rfl
 |succ k aG=>show v::Pk v k=_;rw[aG];rfl
theorem yi{k:Nat}:gp [.int .i64 0] k=(List.replicate k (0:Int)).map (Value.int .i64):=by rw[yj,List.map_replicate]
end
section
variable {K:eN}{B:dO}{ops:List Oper}{a8:List iW}{F:List (FuncId×List Value)}{E:b9}{m m':aI}{J:aA}{o:Oper}{bD:b9->aI->aA->Prop}
variable {n:Nat}{ds:eQ}{l:List (Nat×Value)}{d i:Nat}
theorem a3.makeSlice{t e:TypeId}{x y:Operand}{aj:Nat}{gd:List Value}{p q:Int}{ry IA:IntKind}(ak:nth ops i=some o)(ar:o.guard=none)(an:o.op=.makeSlice t x y)(aS:o.dst=some d)(aM:Nat.blt d n=true)(I:bW l x=some (.int ry p))(ah:bW l y=some (.int IA q))(aN:kn K.P t=some (e,aj,gd))(bt:0<=p)(aa:p<=q)(ab:q<=1000000)
 (h:∀a,a3 K B ops a8 F ⟨n,ds,(d,.slice (some ⟨a,0,none⟩) p.toNat q.toNat)::l⟩ ((a,.row (gp gd q.toNat) e)::m) J bD):a3 K B ops (.f' i::a8) F ⟨n,ds,l⟩ m J bD:=by
 obtain⟨hu,eI,hZ,z,h1,bC,bE,rfl,bS,cJ,gy⟩:=ux aN;refine a3.f' (b:=.row (gp z.cells.toList q.toNat) e false 0 0 false) (p:=.row (gp z.cells.toList q.toNat) e) (ef:=.z6 p.toNat q.toNat) ak ar aS aM (fun S aC=>?_) (fun H a q=>q) (fun c e r z q=>by cases q) h;rw[an];simp only[mg];rw[I0 aC I,I0 aC ah];simp only[Db,hu,bC,h1,eI];rw[Fb (by omega) (by omega),Fb (by omega) (by omega)];simp only[bE,cJ,gy,Gk];rw[show Nat.beq z.cells.toList.length aj=true by rw[bS];exact hX _,show Nat.ble p.toNat q.toNat=true from kK (by omega)];simp only[Gk,cc]
end
end
end Go.Opn
