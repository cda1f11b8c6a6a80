/- A part of the proof of TableTurns. -/
import Derived.Test.YtlgjlbpafcifoaaGreatDoorCao
import Derived.ChangeArms
import Derived.DataReads
import Derived.Carry
import Derived.ChangeSame
import Derived.OpenShut
import Derived.Test.YtlgjlbpafcifoaaGreatDoorProg
import Derived.KernelRfl
import Derived.Test.YtlgjlbpafcifoaaGreatDoorCan
set_option linter.unusedVariables false
set_option linter.unusedSimpArgs false
namespace Go.Opn
noncomputable section
open Go.Cre Go.RowKit
theorem aaQ{b:Option Addr}(h:addrEq b b=true)(l c n:Nat):eJ (n+1) (.slice b l c) (.slice b l c)=true:=by
 show(addrEq b b&&Nat.beq l l&&Nat.beq c c)=true;rw[hd,hd,h];rfl
theorem aq7{n:Nat}:∀{l:List Value},(∀v∈l,eJ n v v=true)->eJ (n+1) (.agg l.toArray) (.agg l.toArray)=true:=by
 intro l h;show ks (eJ n) l l=true;induction l with
 |nil=>rfl
 |cons a l aP=>
  show(eJ n a a&&ks (eJ n) l l)=true;rw[h a (.head _),aP (fun v ar=>h v (.tail _ ar))];rfl
theorem aq'{n:Nat}:∀v∈([]:List Value),eJ n v v=true:=fun v ar=>by cases ar
theorem aq9{n:Nat}{a:Value}{l:List Value}(h:eJ n a a=true)(ap:∀v∈l,eJ n v v=true):∀v∈a::l,eJ n v v=true:=fun v ar=>by
 rcases fU.1 ar with rfl|q
 ·exact h
 ·exact ap v q
section
variable {K:dy}{B:c5}{o:Oper}{n:Nat}{ds:dJ}{l:List (Nat×Value)}{m m':aO}{J:af}{e7:b0->aO->af->Prop}{d:Nat}{cd:Exit->b0->aO->af->Prop}
theorem aB.mN{c:Code}{E:b0}(ao:m'.Perm m)(h:aB K B c E m' J cd):aB K B c E m J cd:=fun S H aj av=>h S H aj (av.perm ao.symm)
theorem nG.perm{g0 sz k:Nat}{v:Value}{cs:List Value}(ao:m.Perm m')(h:nG g0 B J m sz v k cs):nG g0 B J m' sz v k cs:=fun H av=>h H (av.perm ao.symm)
theorem KZ{α:Type}{x:α}{a8 r:List α}:(x::(a8++r)).Perm (a8++x::r):=List.perm_middle.symm
theorem YF{α:Type}{x y:α}{a8 r:List α}:(x::y::(a8++r)).Perm (a8++x::y::r):=(KZ.cons x).trans KZ
theorem anl{α:Type}{x y z:α}{a8 r:List α}:(x::y::z::(a8++r)).Perm (a8++x::y::z::r):=(YF.cons x).trans KZ
theorem nG.own{g0:Nat}{e:TypeId}{sz k c a:Nat}{cells:List Value}(hm:(a,dw.row cells e)∈m)(ap:cells.length=k*sz):nG g0 B J m sz (.slice (some ⟨a,0,none⟩) k c) k cells:=by
 intro H av;refine⟨rfl,?_⟩;have g:=(av.own _ _ hm).1;have g:H.mem.get a=some (.row cells e false 0 0 false):=g;unfold jn;cases k with
 |zero=>
  simp only
  rw[jA] at ap;rw[kn ap]
 |succ k=>
  simp only[g];rw[v9,g5,xx (by omega),cM (by omega)]
theorem Acc.mo{c:Code}{e:TypeId}{sz k:Nat}{v:Value}{cells:List Value}{a8 fH:aO}{E:b0}(h:Acc e sz v k cells a8)(hm:m.Perm (a8++fH))(hk:∀ae,J.le ae->fg ae e sz v k cells->aB K B c E fH ae cd):aB K B c E m J cd:=
 aB.mN hm.symm (h.ed rfl hk)
end
def ES (c0 off cap sz:Nat)(a b:Int):Value:=
 if cap=cG then .slice (some ⟨c0,off+a.toNat*sz,none⟩) (b -a).toNat cG
 else if cap=a.toNat then .slice (some ⟨c0,off,none⟩) (b -a).toNat (cap -a.toNat)
 else .slice (some ⟨c0,off+a.toNat*sz,none⟩) (b -a).toNat (cap -a.toNat)
section
variable {K:dy}{B:c5}{o:Oper}{n:Nat}{ds:dJ}{l:List (Nat×Value)}{m m':aO}{J:af}{e7:b0->aO->af->Prop}{d:Nat}
theorem aer{e:TypeId}{c0 off k cap sz:Nat}{cs:List Value}{a b:Int}(ar:fg J e sz (.slice (some ⟨c0,off,none⟩) k cap) k cs)(hk:0<k)(aN:0<=a)(ab:a<=b)(ad:b<=k):
 fg J e sz (ES c0 off cap sz a b) (b -a).toNat ((cs.drop (a.toNat*sz)).take ((b -a).toNat*sz)):=by
 generalize lN:k=u' at ar;have p':=ar;cases ar with
 |jF a off cap h=>exact absurd hk (by omega)
 |@row c0 off k cap cells cs bC cX cW eR hH tQ=>
  subst lN;have hlen:k*sz<=(cells.drop off).length:=by
   have:((cells.drop off).take (k*sz)).length=k*sz:=by rw[cW];exact eR
   rw[dY] at this;omega
  have hle:a.toNat*sz+(b -a).toNat*sz<=k*sz:=by
   rw[<-cR];exact eK _ (by omega)
  have hZ:(cells.drop (off+a.toNat*sz)).take ((b -a).toNat*sz)=(cs.drop (a.toNat*sz)).take ((b -a).toNat*sz):=by
   rw[<-cW,Ie,sP,D2,fV (by omega)]
  have ln:((cs.drop (a.toNat*sz)).take ((b -a).toNat*sz)).length=(b -a).toNat*sz:=by
   rw[dY,ld,eR];omega
  unfold ES;split
  ·exact .row cX hZ ln (fun q=>absurd rfl q) (fun _=>tQ (by assumption))
  ·rename_i aD;split
   ·have eG:(b -a).toNat=0:=by have:=(hH aD).1;omega
    have:(cs.drop (a.toNat*sz)).take ((b -a).toNat*sz)=[]:=by rw[eG];simp
    rw[this,eG];exact .jF _ _ _ (by have:=(hH aD).2;omega)
   ·refine .row cX hZ ln (fun _=>⟨by have:=(hH aD).1;omega,by have:=(hH aD).2;omega⟩) (fun q=>?_);have:=(hH aD).2;omega
theorem aqW{t e:TypeId}{x:Operand}{lo ak:Option Operand}{w:Value}{c0 off cap k sz:Nat}{zs cs:List Value}{a b:Int}(ah:o.op=.slice t x lo ak none)(U:bx l x=some (.slice (some ⟨c0,off,none⟩) k cap))(aJ:mr K.P t=some (e,sz,zs))(ar:fg J e sz (.slice (some ⟨c0,off,none⟩) k cap) k cs)(hk:0<k)(g':s3 l 0 lo=some a)(kh:s3 l k ak=some b)(aN:0<=a)(ab:a<=b)(ad:b<=k)(hw:ES c0 off cap sz a b=w):cO K B o n ds l m J w:=by
 obtain⟨hu,dF,iL,z,hF,aG,bs,rfl,bM,cB,ep⟩:=sw aJ;intro call aE S H aj av;subst hw;generalize lN:k=u' at ar;cases ar with
 |jF a off cap h=>exact absurd hk (by omega)
 |@row c0 off k cap cells cs bC cX cW eR hH tQ=>
  subst lN;obtain⟨ol,G5,xc⟩:=uA (iO:=0) (top:=b.toNat) aj H g' aN (by omega) rfl;have gF:∀w,jY K.P H t (.slice (some ⟨c0,off,none⟩) k cap) ol (match ho S.T H ak with|some x=>x|none=>none)=some w->cj K.P call aE S H o=some (.val w H):=fun w hw=>by
   unfold cj eF;simp only[ah];show lY K.P _ t (a1 S.T H x) (ho S.T H lo) (ho S.T H ak)=_;rw[c6 aj H U,G5];rcases MH aj H kh with⟨_,_,q⟩|⟨_,_,_,_,q⟩
   ·rw[q] at hw ⊢;unfold lY;simp only;rw[show jY K.P H t (.slice (some ⟨c0,off,none⟩) k cap) ol none=some w from hw];rfl
   ·rw[q] at hw ⊢;unfold lY;simp only;rw[show jY K.P H t (.slice (some ⟨c0,off,none⟩) k cap) ol _=some w from hw];rfl
  have aw:(b -a).toNat=b.toNat -a.toNat:=by omega
  obtain⟨QZ,of,ang,os,bI⟩:=av.ed _ _ _ cX;refine gF _ ?_;unfold ES;by_cases aD:cap=cG
  ·subst aD;obtain⟨xa,pt,pu⟩:=uA (iO:=k) (top:=k) aj H kh (by omega) (by omega) rfl;rw[a2 rfl,pt];unfold jY;simp only[hu,dF,hd,b4,bI,tQ rfl,pu,xc,oc,da];rw[aw];rfl
  ·obtain⟨xa,pt,pu⟩:=uA (iO:=k) (top:=cap) aj H kh (by omega) (by have:=(hH aD).1;omega) rfl;have Fw:Nat.beq cap cG=false:=by
    cases q:Nat.beq cap cG
    ·rfl
    ·exact absurd (eb q) aD
   rw[aZ aD];by_cases tn:cap=a.toNat
   ·rw[a2 tn,pt];unfold jY;simp only[hu,dF,Fw,da,pu,xc];rw[show Nat.beq cap a.toNat=true by rw[tn];exact hd _,b4,aw];rfl
   ·rw[aZ tn,pt];unfold jY;simp only[hu,dF,Fw,da,pu,xc];have:Nat.beq cap a.toNat=false:=by
     cases q:Nat.beq cap a.toNat
     ·rfl
     ·exact absurd (eb q) tn
    rw[this,da,aw];rfl
theorem Acc.tc{e:TypeId}{sz k:Nat}{v:Value}{cells:List Value}{a8:aO}(h:Acc e sz v k cells a8):∃b c,v=.slice b k c/\addrEq b b=true:=by
 cases h with
 |nil=>exact⟨_,_,rfl,rfl⟩
 |jF a=>exact⟨_,_,rfl,by simp[addrEq]⟩
 |opn h=>exact⟨_,_,rfl,by simp[addrEq]⟩
 |cap=>exact⟨_,_,rfl,by simp[addrEq]⟩
end
end
end Go.Opn
namespace Go.Opn
noncomputable section
open Go.Cre Go.RowKit Go.ChangeShapes
theorem Tu{b off i:Nat}{sp:Option Nat}(h:sp=none):(⟨b,off,sp⟩:Addr).add i=⟨b,off+i,none⟩:=by
 subst h;unfold Addr.add;split
 ·rename_i q;subst q;rfl
 ·rfl
theorem MU{W:World}{base k:Nat}{a:Addr}{cs:List Value}(h:W.cells? base a k=some cs)(hk:0<k):∃c e f,W.heap[a.block]?=some (.cells c e f)/\a.spot=none/\cs.length=k/\∀j,j<k->c[a.off+j]?=cs[j]?:=by
 obtain⟨_,ad,aL⟩:=World.cells?_some h;obtain⟨b,off,sp⟩:=a;have aN:=aL 0 hk;have kT:∃v,cs[0]?=some v:=⟨cs[0]'(by omega),dX _⟩;obtain⟨v0,CT⟩:=kT;have jX:(⟨b,off,sp⟩:Addr).add 0=⟨b,off,sp⟩:=rfl;rw[jX,CT] at aN;unfold World.cell? at aN;cases cT:W.heap[b]? with
 |none=>rw[show(⟨b,off,sp⟩:Addr).block=b from rfl,cT] at aN;cases aN
 |some o=>
  rw[show(⟨b,off,sp⟩:Addr).block=b from rfl,cT] at aN;cases o with
  |cells c e f=>
   simp only at aN;cases sp with
   |some s=>simp at aN
   |none=>
    refine⟨c,e,f,by first|rfl|exact cT,rfl,ad,fun j aY=>?_⟩;have:=aL j aY;rw[Tu rfl] at this;unfold World.cell? at this;rw[show(⟨b,off+j,none⟩:Addr).block=b from rfl,cT] at this;simpa using this
  |_=>cases aN
section
variable {H:Type}{enc:TypeId×Value->H}{P:Program}{W:World}{fuel:Nat}{t e:TypeId}{cs:List Value}{x:DataW H×List MemPlace}
abbrev oN(enc:TypeId×Value->H)(P:Program)(W:World):=DataW.trod enc P W 0 (fun _=>true) true
theorem apd{sz:Nat}(aJ:P.underlying t=some (.slice e))(dF:P.cellsOf e=sz)(aN:0<sz)(h:oN enc P W fuel t cs=some x):
 ∃(b:Option Addr) (n c:Nat) (rows:List Value) (el:List (List Value)) (ds:List (DataW H×List MemPlace)) (m:Nat),cs.map (gx P W)=[.slice b n c]/\cs.length=1/\(∀bC,fg (kW P W) bC sz (.slice b n c) n (rows.map (gx P W)))/\el.length=n/\ds.length=n/\
  (∀i cy,el[i]?=some cy->cy.length=sz/\(rows.drop (i*sz)).take sz=cy/\∃y,ds[i]?=some y/\oN enc P W m e cy=some y)/\
  (∀y∈ds,∀z∈y.1.weights P e,z∈x.1.weights P t)/\n<=maxLen:=by
 rcases DataW.trod_slice aJ h with⟨rfl,rfl⟩|⟨a,len,cap,x9,rest,n,rfl,rfl,rfl,ab,ad,aL,a6,fb,fX,na⟩
 ·exact⟨none,0,0,[],[],[],0,by rw[uj,El rfl];rfl,rfl,fun bC=>.nil,rfl,rfl,(fun i cy q=>by simp at q),(fun y au=>by cases au),df _⟩
 ·have lM:cap<cG:=nC aL (by unfold maxLen cG;decide);have hw:∀y∈x9,∀z∈y.1.weights P e,z∈(DataW.slice (x9.map (·.1)) (rest.map (·.1)):DataW H).weights P t:=fun y au z aG=>by
   rw[DataW.weights,aJ];refine SX _ (og _ ?_);have:∀l:List (DataW H×List MemPlace),y∈l->z∈DataW.weightsAll P e (l.map (·.1)):=fun l=>by
    induction l with
    |nil=>intro q;cases q
    |cons d r aP=>
     intro q;rw[uj,DataW.weightsAll];rcases fU.1 q with rfl|q
     ·exact og _ aG
     ·exact iI _ (aP q)
   exact this x9 au
  have hR:∀i,i<len->∃cy y,W.cells? 0 (a.add (i*sz)) sz=some cy/\x9[i]?=some y/\oN enc P W n e cy=some y:=fun i ak=>by
   have NY:=fb i ak;rw[dF] at NY;have lp:i<x9.length:=by omega
   rw[dX lp] at NY;obtain⟨cy,aK,aH⟩:=abV.1 NY;exact⟨cy,_,aK,dX lp,aH⟩
  by_cases ap:len=0
  ·subst ap;have aio:x9=[]:=zk.1 a6;subst aio;by_cases aq:a.spot=none/\(rowOf W a.block).isSome
   ·refine⟨some a,0,cap,[],[],[],n,?_,rfl,fun bC=>?_,rfl,rfl,(fun i cy q=>by simp at q),hw,df _⟩
    ·show[gx P W _]=_;unfold gx;simp only;rw[a2 ⟨aq.1,aq.2,lM⟩]
    ·obtain⟨b,off,sp⟩:=a;obtain⟨rfl,_⟩:=aq;exact .jF _ _ _ lM
   ·have kT:cap=0:=by
     apply iF;intro aD
     obtain⟨cX,cW⟩:=fX rfl;have aY:=cW 0 (by omega);rw[dF] at aY;have ag6:0<rest.length:=by omega
     rw[dX ag6] at aY;obtain⟨cy,aK,aH⟩:=abV.1 aY;have jX:a.add ((0+0)*sz)=a:=by simp[Addr.add]
     rw[jX] at aK;obtain⟨c,bC,f,bY,bZ,_⟩:=MU aK aN;exact aq ⟨bZ,by rw[Rl bY];rfl⟩
    subst kT;refine⟨some ⟨0,0,some 0⟩,0,0,[],[],[],n,?_,rfl,fun bC=>.x',rfl,rfl,(fun i cy q=>by simp at q),hw,df _⟩;show[gx P W _]=_;unfold gx;simp only;rw[aZ (fun q=>aq ⟨q.1,q.2.1⟩),a2 (by simp)]
  ·obtain⟨jE,k',aK,aH,bJ⟩:=hR 0 (by omega);have jX:a.add (0*sz)=a:=by simp[Addr.add]
   rw[jX] at aK;obtain⟨c,bC,f,bY,bZ,cz,fu⟩:=MU aK aN;obtain⟨b,off,sp⟩:=a;have bZ:sp=none:=bZ;subst bZ;have bY:W.heap[b]?=some (.cells c bC f):=bY;have kV:=Rl bY;have Vw:∀i,i<len->∃cy y,x9[i]?=some y/\oN enc P W n e cy=some y/\cy.length=sz/\∀j,j<sz->c.toList[off+(i*sz+j)]?=cy[j]?:=fun i ak=>by
    obtain⟨cy,y,aU,aQ,bj⟩:=hR i ak;rw[Tu rfl] at aU;obtain⟨c',Un,f',cL,_,lU,sj⟩:=MU aU aN;have cL:W.heap[b]?=some (.cells c' Un f'):=cL;rw[bY] at cL;injection cL with cL;injection cL with cL _ _
    subst cL;exact⟨cy,y,aQ,bj,lU,fun j aY=>by have:=sj j aY;rw[show off+(i*sz+j)=off+i*sz+j by omega];simpa using this⟩
   have hlen:off+len*sz<=c.toList.length:=by
    obtain⟨cy,y,_,_,bj,ct⟩:=Vw (len -1) (by omega);have:=ct (sz -1) (by omega);rw[dX (show sz -1<cy.length by omega)] at this;have NZ:off+((len -1)*sz+(sz -1))<c.toList.length:=by
     rcases hL (off+((len -1)*sz+(sz -1))) c.toList.length with q|q
     ·exact q
     ·rw[oe q] at this;cases this
    have:len*sz=(len -1)*sz+sz:=by
     rw[<-oZ];congr 1;omega
    omega
   refine⟨some ⟨b,off,none⟩,len,cap,(c.toList.drop off).take (len*sz),(List.range len).map fun i=>(c.toList.drop (off+i*sz)).take sz,x9,n,?_,rfl,fun Un=>?_,by simp,a6,fun i cy ak=>?_,hw,dA ad aL⟩
   ·show[gx P W _]=_;unfold gx;simp only;rw[a2 (by simp only[true_and];exact⟨by rw[kV];rfl,lM⟩)]
   ·refine .row (La kV) (by rw[<-SV,<-BJ]) ?_ (fun _=>⟨ad,lM⟩) (fun q=>by omega);rw[eP,dY,ld];omega
   ·rw[j6] at ak;have Af:i<len:=by
     rcases hL i len with q|q
     ·exact q
     ·rw[oe (by simpa using q)] at ak;cases ak
    rw[SP Af] at ak;simp only[Iv,cl] at ak;obtain⟨EP,y,aU,aQ,bj,ct⟩:=Vw i Af;have hle:i*sz+sz<=len*sz:=by rw[<-oZ];exact eK _ Af
    have hZ:(c.toList.drop (off+i*sz)).take sz=EP:=by
     refine D3 fun j=>?_;rw[iH];split
     ·rename_i aY;rw[oX,<-ct j aY];congr 1;omega
     ·rw[oe (by omega)]
    rw[hZ] at ak;subst ak;refine⟨bj,?_,y,aU,aQ⟩;rw[<-hZ,Ie,D2,sP,fV (by omega)]
theorem P3(aJ:P.underlying t=some (.int .i64))(h:oN enc P W fuel t cs=some x):∃i:Int,cs=[.int .i64 i]/\cs.map (gx P W)=[.int .i64 i]:=by
 obtain⟨i,rfl,_⟩:=DataW.trod_int aJ h;exact⟨i,rfl,by rw[uj,El rfl];rfl⟩
def DJ (P:Program)(t:TypeId):Option Nat:=match P.underlying t with|some (.struct hO)=>some hO.size|_=>none
theorem Z3{k:Nat}(hk:DJ P t=some k)(h:oN enc P W fuel t cs=some x):∃n,cs.length=P.cellsOf t/\∀i dx off sz,i<k->zX P t i=some (dx,off)->P.cellsOf dx=sz->∃y,oN enc P W n dx ((cs.drop off).take sz)=some y/\∀z∈y.1.weights P dx,z∈x.1.weights P t:=by
 unfold DJ at hk;split at hk
 ·rename_i hO hu;injection hk with hk;subst hk
  obtain⟨xs,n,rfl,rfl,ab,ad,aL⟩:=DataW.trod_struct hu h;refine⟨n,ab,fun i dx off sz ak aA aG=>?_⟩;unfold zX at aA;rw[hu] at aA;simp only at aA;have OH:=zf ak;rw[OH] at aA;simp only[cl,dm] at aA;obtain⟨rfl,rfl⟩:=aA;subst aG;have U2:=aL i _ OH;have U:i<xs.length:=by omega
  rw[dX U] at U2;refine⟨_,U2,fun z aG=>?_⟩;rw[DataW.weights,hu];show z∈DataW.weightsEach P (hO.toList.map (·.type)) (xs.map (·.1));have key:∀(ts:List TypeId) (l:List (DataW H)) (j:Nat) (dx:TypeId) (y:DataW H),ts[j]?=some dx->l[j]?=some y->∀z∈y.weights P dx,z∈DataW.weightsEach P ts l:=by
   intro ts;induction ts with
   |nil=>intro l j dx y q;simp at q
   |cons t0 ts aP=>
    intro l j dx y aK aH z aG;cases l with
    |nil=>simp at aH
    |cons d l=>
     rw[DataW.weightsEach];cases j with
     |zero=>
      simp at aK aH;subst aK;subst aH;exact og _ aG
     |succ j=>exact iI _ (aP l j dx y (by simpa using aK) (by simpa using aH) z aG)
  exact key _ _ i _ _ (by simp[OH]) (by simp[U]) z aG
 ·cases hk
end
end
end Go.Opn
namespace Go.Opn
noncomputable section
open Go.Cre Go.RowKit Go.ChangeShapes Go.WideShapes
def si {α:Type}:List (Nat×α)->Nat->Option α
 |[],_=>none
 |(u,v)::l,t=>bif Nat.beq t u then some v else si l t
def Dg:Nat->List Nat->Bool
 |_,[]=>false
 |t,u::l=>bif Nat.beq t u then true else Dg t l
theorem aar{H:Type}{enc:TypeId×Value->H}{P:Program}{W nH:World}(ap:laidOutB P=true)(ai:Below W.heap.size W nH){sp:Nat->Bool}:
 ∀{ts:List TypeId} {vs:List Value} {ds:List (DataW H)} {ps:List MemPlace},(∀t∈ts,P.readableRec t=true/\t<P.types.size)->DataW.TrodAll enc P W 0 (fun _=>true) true ts vs ds ps->(∀p∈ps,p.block<W.heap.size)->(∀p∈ps,sp p.block=true)->DataW.TrodAll enc P nH 0 sp true ts vs ds ps
 |[],_,_,_,_,h,_,_=>by
  obtain⟨rfl,rfl,rfl⟩:=trodAll_nil h;rfl
 |t::ts,_,_,_,aq,h,b9,hs=>by
  obtain⟨v,ara,d,uF,a,b,rfl,rfl,rfl,ab,ad⟩:=trodAll_cons h
  exact⟨a,b,WideElems.Trod_stays ap (aq t (.head _)).1 (aq t (.head _)).2 ab (fun x U=>ai.same (b9 x (og _ U))) (fun x U=>hs x (og _ U)),
   aar ap ai (fun u hu=>aq u (.tail _ hu)) ad (fun p ao=>b9 p (iI _ ao)) (fun p ao=>hs p (iI _ ao)),rfl⟩
theorem anC{H:Type}{enc:TypeId×Value->H}{P:Program}{f:Func}{s:ChangeSpec}{apart fresh handsOn:Bool}{W nH:World}{args:Array Value}{v:Value}{ds gs:List (DataW H)}{before:List MemPlace}
 (gE:DataW.Whole enc P f.params.toList s.vars apart W args.toList ds gs before)(ai:Below W.heap.size W nH)(ap:laidOutB P=true)(ajp:∀t∈f.params.toList,P.readableRec t=true/\t<P.types.size)(ar:s.vars=[])
 (nf:(s.fn H (ds++gs)).args=ds)(Ww:(s.fn H (ds++gs)).vars=[])
 (lO:∀(b:Nat) (sp:Nat->Bool) (al:Bool),DataW.TrodAll enc P nH b sp al f.resultTypes.toList (v.resultList f.resultTypes.size) (s.fn H (ds++gs)).results []):
 s.post enc P f apart fresh handsOn false W args v nH:=by
 have b9:=gE.lt;obtain⟨p,q,ab,ad,rfl,aL,a6⟩:=id gE;have Ag:∀x∈p,x.block<W.heap.size:=fun x U=>b9 x (og _ U);refine⟨ds,gs,p++q,[],p,[],gE,lO _ _ _,?_,?_,World.keptBut_mono (fun p ao=>by cases ao) (ai.frame fun p=>p∈([]:List MemPlace)),fun h=>by cases h⟩
 ·rw[nf];exact aar ap ai ajp ab Ag (fun x U=>by simpa using Ag x U)
 ·rw[ar,Ww];rfl
end
end Go.Opn
set_option maxRecDepth 100000
namespace Go.Opn
noncomputable section
open Go.Cre Go.RowKit Go.Proofs
theorem qi:Tryz.prog.follows .mixedOrders=true:=by kernel_rfl
theorem num:QO Tryz.prog=true:=by kernel_rfl
abbrev im:Program:=Tryz.prog
abbrev aT (Q:cZ Tryz.prog)(g0:Nat):dy:=⟨Tryz.prog,Ck Tryz.prog,YG qi num,Q,g0⟩
section
variable (Q:cZ im)(g0:Nat)
def Mt:List (Nat×Option Nat):=[(3,none),(4,none),(5,none),(22,none),(23,none),(24,none),(26,some 2),(31,none),(42,none),(43,none),(45,none),(47,some 3),(64,none),(66,none),(80,none),(82,some 3),(96,none),(120,none),(197,none)]
theorem acs:Mt.map (fun x=>rM im x.1)=Mt.map (fun x=>some (id x.2)):=by kernel_rfl
def RK:List (Nat×Nat):=[(3,1),(4,1),(23,1),(24,1),(26,2),(31,1),(47,3),(64,1),(66,1),(82,3),(96,1),(101,1),(120,1)]
theorem apV:RK.map (fun x=>ey im x.1)=RK.map (fun x=>some (id x.2)):=by kernel_rfl
def NN:List (Nat×Nat):=[(2600,0),(2601,1),(4700,0),(4701,1),(4702,2),(8200,0),(8201,1),(8202,2),(10100,0)]
theorem ago:NN.map (fun x=>Ci im (x.1 / 100) (x.1 % 100))=NN.map (fun x=>some (id x.2)):=by kernel_rfl
def My:List (Nat×(Nat×Nat×Nat)):=[(201,64,5,1)]
theorem acG:My.map (fun x=>x0 im x.1)=My.map (fun x=>some (id x.2)):=by kernel_rfl
def Nt:List (Nat×Nat):=[(22,1),(23,1),(24,1),(42,3),(43,1),(44,1),(45,1),(60,3),(64,1),(66,3),(80,1)]
theorem afz:Nt.map (fun x=>Ca im x.1)=Nt.map (fun x=>some (id x.2)):=by kernel_rfl
def Na:List (Nat×IntKind):=[(20096,.u32),(30096,.u32),(30120,.u64),(30168,.u64),(50003,.i64),(960002,.i64),(960003,.i64),(960120,.u64),(1200002,.i64),(1200003,.i64),(1200005,.u8),(1200096,.u32)]
theorem aes:Na.map (fun x=>isInt im (x.1 / 10000) (x.1 % 10000))=Na.map (fun x=>some (id x.2)):=by kernel_rfl
def MJ:List (Nat×(Sum (List (Nat×Nat)) Nat×List Value)):=[(26,.inl [(0,1),(1,1)],[(.int .i64 (0)),(.slice none 0 0)]),(47,.inl [(0,1),(1,1),(2,1)],[(.bool false),(.slice none 0 0),(.slice none 0 0)]),(82,.inl [(0,1),(1,1),(2,1)],[(.bool false),(.slice none 0 0),(.slice none 0 0)]),(101,.inl [(0,1)],[(.int .i64 (0))])]
theorem acV:MJ.map (fun x=>Ez im x.1)=MJ.map (fun x=>some (id x.2)):=by kernel_rfl
def WT:List Nat:=[22,23,24,42,43,44,45,60,64,66,80]
theorem isOk:WT.all (fun t=>isSlice im t)=true:=by kernel_rfl
def WU:List Nat:=[9]
theorem akv:WU.all (fun t=>u9 im t)=true:=by kernel_rfl
def Yb:List Nat:=[101]
theorem al3:Yb.all (fun t=>AL im t)=true:=by kernel_rfl
def Sj:List (Nat×Value):=[(3,(.int .i64 (0))),(23,(.slice none 0 0)),(26,(.agg #[(.int .i64 (0)),(.slice none 0 0)])),(31,(.int .i64 (0))),(47,(.agg #[(.bool false),(.slice none 0 0),(.slice none 0 0)])),(64,(.slice none 0 0)),(66,(.slice none 0 0)),(82,(.agg #[(.bool false),(.slice none 0 0),(.slice none 0 0)])),(101,(.agg #[(.int .i64 (0))])),(120,(.int .u64 (0)))]
theorem arJ:Sj.map (fun x=>gX im x.1)=Sj.map (fun x=>some (id x.2)):=by kernel_rfl
def Rs:List (Nat×(TypeId×Nat×List Value)):=[(22,42,1,[(.slice none 0 0)]),(23,42,1,[(.slice none 0 0)]),(24,43,1,[(.slice none 0 0)]),(42,47,3,[(.bool false),(.slice none 0 0),(.slice none 0 0)]),(43,3,1,[(.int .i64 (0))]),(44,96,1,[(.int .u32 (0))]),(45,96,1,[(.int .u32 (0))]),(60,47,3,[(.bool false),(.slice none 0 0),(.slice none 0 0)]),(64,66,1,[(.slice none 0 0)]),(66,82,3,[(.bool false),(.slice none 0 0),(.slice none 0 0)]),(80,120,1,[(.int .u64 (0))])]
theorem aoT:Rs.map (fun x=>mr im x.1)=Rs.map (fun x=>some (id x.2)):=by kernel_rfl
theorem RT:(aT Q g0).P.underlying 23=some (.slice 42):=by kernel_rfl
theorem aau:(aT Q g0).P.underlying 24=some (.slice 43):=by kernel_rfl
theorem aav:(aT Q g0).P.underlying 42=some (.slice 47):=by kernel_rfl
theorem aqp:(aT Q g0).P.underlying 43=some (.slice 3):=by kernel_rfl
theorem vr:(aT Q g0).P.underlying 45=some (.slice 96):=by kernel_rfl
theorem aqq:(aT Q g0).P.underlying 60=some (.slice 47):=by kernel_rfl
theorem aqr:(aT Q g0).P.underlying 64=some (.slice 66):=by kernel_rfl
theorem aqs:(aT Q g0).P.underlying 80=some (.slice 120):=by kernel_rfl
theorem WM:isIface (aT Q g0).P 20=true:=by kernel_rfl
end
end
end Go.Opn
namespace Go.Opn
noncomputable section
open Go.Cre Go.RowKit
section
variable {K:dy}{B:c5}{o:Oper}{n:Nat}{ds:dJ}{l:List (Nat×Value)}{m m':aO}{J:af}{e7:b0->aO->af->Prop}{d:Nat}
def B5 (k:IntKind)(a b:Int):BinOp->Option Value
 |.quo=>some (.int k (k.wrap (a.tdiv b)))
 |.rem=>some (.int k (a.tmod b))
 |_=>none
theorem aqC{op:BinOp}{t dx:TypeId}{x y:Operand}{k:IntKind}{a b:Int}{v:Value}(ah:o.op=.binOp op t x y dx)(U:bx l x=some (.int k a))(au:bx l y=some (.int k b))(ar:B5 k a b op=some v)(ai:b≠0):cO K B o n ds l m J v:=by
 intro call aE S H aj av;unfold cj eF;simp only[ah];show lX K.P _ op t (a1 S.T H x) (a1 S.T H y)=_;rw[c6 aj H U,c6 aj H au];show(bif lT k k then iY H k a b _ op else _)=_;rw[Da,b4];have key:∀(xe:BinOp),op=xe->(xe=.quo\/xe=.rem)->fl K.P S.T H o=some (.val v H):=by
  intro xe e h;subst e;refine qn aj (by rw[ah];rfl) U au rfl rfl ?_ ?_
  ·unfold execOp;simp only[ah];rw[hN aj H U,hN aj H au];rcases h with rfl|rfl
   ·simp only[B5,cl] at ar;subst ar;have ax:e0 K.P (eqGuard .quo t x y (.int k a) (.int k b))=some ():=rfl;have hY:binOp .quo t (.int k a) (.int k b)=pure (.int k (k.wrap (a.tdiv b))):=by simp[binOp,Op.intDiv,ai]
    rw[gM (a:=.int k (k.wrap (a.tdiv b)))]
    ·rfl
    rw[gM ax,hY];rfl
   ·simp only[B5,cl] at ar;subst ar;have ax:e0 K.P (eqGuard .rem t x y (.int k a) (.int k b))=some ():=rfl;have hY:binOp .rem t (.int k a) (.int k b)=pure (.int k (a.tmod b)):=by simp[binOp,Op.intDiv,ai]
    rw[gM (a:=.int k (a.tmod b))]
    ·rfl
    rw[gM ax,hY];rfl
  ·rcases h with rfl|rfl<;>simp only[B5,cl] at ar<;>subst ar<;>rfl
 cases op<;>simp only[B5,reduceCtorEq] at ar
 ·exact key _ rfl (.inl rfl)
 ·exact key _ rfl (.inr rfl)
end
structure dz {α:Type} (J:af) (e:TypeId) (sz:Nat) (R:α->List Value->Prop) (v:Value) (xs:List α):Prop where
 ex:∃cs,fg J e sz v xs.length cs/\∀i x,xs[i]?=some x->R x ((cs.drop (i*sz)).take sz)
theorem dz.mono{α:Type}{J ae:af}{e:TypeId}{sz:Nat}{R R':α->List Value->Prop}{v:Value}{xs:List α}(hle:J.le ae)(dq:∀x cs,R x cs->R' x cs)(h:dz J e sz R v xs):dz ae e sz R' v xs:=by
 obtain⟨cs,ab,ad⟩:=h;exact⟨cs,ab.mono hle,fun i x U=>dq _ _ (ad i x U)⟩
theorem fg.addr{J:af}{e:TypeId}{sz n c:Nat}{b:Option Addr}{cs:List Value}{k:Nat}(h:fg J e sz (.slice b n c) k cs):addrEq b b=true:=by
 cases h with
 |nil=>rfl
 |jF a off cap h=>simp[addrEq]
 |x'=>rfl
 |row ab ad aL a6 fb=>simp[addrEq]
theorem dz.addr{α:Type}{J:af}{e:TypeId}{sz n c:Nat}{b:Option Addr}{R:α->List Value->Prop}{xs:List α}(h:dz J e sz R (.slice b n c) xs):addrEq b b=true:=by
 obtain⟨cs,ab,_⟩:=h;exact ab.addr
theorem dz.get{α:Type}{J:af}{e:TypeId}{sz n c:Nat}{b:Option Addr}{R:α->List Value->Prop}{xs:List α}(h:dz J e sz R (.slice b n c) xs):n=xs.length/\(0<xs.length->∃a off cells bC,b=some ⟨a,off,none⟩/\J a=some (cells,bC)/\
 ∀(i:Nat) (x:α),xs[i]?=some x->∃cs,takeN sz (nP (off+((i:Nat):Int).toNat*sz) cells)=some cs/\R x cs):=by
 obtain⟨cs,ab,ad⟩:=h;have az:n=xs.length:=by
  obtain⟨b',c',aL,_⟩:=ab.inv;injection aL
 refine⟨az,fun FU=>?_⟩;generalize hk:xs.length=k at ab;cases ab with
 |nil=>omega
 |jF=>omega
 |x'=>omega
 |@row a off len cap cells cs bC aU aQ bj ct fo=>
  refine⟨a,off,cells,bC,rfl,aU,fun i x U=>⟨_,?_,ad i x U⟩⟩;have ak:i<xs.length:=(gS.1 U).1;rw[<-hk] at aQ bj;have hle:i*sz+sz<=xs.length*sz:=by rw[<-oZ];exact eK _ ak
  have aD:xs.length*sz<=(cells.drop off).length:=by
   have:((cells.drop off).take (xs.length*sz)).length=xs.length*sz:=by rw[aQ];exact bj
   rw[dY] at this;omega
  rw[ld] at aD;rw[v9,xx (by rw[ld];simp;omega),<-aQ];congr 1
  rw[Ie,D2,sP,fV (by omega)];simp
open Classical
section
variable {K:dy}
end
section
variable {K:dy}{B:c5}{o:Oper}{n:Nat}{ds:dJ}{l:List (Nat×Value)}{m m':aO}{J:af}{e7:b0->aO->af->Prop}{d:Nat}{cd:Exit->b0->aO->af->Prop}
theorem W.mN{ops rest:List Oper}{E:b0}{ba:Option (List PanicEntry)->b0->aO->af->Prop}(ao:m'.Perm m)(h:W K B ops rest E m' J ba):W K B ops rest E m J ba:=fun S H aj av=>h S H aj (av.perm ao.symm)
end
theorem WZ{pp:Nat}:∀(l:List Nat) {H:an},iT H->(∀x∈l,x<H.ay)->∃H',se H pp l=some H'/\iT H':=by
 intro l;induction l with
 |nil=>intro H w _;exact⟨H,rfl,w⟩
 |cons x l aP=>
  intro H w h;simp only[se];cases ai:Nat.beq x pp with
  |true=>exact aP w fun y au=>h y (.tail _ au)
  |false=>
   obtain⟨H1,aw⟩:=w.upd .dead (h x (.head _));rw[da,aw];exact aP (w.Lp (h x (.head _)) aw) fun y au=>by rw[(an.qv aw).1];exact h y (.tail _ au)
section
variable {g0:Nat}{B:c5}{H:an}{J:af}{m m':aO}
theorem Inv.kill{a z:Nat}{cells:List Value}{e:TypeId}{rest:List Nat}(h:Inv g0 B J ((a,.opn cells e rest z)::m) H)(cells':List Value)(g3:Nat):
 ∃f H1 bK,H.mem.get a=some (.row cells e true f z false)/\H.upd a (.row cells' e true f g3 false)=some H1/\yD H1 a f=some bK/\Inv g0 B J ((a,.opn cells' e [] g3)::m) bK:=by
 obtain⟨aU,aQ,bj,ct⟩:=h.own a _ (.head _);obtain⟨f,f1,f2,f3⟩:=aU;have b9:=h.lt (.head _);have dP:=h.fT;rw[show ids ((a,dw.opn cells e rest z)::m)=a::(rest++ids m) from rfl,sN,nB,Ij] at dP;obtain⟨nj,Aj,JS,OA⟩:=dP;obtain⟨H1,aw⟩:=h.wf.upd (.row cells' e true f g3 false) b9;have bt:=h.wf.Lp b9 aw;obtain⟨u1,bU,tV,Be,sB⟩:=an.qv aw;have hl:∀x∈a::rest,x<H1.ay:=fun x U=>by
  rw[u1];rcases fU.1 U with q|q
  ·subst q;exact b9
  ·exact(h.opn a _ (.head _) x q).1
 obtain⟨bK,aR,cv⟩:=WZ (pp:=a) (a::rest) bt hl;obtain⟨v1,v2,HD,v4,aqt,v6⟩:=Kh aR;have jI:f<bK.cn:=by rw[HD,tV];exact h.wf.E8 f3
 obtain⟨eX,cf⟩:=cv.rr [a] jI;obtain⟨s2,s1,fQ,k6,qq⟩:=an.DI cf;have aiX:eX.mem.get a=some (.row cells' e true f g3 false):=by rw[s1,v6 a (.inr rfl),sB,a2 rfl]
 have Al:∀x,x≠a->x∉rest->eX.mem.get x=H.mem.get x:=fun x aK aH=>by
  rw[s1,v6 x (.inl (fun q=>by rcases fU.1 q with q|q;exact aK q;exact aH q)),sB,aZ aK]
 have Ab:∀g,g≠f->eX.bw.get g=H.bw.get g:=fun g q=>by rw[qq,aZ q,v2,bU]
 have kU:eX.ay=H.ay:=by rw[s2,v1,u1]
 refine⟨f,H1,eX,f2,aw,?_,⟨cv.Rt jI cf,by rw[k6,v4,Be];exact h.bz,by rw[kU];exact h.ay,by rw[fQ,HD,tV];exact h.cn,fun x U dr=>?_,fun g ax=>?_,fun x c bC aY=>?_,h.le,h.fresh,fun x b ai=>?_,fun x b ai y au=>?_,?_⟩⟩
 ·unfold yD
  rw[bU,f3];simp only[aR,cf]
 ·rw[Al x (fun q=>by subst q;rcases aQ with q|q;·omega
                     ·exact dr q) (fun q=>by rcases(h.opn a _ (.head _) x q).2.1 with r|r;·omega
                                             ·exact dr r)]
  exact h.fF x U dr
 ·rw[Ab g (fun q=>ax (by rw[q];exact f1))];exact h.mM g ax
 ·obtain⟨o,f',iR,s,q⟩:=h.ed x c bC aY
  exact⟨o,f',iR,s,by rw[Al x (fun r=>by subst r;rw[bj] at aY;cases aY) (fun r=>by have:=(h.opn a _ (.head _) x r).2.2;rw[this] at aY;cases aY)];exact q⟩
 ·rcases fU.1 ai with q|q
  ·injection q with aK aH;subst aK;subst aH
   exact⟨⟨f,f1,aiX,by rw[qq,a2 rfl]⟩,aQ,bj,ct⟩
  ·obtain⟨dL,du,js,lv⟩:=h.own x b (.tail _ q)
   have Au:x∈ids m:=yB q;refine⟨?_,du,js,lv⟩;refine dw.vP dL (Al x (fun r=>nj (.inr (r▸Au))) (fun r=>OA _ r _ Au rfl)) fun g r ax=>?_;rw[Ab g (fun dj=>by
        subst dj;rw[f3] at ax;injection ax with ax;injection ax with ax
        exact nj (.inr (ax▸Au)))]
   exact ax
 ·rcases fU.1 ai with q|q
  ·injection q with aK aH;subst aK;subst aH;cases au
  ·rw[kU];exact h.opn x b (.tail _ q) y au
 ·show(a::([]++ids m)).Nodup
  rw[kE,sN];exact⟨fun q=>nj (.inr q),JS⟩
end
section
variable {K:dy}{B:c5}{o:Oper}{n:Nat}{ds:dJ}{l:List (Nat×Value)}{m m':aO}{J:af}{e7:b0->aO->af->Prop}{d:Nat}
theorem al9{g0:Nat}{H:an}(av:Inv g0 B J m H){a:Nat}(h:g0<=a):Nat.blt a H.bz=false:=by
 cases q:Nat.blt a H.bz
 ·rfl
 ·have:a<H.bz:=by simpa[Nat.blt,vK] using q
  have:=av.bz;omega
theorem LD{t:TypeId}{x y:Operand}{a off k z:Nat}{v:Value}{vs cells cells':List Value}{e:TypeId}{rest:List Nat}{fH:aO}(ah:o.op=.store t x y)(al:o.dst=none)(U:bx l x=some (.pointer (some ⟨a,off,none⟩)))(au:bx l y=some v)(hk:ey K.P t=some k)(aD:v.cells.toList=vs)(ap:Nat.beq vs.length k=true)(aN:Nat.blt 0 vs.length=true)(ab:vs.all eV=true)(hs:gf off cells vs=some cells')(aG:z<=off)(ao:m.Perm ((a,.opn cells e rest z)::fH))(h:e7 ⟨n,ds,l⟩ ((a,.opn cells' e [] z)::fH) J):jR K B o ⟨n,ds,l⟩ m J e7:=by
 refine jR.skip al fun S H aj av=>?_;have av:=av.perm ao;obtain⟨f,H1,bK,aw,aR,cf,dK⟩:=av.kill cells' z;obtain⟨aU,aQ,bj,ct⟩:=av.own _ _ (.head _);refine⟨bK,_,J,fun call aE=>?_,dK,h⟩;unfold cj eF;simp only[ah];show Dw K.P _ t (a1 S.T H x) (a1 S.T H y)=_;rw[c6 aj H U,c6 aj H au];show Js (zV K.P H t (.pointer (some ⟨a,off,none⟩)) v)=_;unfold zV;simp only[hk,aD,ap,b4];unfold rT;cases vs with
 |nil=>cases aN
 |cons v0 vs=>
  simp only
  rw[al9 av ct,da,aw];simp only[show Nat.ble z off=true from lH aG,Su,ab,b4,hs,aR,cf];rfl
theorem HE{c:Call}{x y:Operand}{k:IntKind}{a b:Int}(ah:o.op=.call c)(aD:c.callee=.builtin .max)(hZ:c.args.toList=[x,y])(U:bx l x=some (.int k a))(au:bx l y=some (.int k b)):cO K B o n ds l m J (.int k (max a b)):=by
 intro call aE S H aj av;rw[zS ah aD];have nf:c.args=#[x,y]:=by rw[<-Ss];exact hZ
 have:fl K.P S.T H o=some (.val (.int k (max a b)) H):=by
  refine qn aj ?_ U au rfl rfl ?_ rfl
  ·rw[ah];show(Call.operands c).toList=_;simp[Call.operands,aD,nf]
  ·unfold execOp;simp only[ah];have aq:e0 K.P (resolve (px S.T H) c o.type)=some {target:=.builtin .max c.argTypes o.type (c.args.map fun|.const _=>true|_=>false),args:=#[.int k a,.int k b]}:=by
    unfold resolve;simp only[aD,nf];show some _=some _;simp[hN aj H U,hN aj H au];exact⟨by cases x<;>rfl,by cases y<;>rfl⟩
   rw[gM aq];show e0 K.P ((Builtin.max_ c.argTypes o.type #[.int k a,.int k b]) >>= fun v=>pure (Next.value v))=_;have:e0 K.P (Builtin.max_ c.argTypes o.type #[.int k a,.int k b])=some (.int k (max a b)):=by
    show some (Value.int k (if b>a then b else a))=_;congr 2
    split<;>omega
   rw[gM this];rfl
 unfold pY;rw[m6 aj H (vs:=[.int k a,.int k b]) (by rw[hZ];simp only[hC,U,au])];exact this
def ac3(b:UInt8):Value:=.int .u8 b.toNat
theorem nG.str{g0:Nat}{s:List UInt8}:nG g0 B J m 1 (.string ⟨⟨s⟩⟩) s.length (s.map ac3):=by
 intro H av;refine⟨rfl,?_⟩;show(match takeN s.length s with|some l=>some (l.map fun b:UInt8=>Value.int .u8 b.toNat)|none=>none)=_
 rw[xx (bF _),sO];rfl
theorem t'{c:Call}{t iD e:TypeId}{sz k j:Nat}{zs cells new:List Value}{v x:Value}{a8 fH:aO}{eM:TypeDesc}(ah:o.op=.call c)(aD:c.callee=.builtin .append)(al:o.dst=some d)(az:Nat.blt d n=true)(aF:hC l c.args.toList=some [v,x])(p9:c.argTypes.toList=[t,iD])(aJ:mr K.P t=some (e,sz,zs))(lP:K.P.underlying iD=some eM)(yu:∀i,eM≠.int i)
 (ar:Acc e sz v k cells a8)(hm:m.Perm (a8++fH))(U:nG K.g0 B J m sz x j new)(dE:new.length=j*sz)(dQ:new.all eV=true)(ap:k+j<=1000000)
 (h:∀w lV,Acc e sz w (k+j) (cells++new) lV->(iR a8->iR lV)/\(tH a8->tH lV)->e7 ⟨n,ds,(d,w)::l⟩ (lV++fH) J):jR K B o ⟨n,ds,l⟩ m J e7:=fun S H aj av=>
 aru ah aD al az aF p9 aJ lP yu ar rfl (U.perm hm) dE dQ ap h S H aj (av.perm hm)
theorem ZT{α:Type}{f:α->Value}{L:List α}{i:Nat}{x:α}(h:i<L.length):gf i (L.map f) [f x]=some ((L.set i x).map f):=by
 rw[Hu _ _ _ (by rw[eP,zl];omega)];congr 1
 rw[Ii,abD,a2 (by rw[eP];exact h)];simp
theorem arO{v:Value}{k:Nat}:fp [v] k=List.replicate k v:=by
 show Sl v k=_;induction k with
 |zero=>rfl
 |succ k aP=>show v::Sl v k=_;rw[aP];rfl
end
section
variable {K:dy}{B:c5}{ops:List Oper}{aX:List iG}{F:List (FuncId×List Value)}{E:b0}{m m':aO}{J:af}{o:Oper}{ba:b0->aO->af->Prop}
variable {n:Nat}{ds:dJ}{l:List (Nat×Value)}{d i:Nat}
theorem cm.makeSlice{t e:TypeId}{x y:Operand}{sz:Nat}{zs:List Value}{p q:Int}{qh Db:IntKind}(ak:nth ops i=some o)(ax:o.guard=none)(ah:o.op=.makeSlice t x y)(al:o.dst=some d)(az:Nat.blt d n=true)(U:bx l x=some (.int qh p))(au:bx l y=some (.int Db q))(aJ:mr K.P t=some (e,sz,zs))(aN:0<=p)(ab:p<=q)(ad:q<=1000000)
 (h:∀a,cm K B ops aX F ⟨n,ds,(d,.slice (some ⟨a,0,none⟩) p.toNat q.toNat)::l⟩ ((a,.row (fp zs q.toNat) e)::m) J ba):cm K B ops (.ir i::aX) F ⟨n,ds,l⟩ m J ba:=by
 obtain⟨hu,dF,iL,z,hF,aG,bs,rfl,bM,cB,ep⟩:=sw aJ;refine cm.ir (b:=.row (fp z.cells.toList q.toNat) e false 0 0 false) (p:=.row (fp z.cells.toList q.toNat) e) (ei:=.A7 p.toNat q.toNat) ak ax al az (fun S aj=>?_) (fun H a q=>q) (fun c e r z q=>by cases q) h;rw[ah];simp only[m2];rw[Q3 aj U,Q3 aj au];simp only[Ep,hu,aG,hF,dF];rw[Gm (by omega) (by omega),Gm (by omega) (by omega)];simp only[bs,cB,ep,HZ];rw[show Nat.beq z.cells.toList.length sz=true by rw[bM];exact hd _,show Nat.ble p.toNat q.toNat=true from lH (by omega)];simp only[HZ,b4]
theorem cm.ed{a:Nat}{b:dw}{x:List Value×TypeId}(U:b.rowOf=some x)(h:J.le (J.add a x)->(J.add a x) a=some x->cm K B ops aX F E m (J.add a x) ba):cm K B ops aX F E ((a,b)::m) J ba:=by
 intro S H aj av;obtain⟨aU,aQ⟩:=av.hy U;exact h aQ (af.gC _ _ _) S H aj aU
theorem cm.mN(ao:m.Perm m')(h:cm K B ops aX F E m' J ba):cm K B ops aX F E m J ba:=fun S H aj av=>h S H aj (av.perm ao)
end
end
end Go.Opn
