/- A part of the proof of TableMetric. -/
import Derived.Test.YtmmfodofkbmfnaaGreatDoorCaw
import Derived.ChangeArms
import Derived.DataReads
import Derived.Carry
import Derived.ChangeSame
import Derived.OpenShut
import Derived.Test.YtmmfodofkbmfnaaGreatDoorProg
import Derived.KernelRfl
import Derived.Test.YtmmfodofkbmfnaaGreatDoorCav
set_option linter.unusedVariables false
set_option linter.unusedSimpArgs false
namespace Go.Opn
noncomputable section
open Go.Cre Go.RowKit
def x3 (hp off cap sz:Nat)(a b:Int):Value:=
 if cap=cf then .slice (some ⟨hp,off+a.toNat*sz,none⟩) (b -a).toNat cf
 else if cap=a.toNat then .slice (some ⟨hp,off,none⟩) (b -a).toNat (cap -a.toNat)
 else .slice (some ⟨hp,off+a.toNat*sz,none⟩) (b -a).toNat (cap -a.toNat)
section
variable {K:di}{B:c6}{o:Oper}{n:Nat}{ds:dL}{l:List (Nat×Value)}{m m':aU}{J:an}{dS:bK->aU->an->Prop}{d:Nat}
theorem QB{e:TypeId}{hp off k cap sz:Nat}{cs:List Value}{a b:Int}(aD:ew J e sz (.slice (some ⟨hp,off,none⟩) k cap) k cs)(hk:0<k)(a2:0<=a)(U:a<=b)(ab:b<=k):
 ew J e sz (x3 hp off cap sz a b) (b -a).toNat ((cs.drop (a.toNat*sz)).take ((b -a).toNat*sz)):=by
 generalize tX:k=Vl at aD;have qR:=aD;cases aD with
 |hy a off cap h=>exact absurd hk (by omega)
 |@row hp off k cap cells cs bl cJ cW eE hD oQ=>
  subst tX;have hlen:k*sz<=(cells.drop off).length:=by
   have:((cells.drop off).take (k*sz)).length=k*sz:=by rw[cW];exact eE
   rw[hQ] at this;omega
  have hle:a.toNat*sz+(b -a).toNat*sz<=k*sz:=by
   rw[<-hH];exact kf _ (by omega)
  have hK:(cells.drop (off+a.toNat*sz)).take ((b -a).toNat*sz)=(cs.drop (a.toNat*sz)).take ((b -a).toNat*sz):=by
   rw[<-cW,C9,rE,xv,h5 (by omega)]
  have jH:((cs.drop (a.toNat*sz)).take ((b -a).toNat*sz)).length=(b -a).toNat*sz:=by
   rw[hQ,qa,eE];omega
  unfold x3;split
  ·exact .row cJ hK jH (fun q=>absurd rfl q) (fun _=>oQ (by assumption))
  ·rename_i aF;split
   ·have fC:(b -a).toNat=0:=by have:=(hD aF).1;omega
    have:(cs.drop (a.toNat*sz)).take ((b -a).toNat*sz)=[]:=by rw[fC];simp
    rw[this,fC];exact .hy _ _ _ (by have:=(hD aF).2;omega)
   ·refine .row cJ hK jH (fun _=>⟨by have:=(hD aF).1;omega,by have:=(hD aF).2;omega⟩) (fun q=>?_);have:=(hD aF).2;omega
theorem ZT{t e:TypeId}{x:Operand}{fR aq:Option Operand}{w:Value}{hp off cap k sz:Nat}{fc cs:List Value}{a b:Int}(ae:o.op=.slice t x fR aq none)(j:bB l x=some (.slice (some ⟨hp,off,none⟩) k cap))(aG:jd K.P t=some (e,sz,fc))(aD:ew J e sz (.slice (some ⟨hp,off,none⟩) k cap) k cs)(hk:0<k)(g4:rR l 0 fR=some a)(iX:rR l k aq=some b)(a2:0<=a)(U:a<=b)(ab:b<=k)(hw:x3 hp off cap sz a b=w):ch K B o n ds l m J w:=by
 obtain⟨hu,de,fG,z,fQ,a0,bV,rfl,b7,c5,dM⟩:=ri aG;intro call az S H al au;subst hw;generalize tX:k=Vl at aD;cases aD with
 |hy a off cap h=>exact absurd hk (by omega)
 |@row hp off k cap cells cs bl cJ cW eE hD oQ=>
  subst tX;obtain⟨ol,Gw,uy⟩:=tm (hx:=0) (top:=b.toNat) al H g4 a2 (by omega) rfl;have fo:∀w,iI K.P H t (.slice (some ⟨hp,off,none⟩) k cap) ol (match gA S.T H aq with|some x=>x|none=>none)=some w->cc K.P call az S H o=some (.val w H):=fun w hw=>by
   unfold cc eh;simp only[ae];show kv K.P _ t (aR S.T H x) (gA S.T H fR) (gA S.T H aq)=_;rw[cX al H j,Gw];rcases DC al H iX with⟨_,_,q⟩|⟨_,_,_,_,q⟩
   ·rw[q] at hw ⊢;unfold kv;simp only;rw[show iI K.P H t (.slice (some ⟨hp,off,none⟩) k cap) ol none=some w from hw];rfl
   ·rw[q] at hw ⊢;unfold kv;simp only;rw[show iI K.P H t (.slice (some ⟨hp,off,none⟩) k cap) ol _=some w from hw];rfl
  have aA:(b -a).toNat=b.toNat -a.toNat:=by omega
  obtain⟨Gx,of,Xk,os,bY⟩:=au.dv _ _ _ cJ;refine fo _ ?_;unfold x3;by_cases aF:cap=cf
  ·subst aF;obtain⟨zE,oI,oJ⟩:=tm (hx:=k) (top:=k) al H iX (by omega) (by omega) rfl;rw[bs rfl,oI];unfold iI;simp only[hu,de,ga,bH,bY,oQ rfl,oJ,uy,kB,cZ];rw[aA];rfl
  ·obtain⟨zE,oI,oJ⟩:=tm (hx:=k) (top:=cap) al H iX (by omega) (by have:=(hD aF).1;omega) rfl;have yD:Nat.beq cap cf=false:=by
    cases q:Nat.beq cap cf
    ·rfl
    ·exact absurd (dB q) aF
   rw[a1 aF];by_cases om:cap=a.toNat
   ·rw[bs om,oI];unfold iI;simp only[hu,de,yD,cZ,oJ,uy];rw[show Nat.beq cap a.toNat=true by rw[om];exact ga _,bH,aA];rfl
   ·rw[a1 om,oI];unfold iI;simp only[hu,de,yD,cZ,oJ,uy];have:Nat.beq cap a.toNat=false:=by
     cases q:Nat.beq cap a.toNat
     ·rfl
     ·exact absurd (dB q) om
    rw[this,cZ,aA];rfl
theorem Acc.JB{e:TypeId}{sz k:Nat}{v:Value}{cells:List Value}{bq:aU}(h:Acc e sz v k cells bq):∃b c,v=.slice b k c/\addrEq b b=true:=by
 cases h with
 |nil=>exact⟨_,_,rfl,rfl⟩
 |hy a=>exact⟨_,_,rfl,by simp[addrEq]⟩
 |opn h=>exact⟨_,_,rfl,by simp[addrEq]⟩
 |cap=>exact⟨_,_,rfl,by simp[addrEq]⟩
end
end
end Go.Opn
namespace Go.Opn
noncomputable section
open Go.Cre Go.RowKit Go.ChangeShapes
theorem Iu{b off i:Nat}{sp:Option Nat}(h:sp=none):(⟨b,off,sp⟩:Addr).add i=⟨b,off+i,none⟩:=by
 subst h;unfold Addr.add;split
 ·rename_i q;subst q;rfl
 ·rfl
theorem DM{W:World}{base k:Nat}{a:Addr}{cs:List Value}(h:W.cells? base a k=some cs)(hk:0<k):∃c e f,W.heap[a.block]?=some (.cells c e f)/\a.spot=none/\cs.length=k/\∀aa,aa<k->c[a.off+aa]?=cs[aa]?:=by
 obtain⟨_,ab,aV⟩:=World.cells?_some h;obtain⟨b,off,sp⟩:=a;have a2:=aV 0 hk;have j6:∃v,cs[0]?=some v:=⟨cs[0]'(by omega),fx _⟩;obtain⟨ig,UE⟩:=j6;have h7:(⟨b,off,sp⟩:Addr).add 0=⟨b,off,sp⟩:=rfl;rw[h7,UE] at a2;unfold World.cell? at a2;cases cF:W.heap[b]? with
 |none=>rw[show(⟨b,off,sp⟩:Addr).block=b from rfl,cF] at a2;cases a2
 |some o=>
  rw[show(⟨b,off,sp⟩:Addr).block=b from rfl,cF] at a2;cases o with
  |cells c e f=>
   simp only at a2;cases sp with
   |some s=>simp at a2
   |none=>
    refine⟨c,e,f,by first|rfl|exact cF,rfl,ab,fun aa aX=>?_⟩;have:=aV aa aX;rw[Iu rfl] at this;unfold World.cell? at this;rw[show(⟨b,off+aa,none⟩:Addr).block=b from rfl,cF] at this;simpa using this
  |_=>cases a2
section
variable {H:Type}{enc:TypeId×Value->H}{P:Program}{W:World}{fuel:Nat}{t e:TypeId}{cs:List Value}{x:DataW H×List MemPlace}
abbrev w9(enc:TypeId×Value->H)(P:Program)(W:World):=DataW.trod enc P W 0 (fun _=>true) true
theorem Nf{sz:Nat}(aG:P.underlying t=some (.slice e))(de:P.cellsOf e=sz)(a2:0<sz)(h:w9 enc P W fuel t cs=some x):
 ∃(b:Option Addr) (n c:Nat) (rows:List Value) (el:List (List Value)) (ds:List (DataW H×List MemPlace)) (m:Nat),cs.map (jz P W)=[.slice b n c]/\cs.length=1/\(∀bl,ew (pF P W) bl sz (.slice b n c) n (rows.map (jz P W)))/\el.length=n/\ds.length=n/\
  (∀i cb,el[i]?=some cb->cb.length=sz/\(rows.drop (i*sz)).take sz=cb/\∃y,ds[i]?=some y/\w9 enc P W m e cb=some y)/\
  (∀y∈ds,∀z∈y.1.weights P e,z∈x.1.weights P t)/\n<=maxLen:=by
 rcases DataW.trod_slice aG h with⟨rfl,rfl⟩|⟨a,len,cap,rX,rest,n,rfl,rfl,rfl,U,ab,aV,br,gq,hW,vK⟩
 ·exact⟨none,0,0,[],[],[],0,by rw[s9,AI rfl];rfl,rfl,fun bl=>.nil,rfl,rfl,(fun i cb q=>by simp at q),(fun y aC=>by cases aC),fj _⟩
 ·have lN:cap<cf:=hn aV (by unfold maxLen cf;decide);have hw:∀y∈rX,∀z∈y.1.weights P e,z∈(DataW.slice (rX.map (·.1)) (rest.map (·.1)):DataW H).weights P t:=fun y aC z a0=>by
   rw[DataW.weights,aG];refine OP _ (rC _ ?_);have:∀l:List (DataW H×List MemPlace),y∈l->z∈DataW.weightsAll P e (l.map (·.1)):=fun l=>by
    induction l with
    |nil=>intro q;cases q
    |cons d r aN=>
     intro q;rw[s9,DataW.weightsAll];rcases fy.1 q with rfl|q
     ·exact rC _ a0
     ·exact eU _ (aN q)
   exact this rX aC
  have vW:∀i,i<len->∃cb y,W.cells? 0 (a.add (i*sz)) sz=some cb/\rX[i]?=some y/\w9 enc P W n e cb=some y:=fun i aq=>by
   have Es:=gq i aq;rw[de] at Es;have iJ:i<rX.length:=by omega
   rw[fx iJ] at Es;obtain⟨cb,aQ,aP⟩:=O1.1 Es;exact⟨cb,_,aQ,fx iJ,aP⟩
  by_cases aw:len=0
  ·subst aw;have TD:rX=[]:=s8.1 br;subst TD;by_cases ap:a.spot=none/\(rowOf W a.block).isSome
   ·refine⟨some a,0,cap,[],[],[],n,?_,rfl,fun bl=>?_,rfl,rfl,(fun i cb q=>by simp at q),hw,fj _⟩
    ·show[jz P W _]=_;unfold jz;simp only;rw[bs ⟨ap.1,ap.2,lN⟩]
    ·obtain⟨b,off,sp⟩:=a;obtain⟨rfl,_⟩:=ap;exact .hy _ _ _ lN
   ·have j6:cap=0:=by
     apply Oy;intro aF
     obtain⟨cJ,cW⟩:=hW rfl;have aX:=cW 0 (by omega);rw[de] at aX;have SE:0<rest.length:=by omega
     rw[fx SE] at aX;obtain⟨cb,aQ,aP⟩:=O1.1 aX;have h7:a.add ((0+0)*sz)=a:=by simp[Addr.add]
     rw[h7] at aQ;obtain⟨c,bl,f,b4,b0,_⟩:=DM aQ a2;exact ap ⟨b0,by rw[GL b4];rfl⟩
    subst j6;refine⟨some ⟨0,0,some 0⟩,0,0,[],[],[],n,?_,rfl,fun bl=>.rY,rfl,rfl,(fun i cb q=>by simp at q),hw,fj _⟩;show[jz P W _]=_;unfold jz;simp only;rw[a1 (fun q=>ap ⟨q.1,q.2.1⟩),bs (by simp)]
  ·obtain⟨hT,oV,aQ,aP,bC⟩:=vW 0 (by omega);have h7:a.add (0*sz)=a:=by simp[Addr.add]
   rw[h7] at aQ;obtain⟨c,bl,f,b4,b0,cI,eM⟩:=DM aQ a2;obtain⟨b,off,sp⟩:=a;have b0:sp=none:=b0;subst b0;have b4:W.heap[b]?=some (.cells c bl f):=b4;have jK:=GL b4;have Kf:∀i,i<len->∃cb y,rX[i]?=some y/\w9 enc P W n e cb=some y/\cb.length=sz/\∀aa,aa<sz->c.toList[off+(i*sz+aa)]?=cb[aa]?:=fun i aq=>by
    obtain⟨cb,y,a8,a5,bI⟩:=vW i aq;rw[Iu rfl] at a8;obtain⟨bo,Jg,cd,cM,_,mN,oF⟩:=DM a8 a2;have cM:W.heap[b]?=some (.cells bo Jg cd):=cM;rw[b4] at cM;injection cM with cM;injection cM with cM _ _
    subst cM;exact⟨cb,y,a5,bI,mN,fun aa aX=>by have:=oF aa aX;rw[show off+(i*sz+aa)=off+i*sz+aa by omega];simpa using this⟩
   have hlen:off+len*sz<=c.toList.length:=by
    obtain⟨cb,y,_,_,bI,cL⟩:=Kf (len -1) (by omega);have:=cL (sz -1) (by omega);rw[fx (show sz -1<cb.length by omega)] at this;have abq:off+((len -1)*sz+(sz -1))<c.toList.length:=by
     rcases gX (off+((len -1)*sz+(sz -1))) c.toList.length with q|q
     ·exact q
     ·rw[s7 q] at this;cases this
    have:len*sz=(len -1)*sz+sz:=by
     rw[<-xE];congr 1;omega
    omega
   refine⟨some ⟨b,off,none⟩,len,cap,(c.toList.drop off).take (len*sz),(List.range len).map fun i=>(c.toList.drop (off+i*sz)).take sz,rX,n,?_,rfl,fun Jg=>?_,by simp,br,fun i cb aq=>?_,hw,ej ab aV⟩
   ·show[jz P W _]=_;unfold jz;simp only;rw[bs (by simp only[true_and];exact⟨by rw[jK];rfl,lN⟩)]
   ·refine .row (CC jK) (by rw[<-List.map_drop,<-xy]) ?_ (fun _=>⟨ab,lN⟩) (fun q=>by omega);rw[jw,hQ,qa];omega
   ·rw[mg] at aq;have E2:i<len:=by
     rcases gX i len with q|q
     ·exact q
     ·rw[s7 (by simpa using q)] at aq;cases aq
    rw[List.getElem?_range E2] at aq;simp only[AF,bL] at aq;obtain⟨A0,y,a8,a5,bI,cL⟩:=Kf i E2;have hle:i*sz+sz<=len*sz:=by rw[<-xE];exact kf _ E2
    have hK:(c.toList.drop (off+i*sz)).take sz=A0:=by
     refine List.ext_getElem? fun aa=>?_;rw[kX];split
     ·rename_i aX;rw[vb,<-cL aa aX];congr 1;omega
     ·rw[s7 (by omega)]
    rw[hK] at aq;subst aq;refine⟨bI,?_,y,a8,a5⟩;rw[<-hK,C9,xv,rE,h5 (by omega)]
theorem U'(aG:P.underlying t=some (.slice e))(he:P.underlying e=some (.int .i64))(de:P.cellsOf e=1)(h:w9 enc P W fuel t cs=some x):
 ∃(l:List Int) (b:Option Addr) (c:Nat),cs.map (jz P W)=[.slice b l.length c]/\∀bl,ew (pF P W) bl 1 (.slice b l.length c) l.length (l.map (Value.int .i64)):=by
 obtain⟨b,n,c,rows,el,ds,m,U,ab,aV,br,gq,hW,_,_⟩:=Nf aG de (by omega) h;have hlen:rows.length=n:=by have:=(aV 0).len;simpa using this
 have hint:∀v∈rows,∃i:Int,v=.int .i64 i:=fun v aD=>by
  obtain⟨aa,aX⟩:=List.getElem?_of_mem aD;have abO:aa<n:=by have:=(h4.1 aX).1;omega
  obtain⟨aQ,aP,y,bC,dp⟩:=hW aa _ (fx (show aa<el.length by omega));obtain⟨i,cJ,_⟩:=DataW.trod_int he dp;rw[cJ] at aP;rw[iE] at aP;have:((rows.drop aa).take 1)[0]?=some v:=by rw[kX,bs (by omega),vb,n0];exact aX
  rw[aP] at this;injection this with this
  exact⟨i,this.symm⟩
 have aw:∃l:List Int,rows=l.map (Value.int .i64):=by
  clear aV hW hlen
  induction rows with
  |nil=>exact⟨[],rfl⟩
  |cons v r aN=>
   obtain⟨i,aq⟩:=hint v (.head _);obtain⟨l,aw⟩:=aN (fun v aD=>hint v (.tail _ aD));exact⟨i::l,by rw[aq,aw];rfl⟩
 obtain⟨l,rfl⟩:=aw;have mF:n=l.length:=by simpa using hlen.symm
 subst mF;refine⟨l,b,c,U,fun bl=>?_⟩;have:=aV bl;have aA:(l.map (Value.int .i64)).map (jz P W)=l.map (Value.int .i64):=by
  rw[List.map_map];exact List.map_congr_left fun i _=>AI rfl
 rwa [aA] at this
theorem U8(aG:P.underlying t=some (.int .i64))(h:w9 enc P W fuel t cs=some x):∃i:Int,cs=[.int .i64 i]/\cs.map (jz P W)=[.int .i64 i]:=by
 obtain⟨i,rfl,_⟩:=DataW.trod_int aG h;exact⟨i,rfl,by rw[s9,AI rfl];rfl⟩
end
end
end Go.Opn
namespace Go.Opn
noncomputable section
open Go.Cre Go.RowKit Go.ChangeShapes Go.WideShapes
def oE {α:Type}:List (Nat×α)->Nat->Option α
 |[],_=>none
 |(u,v)::l,t=>bif Nat.beq t u then some v else oE l t
def wH:Nat->List Nat->Bool
 |_,[]=>false
 |t,u::l=>bif Nat.beq t u then true else wH t l
theorem NE{H:Type}{enc:TypeId×Value->H}{P:Program}{W qi:World}(aw:laidOutB P=true)(af:Below W.heap.size W qi){sp:Nat->Bool}:
 ∀{ft:List TypeId} {vs:List Value} {ds:List (DataW H)} {ps:List MemPlace},(∀t∈ft,P.readableRec t=true/\t<P.types.size)->DataW.TrodAll enc P W 0 (fun _=>true) true ft vs ds ps->(∀p∈ps,p.block<W.heap.size)->(∀p∈ps,sp p.block=true)->DataW.TrodAll enc P qi 0 sp true ft vs ds ps
 |[],_,_,_,_,h,_,_=>by
  obtain⟨rfl,rfl,rfl⟩:=trodAll_nil h;rfl
 |t::ft,_,_,_,ap,h,cx,ag=>by
  obtain⟨v,Z3,d,ph,a,b,rfl,rfl,rfl,U,ab⟩:=trodAll_cons h
  exact⟨a,b,WideElems.Trod_stays aw (ap t (.head _)).1 (ap t (.head _)).2 U (fun x j=>af.same (cx x (rC _ j))) (fun x j=>ag x (rC _ j)),
   NE aw af (fun u hu=>ap u (.tail _ hu)) ab (fun p ao=>cx p (eU _ ao)) (fun p ao=>ag p (eU _ ao)),rfl⟩
theorem Xy{H:Type}{enc:TypeId×Value->H}{P:Program}{f:Func}{s:ChangeSpec}{apart fresh handsOn:Bool}{W qi:World}{args:Array Value}{v:Value}{ds gs:List (DataW H)}{before:List MemPlace}
 (oh:DataW.Whole enc P f.params.toList s.vars apart W args.toList ds gs before)(af:Below W.heap.size W qi)(aw:laidOutB P=true)(Uk:∀t∈f.params.toList,P.readableRec t=true/\t<P.types.size)(aD:s.vars=[])
 (k8:(s.fn H (ds++gs)).args=ds)(K4:(s.fn H (ds++gs)).vars=[])
 (Fq:∀(b:Nat) (sp:Nat->Bool) (ax:Bool),DataW.TrodAll enc P qi b sp ax f.resultTypes.toList (v.resultList f.resultTypes.size) (s.fn H (ds++gs)).results []):
 s.post enc P f apart fresh handsOn false W args v qi:=by
 have cx:=oh.lt;obtain⟨p,q,U,ab,rfl,aV,br⟩:=id oh;have KA:∀x∈p,x.block<W.heap.size:=fun x j=>cx x (rC _ j);refine⟨ds,gs,p++q,[],p,[],oh,Fq _ _ _,?_,?_,World.keptBut_mono (fun p ao=>by cases ao) (af.frame fun p=>p∈([]:List MemPlace)),fun h=>by cases h⟩
 ·rw[k8];exact NE aw af Uk U KA (fun x j=>by simpa using KA x j)
 ·rw[aD,K4];rfl
end
end Go.Opn
set_option maxRecDepth 100000
namespace Go.Opn
noncomputable section
open Go.Cre Go.RowKit Go.Proofs
theorem nD:Tryz.prog.follows .mixedOrders=true:=by kernel_rfl
theorem num:Gq Tryz.prog=true:=by kernel_rfl
abbrev gY:Program:=Tryz.prog
abbrev aS (Q:eF Tryz.prog)(g0:Nat):di:=⟨Tryz.prog,vE Tryz.prog,Mz nD num,Q,g0⟩
section
variable (Q:eF gY)(g0:Nat)
def Dp:List (Nat×Option Nat):=[(3,none),(4,none),(5,none),(22,none),(30,none),(32,some 3),(33,none),(53,none),(55,some 3),(61,none),(92,none),(165,none)]
theorem Pg:Dp.map (fun x=>m8 gY x.1)=Dp.map (fun x=>some (id x.2)):=by kernel_rfl
def G3:List (Nat×Nat):=[(3,1),(4,1),(32,3),(33,1),(55,3),(61,1),(80,1),(92,1)]
theorem Y9:G3.map (fun x=>dD gY x.1)=G3.map (fun x=>some (id x.2)):=by kernel_rfl
def Ed:List (Nat×Nat):=[(2500,0),(2501,1),(3200,0),(3201,1),(3202,2),(5500,0),(5501,1),(5502,2),(8000,0)]
theorem R7:Ed.map (fun x=>vD gY (x.1 / 100) (x.1 % 100))=Ed.map (fun x=>some (id x.2)):=by kernel_rfl
def Ef:List (Nat×(Nat×Nat)):=[]
theorem Sg:Ef.map (fun x=>yf gY (x.1 / 100) (x.1 % 100))=Ef.map (fun x=>some (id x.2)):=by kernel_rfl
def Dv:List (Nat×(Nat×Nat×Nat)):=[(176,64,5,1)]
theorem Pr:Dv.map (fun x=>rP gY x.1)=Dv.map (fun x=>some (id x.2)):=by kernel_rfl
def DX:List (Nat×Nat):=[(22,1),(27,3),(29,1),(30,1),(49,3),(53,1),(63,3)]
theorem Ro:DX.map (fun x=>vv gY x.1)=DX.map (fun x=>some (id x.2)):=by kernel_rfl
def DS:List (Nat×IntKind):=[(30061,.u32),(30092,.u64),(30163,.u64),(50003,.i64),(610003,.i64),(610092,.u64),(920061,.u32)]
theorem QC:DS.map (fun x=>isInt gY (x.1 / 10000) (x.1 % 10000))=DS.map (fun x=>some (id x.2)):=by kernel_rfl
def DD:List (Nat×(Sum (List (Nat×Nat)) Nat×List Value)):=[(25,.inl [(0,1),(1,1)],[(.slice none 0 0),(.int .i64 (0))]),(32,.inl [(0,1),(1,1),(2,1)],[(.bool false),(.slice none 0 0),(.slice none 0 0)]),(55,.inl [(0,1),(1,1),(2,1)],[(.bool false),(.slice none 0 0),(.slice none 0 0)]),(80,.inl [(0,1)],[(.int .i64 (0))])]
theorem PG:DD.map (fun x=>xR gY x.1)=DD.map (fun x=>some (id x.2)):=by kernel_rfl
def Lg:List Nat:=[22,27,29,30,49,53,63]
theorem isOk:Lg.all (fun t=>isSlice gY t)=true:=by kernel_rfl
def Lh:List Nat:=[]
theorem Ve:Lh.all (fun t=>pE gY t)=true:=by kernel_rfl
def L8:List Nat:=[80]
theorem Wm:L8.all (fun t=>zz gY t)=true:=by kernel_rfl
theorem kT:fw (aS Q g0).P 32=some (.agg #[(.bool false),(.slice none 0 0),(.slice none 0 0)]):=by kernel_rfl
theorem aar:fw (aS Q g0).P 33=some (.int .i64 (0)):=by kernel_rfl
theorem ly:fw (aS Q g0).P 55=some (.agg #[(.bool false),(.slice none 0 0),(.slice none 0 0)]):=by kernel_rfl
theorem M4:jd (aS Q g0).P 22=some (3,1,[(.int .i64 (0))]):=by kernel_rfl
theorem GR:jd (aS Q g0).P 27=some (32,3,[(.bool false),(.slice none 0 0),(.slice none 0 0)]):=by kernel_rfl
theorem iQ:jd (aS Q g0).P 30=some (61,1,[(.int .u32 (0))]):=by kernel_rfl
theorem Yl:jd (aS Q g0).P 49=some (55,3,[(.bool false),(.slice none 0 0),(.slice none 0 0)]):=by kernel_rfl
theorem jQ:jd (aS Q g0).P 53=some (92,1,[(.int .u64 (0))]):=by kernel_rfl
theorem Zq:(aS Q g0).P.underlying 22=some (.slice 3):=by kernel_rfl
theorem Zr:(aS Q g0).P.underlying 27=some (.slice 32):=by kernel_rfl
theorem uT:(aS Q g0).P.underlying 30=some (.slice 61):=by kernel_rfl
theorem G9:(aS Q g0).P.underlying 53=some (.slice 92):=by kernel_rfl
theorem U2:isIface (aS Q g0).P 20=true:=by kernel_rfl
end
end
end Go.Opn
namespace Go.Opn
noncomputable section
open Go.Cre Go.RowKit
section
variable {K:di}{B:c6}{o:Oper}{n:Nat}{ds:dL}{l:List (Nat×Value)}{m m':aU}{J:an}{dS:bK->aU->an->Prop}{d:Nat}
def vq (k:IntKind)(a b:Int):BinOp->Option Value
 |.quo=>some (.int k (k.wrap (a.tdiv b)))
 |.rem=>some (.int k (a.tmod b))
 |_=>none
theorem Zy{op:BinOp}{t dq:TypeId}{x y:Operand}{k:IntKind}{a b:Int}{v:Value}(ae:o.op=.binOp op t x y dq)(j:bB l x=some (.int k a))(aC:bB l y=some (.int k b))(aD:vq k a b op=some v)(af:b≠0):ch K B o n ds l m J v:=by
 intro call az S H al au;unfold cc eh;simp only[ae];show ja K.P _ op t (aR S.T H x) (aR S.T H y)=_;rw[cX al H j,cX al H aC];show(bif kr k k then h1 H k a b _ op else _)=_;rw[wD,bH];have key:∀(q6:BinOp),op=q6->(q6=.quo\/q6=.rem)->ek K.P S.T H o=some (.val v H):=by
  intro q6 e h;subst e;refine lk al (by rw[ae];rfl) j aC rfl rfl ?_ ?_
  ·unfold execOp;simp only[ae];rw[gx al H j,gx al H aC];rcases h with rfl|rfl
   ·simp only[vq,bL] at aD;subst aD;have ar:en K.P (eqGuard .quo t x y (.int k a) (.int k b))=some ():=rfl;have j5:binOp .quo t (.int k a) (.int k b)=pure (.int k (k.wrap (a.tdiv b))):=by simp[binOp,Op.intDiv,af]
    rw[eW (a:=.int k (k.wrap (a.tdiv b)))]
    ·rfl
    rw[eW ar,j5];rfl
   ·simp only[vq,bL] at aD;subst aD;have ar:en K.P (eqGuard .rem t x y (.int k a) (.int k b))=some ():=rfl;have j5:binOp .rem t (.int k a) (.int k b)=pure (.int k (a.tmod b)):=by simp[binOp,Op.intDiv,af]
    rw[eW (a:=.int k (a.tmod b))]
    ·rfl
    rw[eW ar,j5];rfl
  ·rcases h with rfl|rfl<;>simp only[vq,bL] at aD<;>subst aD<;>rfl
 cases op<;>simp only[vq,reduceCtorEq] at aD
 ·exact key _ rfl (.inl rfl)
 ·exact key _ rfl (.inr rfl)
end
structure eO {α:Type} (J:an) (e:TypeId) (sz:Nat) (R:α->List Value->Prop) (v:Value) (xs:List α):Prop where
 ex:∃cs,ew J e sz v xs.length cs/\∀i x,xs[i]?=some x->R x ((cs.drop (i*sz)).take sz)
theorem eO.mono{α:Type}{J ai:an}{e:TypeId}{sz:Nat}{R R':α->List Value->Prop}{v:Value}{xs:List α}(hle:J.le ai)(et:∀x cs,R x cs->R' x cs)(h:eO J e sz R v xs):eO ai e sz R' v xs:=by
 obtain⟨cs,U,ab⟩:=h;exact⟨cs,U.mono hle,fun i x j=>et _ _ (ab i x j)⟩
theorem ew.addr{J:an}{e:TypeId}{sz n c:Nat}{b:Option Addr}{cs:List Value}{k:Nat}(h:ew J e sz (.slice b n c) k cs):addrEq b b=true:=by
 cases h with
 |nil=>rfl
 |hy a off cap h=>simp[addrEq]
 |rY=>rfl
 |row U ab aV br gq=>simp[addrEq]
theorem eO.addr{α:Type}{J:an}{e:TypeId}{sz n c:Nat}{b:Option Addr}{R:α->List Value->Prop}{xs:List α}(h:eO J e sz R (.slice b n c) xs):addrEq b b=true:=by
 obtain⟨cs,U,_⟩:=h;exact U.addr
theorem eO.get{α:Type}{J:an}{e:TypeId}{sz n c:Nat}{b:Option Addr}{R:α->List Value->Prop}{xs:List α}(h:eO J e sz R (.slice b n c) xs):n=xs.length/\(0<xs.length->∃a off cells bl,b=some ⟨a,off,none⟩/\J a=some (cells,bl)/\
 ∀(i:Nat) (x:α),xs[i]?=some x->∃cs,takeN sz (lJ (off+((i:Nat):Int).toNat*sz) cells)=some cs/\R x cs):=by
 obtain⟨cs,U,ab⟩:=h;have aE:n=xs.length:=by
  obtain⟨b',bo,aV,_⟩:=U.inv;injection aV
 refine⟨aE,fun KQ=>?_⟩;generalize hk:xs.length=k at U;cases U with
 |nil=>omega
 |hy=>omega
 |rY=>omega
 |@row a off len cap cells cs bl a8 a5 bI cL gy=>
  refine⟨a,off,cells,bl,rfl,a8,fun i x j=>⟨_,?_,ab i x j⟩⟩;have aq:i<xs.length:=(h4.1 j).1;rw[<-hk] at a5 bI;have hle:i*sz+sz<=xs.length*sz:=by rw[<-xE];exact kf _ aq
  have aF:xs.length*sz<=(cells.drop off).length:=by
   have:((cells.drop off).take (xs.length*sz)).length=xs.length*sz:=by rw[a5];exact bI
   rw[hQ] at this;omega
  rw[qa] at aF;rw[rW,sT (by rw[qa];simp;omega),<-a5];congr 1
  rw[C9,xv,rE,h5 (by omega)];simp
open Classical
section
variable {K:di}
end
section
variable {K:di}{B:c6}{o:Oper}{n:Nat}{ds:dL}{l:List (Nat×Value)}{m m':aU}{J:an}{dS:bK->aU->an->Prop}{d:Nat}{cC:Exit->bK->aU->an->Prop}
end
theorem Lm{lg:Nat}:∀(l:List Nat) {H:ah},gZ H->(∀x∈l,x<H.av)->∃H',nA H lg l=some H'/\gZ H':=by
 intro l;induction l with
 |nil=>intro H w _;exact⟨H,rfl,w⟩
 |cons x l aN=>
  intro H w h;simp only[nA];cases af:Nat.beq x lg with
  |true=>exact aN w fun y aC=>h y (.tail _ aC)
  |false=>
   obtain⟨H1,aA⟩:=w.upd .dead (h x (.head _));rw[cZ,aA];exact aN (w.G' (h x (.head _)) aA) fun y aC=>by rw[(ah.rm aA).1];exact h y (.tail _ aC)
section
variable {g0:Nat}{B:c6}{H:ah}{J:an}{m m':aU}
theorem Inv.kill{a z:Nat}{cells:List Value}{e:TypeId}{rest:List Nat}(h:Inv g0 B J ((a,.opn cells e rest z)::m) H)(cells':List Value)(fv:Nat):
 ∃f H1 bG,H.mem.get a=some (.row cells e true f z false)/\H.upd a (.row cells' e true f fv false)=some H1/\su H1 a f=some bG/\Inv g0 B J ((a,.opn cells' e [] fv)::m) bG:=by
 obtain⟨a8,a5,bI,cL⟩:=h.own a _ (.head _);obtain⟨f,f1,f2,f3⟩:=a8;have cx:=h.lt (.head _);have dk:=h.eY;rw[show ids ((a,db.opn cells e rest z)::m)=a::(rest++ids m) from rfl,qb,m3,Av] at dk;obtain⟨v7,yS,BD,EQ⟩:=dk;obtain⟨H1,aA⟩:=h.wf.upd (.row cells' e true f fv false) cx;have bc:=h.wf.G' cx aA;obtain⟨jS,mY,p0,zX,nN⟩:=ah.rm aA;have Fs:∀x∈a::rest,x<H1.av:=fun x j=>by
  rw[jS];rcases fy.1 j with q|q
  ·subst q;exact cx
  ·exact(h.opn a _ (.head _) x q).1
 obtain⟨bG,aW,b6⟩:=Lm (lg:=a) (a::rest) bc Fs;obtain⟨v1,v2,z0,v4,Zs,v6⟩:=B0 aW;have gU:f<bG.bM:=by rw[z0,p0];exact h.wf.yh f3
 obtain⟨f',cr⟩:=b6.mW [a] gU;obtain⟨s2,s1,iP,uO,nL⟩:=ah.w4 cr;have T0:f'.mem.get a=some (.row cells' e true f fv false):=by rw[s1,v6 a (.inr rfl),nN,bs rfl]
 have ud:∀x,x≠a->x∉rest->f'.mem.get x=H.mem.get x:=fun x aQ aP=>by
  rw[s1,v6 x (.inl (fun q=>by rcases fy.1 q with q|q;exact aQ q;exact aP q)),nN,a1 aQ]
 have yI:∀g,g≠f->f'.ba.get g=H.ba.get g:=fun g q=>by rw[nL,a1 q,v2,mY]
 have ib:f'.av=H.av:=by rw[s2,v1,jS]
 refine⟨f,H1,f',f2,aA,?_,⟨b6.GS gU cr,by rw[uO,v4,zX];exact h.bf,by rw[ib];exact h.av,by rw[iP,z0,p0];exact h.bM,fun x j fA=>?_,fun g ar=>?_,fun x c bl aX=>?_,h.le,h.fresh,fun x b af=>?_,fun x b af y aC=>?_,?_⟩⟩
 ·unfold su
  rw[mY,f3];simp only[aW,cr]
 ·rw[ud x (fun q=>by subst q;rcases a5 with q|q;·omega
                     ·exact fA q) (fun q=>by rcases(h.opn a _ (.head _) x q).2.1 with r|r;·omega
                                             ·exact fA r)]
  exact h.eN x j fA
 ·rw[yI g (fun q=>ar (by rw[q];exact f1))];exact h.j' g ar
 ·obtain⟨o,cd,je,s,q⟩:=h.dv x c bl aX
  exact⟨o,cd,je,s,by rw[ud x (fun r=>by subst r;rw[bI] at aX;cases aX) (fun r=>by have:=(h.opn a _ (.head _) x r).2.2;rw[this] at aX;cases aX)];exact q⟩
 ·rcases fy.1 af with q|q
  ·injection q with aQ aP;subst aQ;subst aP
   exact⟨⟨f,f1,T0,by rw[nL,bs rfl]⟩,a5,bI,cL⟩
  ·obtain⟨eJ,ei,iu,ka⟩:=h.own x b (.tail _ q)
   have uk:x∈ids m:=um q;refine⟨?_,ei,iu,ka⟩;refine db.rQ eJ (ud x (fun r=>v7 (.inr (r▸uk))) (fun r=>EQ _ r _ uk rfl)) fun g r ar=>?_;rw[yI g (fun cR=>by
        subst cR;rw[f3] at ar;injection ar with ar;injection ar with ar
        exact v7 (.inr (ar▸uk)))]
   exact ar
 ·rcases fy.1 af with q|q
  ·injection q with aQ aP;subst aQ;subst aP;cases aC
  ·rw[ib];exact h.opn x b (.tail _ q) y aC
 ·show(a::([]++ids m)).Nodup
  rw[rD,qb];exact⟨fun q=>v7 (.inr q),BD⟩
end
section
variable {K:di}{B:c6}{o:Oper}{n:Nat}{ds:dL}{l:List (Nat×Value)}{m m':aU}{J:an}{dS:bK->aU->an->Prop}{d:Nat}
theorem Wr{g0:Nat}{H:ah}(au:Inv g0 B J m H){a:Nat}(h:g0<=a):Nat.blt a H.bf=false:=by
 cases q:Nat.blt a H.bf
 ·rfl
 ·have:a<H.bf:=by simpa[Nat.blt,o5] using q
  have:=au.bf;omega
theorem Hm{t:TypeId}{x y:Operand}{a off k z:Nat}{v:Value}{vs cells cells':List Value}{e:TypeId}{rest:List Nat}{dK:aU}(ae:o.op=.store t x y)(ax:o.dst=none)(j:bB l x=some (.pointer (some ⟨a,off,none⟩)))(aC:bB l y=some v)(hk:dD K.P t=some k)(aF:v.cells.toList=vs)(aw:Nat.beq vs.length k=true)(a2:Nat.blt 0 vs.length=true)(U:vs.all dY=true)(ag:fD off cells vs=some cells')(a0:z<=off)(ao:m.Perm ((a,.opn cells e rest z)::dK))(h:dS ⟨n,ds,l⟩ ((a,.opn cells' e [] z)::dK) J):g' K B o ⟨n,ds,l⟩ m J dS:=by
 refine g'.skip ax fun S H al au=>?_;have au:=au.perm ao;obtain⟨f,H1,bG,aA,aW,cr,dU⟩:=au.kill cells' z;obtain⟨a8,a5,bI,cL⟩:=au.own _ _ (.head _);refine⟨bG,_,J,fun call az=>?_,dU,h⟩;unfold cc eh;simp only[ae];show wO K.P _ t (aR S.T H x) (aR S.T H y)=_;rw[cX al H j,cX al H aC];show Bj (tB K.P H t (.pointer (some ⟨a,off,none⟩)) v)=_;unfold tB;simp only[hk,aF,aw,bH];unfold ni;cases vs with
 |nil=>cases a2
 |cons ig vs=>
  simp only
  rw[Wr au cL,cZ,aA];simp only[show Nat.ble z off=true from jx a0,HC,U,bH,ag,aW,cr];rfl
theorem Ha{c:Call}{x y:Operand}{k:IntKind}{a b:Int}(ae:o.op=.call c)(aF:c.callee=.builtin .max)(hK:c.args.toList=[x,y])(j:bB l x=some (.int k a))(aC:bB l y=some (.int k b)):ch K B o n ds l m J (.int k (max a b)):=by
 intro call az S H al au;rw[vx ae aF];have k8:c.args=#[x,y]:=by rw[<-Array.toList_inj];exact hK
 have:ek K.P S.T H o=some (.val (.int k (max a b)) H):=by
  refine lk al ?_ j aC rfl rfl ?_ rfl
  ·rw[ae];show(Call.operands c).toList=_;simp[Call.operands,aF,k8]
  ·unfold execOp;simp only[ae];have ap:en K.P (resolve (mS S.T H) c o.type)=some {target:=.builtin .max c.argTypes o.type (c.args.map fun|.const _=>true|_=>false),args:=#[.int k a,.int k b]}:=by
    unfold resolve;simp only[aF,k8];show some _=some _;simp[gx al H j,gx al H aC];exact⟨by cases x<;>rfl,by cases y<;>rfl⟩
   rw[eW ap];show en K.P ((Builtin.max_ c.argTypes o.type #[.int k a,.int k b]) >>= fun v=>pure (Next.value v))=_;have:en K.P (Builtin.max_ c.argTypes o.type #[.int k a,.int k b])=some (.int k (max a b)):=by
    show some (Value.int k (if b>a then b else a))=_;congr 2
    split<;>omega
   rw[eW this];rfl
 unfold mr;rw[mq al H (vs:=[.int k a,.int k b]) (by rw[hK];simp only[hz,j,aC])];exact this
def PI(b:UInt8):Value:=.int .u8 b.toNat
theorem jg.str{g0:Nat}{s:List UInt8}:jg g0 B J m 1 (.string ⟨⟨s⟩⟩) s.length (s.map PI):=by
 intro H au;refine⟨rfl,?_⟩;show(match takeN s.length s with|some l=>some (l.map fun b:UInt8=>Value.int .u8 b.toNat)|none=>none)=_
 rw[sT (c9 _),tb];rfl
theorem rr{c:Call}{t fK e:TypeId}{sz k aa:Nat}{fc cells new:List Value}{v x:Value}{bq dK:aU}{fz:TypeDesc}(ae:o.op=.call c)(aF:c.callee=.builtin .append)(ax:o.dst=some d)(aE:Nat.blt d n=true)(aK:hz l c.args.toList=some [v,x])(nw:c.argTypes.toList=[t,fK])(aG:jd K.P t=some (e,sz,fc))(h0:K.P.underlying fK=some fz)(pz:∀i,fz≠.int i)
 (aD:Acc e sz v k cells bq)(hm:m.Perm (bq++dK))(j:jg K.g0 B J m sz x aa new)(dQ:new.length=aa*sz)(dV:new.all dY=true)(aw:k+aa<=1000000)
 (h:∀w g7,Acc e sz w (k+aa) (cells++new) g7->(je bq->je g7)/\(q3 bq->q3 g7)->dS ⟨n,ds,(d,w)::l⟩ (g7++dK) J):g' K B o ⟨n,ds,l⟩ m J dS:=fun S H al au=>
 Oh ae aF ax aE aK nw aG h0 pz aD rfl (j.perm hm) dQ dV aw h S H al (au.perm hm)
theorem Yy{α:Type}{f:α->Value}{L:List α}{i:Nat}{x:α}(h:i<L.length):fD i (L.map f) [f x]=some ((L.set i x).map f):=by
 rw[CJ _ _ _ (by rw[jw,xx];omega)];congr 1
 rw[HW,OS,bs (by rw[jw];exact h)];simp
theorem aaw{v:Value}{k:Nat}:fb [v] k=List.replicate k v:=by
 show Hv v k=_;induction k with
 |zero=>rfl
 |succ k aN=>show v::Hv v k=_;rw[aN];rfl
end
section
variable {K:di}{B:c6}{ops:List Oper}{a6:List g9}{F:List (FuncId×List Value)}{E:bK}{m m':aU}{J:an}{o:Oper}{bt:bK->aU->an->Prop}
variable {n:Nat}{ds:dL}{l:List (Nat×Value)}{d i:Nat}
theorem bR.makeSlice{t e:TypeId}{x y:Operand}{sz:Nat}{fc:List Value}{p q:Int}{pH B1:IntKind}(aq:nth ops i=some o)(ar:o.guard=none)(ae:o.op=.makeSlice t x y)(ax:o.dst=some d)(aE:Nat.blt d n=true)(j:bB l x=some (.int pH p))(aC:bB l y=some (.int B1 q))(aG:jd K.P t=some (e,sz,fc))(a2:0<=p)(U:p<=q)(ab:q<=1000000)
 (h:∀a,bR K B ops a6 F ⟨n,ds,(d,.slice (some ⟨a,0,none⟩) p.toNat q.toNat)::l⟩ ((a,.row (fb fc q.toNat) e)::m) J bt):bR K B ops (.kF i::a6) F ⟨n,ds,l⟩ m J bt:=by
 obtain⟨hu,de,fG,z,fQ,a0,bV,rfl,b7,c5,dM⟩:=ri aG;refine bR.kF (b:=.row (fb z.cells.toList q.toNat) e false 0 0 false) (p:=.row (fb z.cells.toList q.toNat) e) (dm:=.w5 p.toNat q.toNat) aq ar ax aE (fun S al=>?_) (fun H a q=>q) (fun c e r z q=>by cases q) h;rw[ae];simp only[kh];rw[Mo al j,Mo al aC];simp only[xK,hu,a0,fQ,de];rw[ze (by omega) (by omega),ze (by omega) (by omega)];simp only[bV,c5,dM,Ah];rw[show Nat.beq z.cells.toList.length sz=true by rw[b7];exact ga _,show Nat.ble p.toNat q.toNat=true from jx (by omega)];simp only[Ah,bH]
end
end
end Go.Opn
