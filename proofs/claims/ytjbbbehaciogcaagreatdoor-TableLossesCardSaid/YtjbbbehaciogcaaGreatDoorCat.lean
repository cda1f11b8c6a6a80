/- A part of the proof of TableLosses. -/
import Derived.Test.YtjbbbehaciogcaaGreatDoorCar
import Derived.Test.YtjbbbehaciogcaaGreatDoorCas
set_option maxRecDepth 100000
set_option maxHeartbeats 8000000
set_option linter.unusedVariables false
set_option linter.unusedSimpArgs false
namespace Go.Opn
noncomputable section
open Go.Cre Go.RowKit Go.Proofs
abbrev eJ{α:Type}(R:α->Value->Prop):α->List Value->Prop:=fun x cs=>∃v,cs=[v]/\R x v
theorem dD.eU{α:Type}{J:aj}{e:TypeId}{n c:Nat}{b:Option Addr}{R:α->Value->Prop}{xs:List α}(h:dD J e 1 (eJ R) (.slice b n c) xs):0<n->∃kl off cells e,b=some ⟨kl,off,none⟩/\J kl=some (cells,e)/\∀i:Nat,i<n->∃v,nth cells (off+(i:Int).toNat*1)=some v/\∃x,xs[i]?=some x/\R x v:=fun aw=>by
 obtain⟨ad,ae⟩:=h.at;obtain⟨a,off,cells,bD,aW,aT,bo⟩:=ae I;refine⟨a,off,cells,bD,aW,aT,fun i ak=>?_⟩;obtain⟨x,cs,aL,aG,bt,v,rfl,fU⟩:=bo i I I;rw[gG] at aL;exact⟨v,bt 0 v bI rfl,x,aL,fU⟩
abbrev ac8(pP:Nat->aN->aj->Prop)(xg:aN->aj->Prop)(i:Nat):Value->aN->aj->Prop:=fun w m' af=>∃t,w=.bool t/\(t=true->pP (i+1) m' af)/\(t=false->xg m' af)
section
variable {Q:c7 Tryz.prog}{g0:Nat}{J:aj}
theorem LE{fn:Func}{e:Exit}{E:ca}{m m':aN}{vs:List Value}{hj:Value->aN->aj->Prop}{fQ:List PanicEntry->aN->aj->Prop}(aw:hj (pr vs) m' J)(he:Jf e=some .returning:=by exact rfl) (au:E.ds.ds=[]:=by exact rfl) (ao:mX (aU Q g0).P E m J fn.results.toList vs:=by first|exact .nil|exact .tmp rfl .nil|exact oU .nil) (hs:m'.Sublist m:=by first|exact .refl _|exact i' _):Leaves (aU Q g0) fn e E m J hj fQ:=⟨.returning,he,.inl ⟨au,.inl ⟨rfl,vs,m',ao,hs,aw⟩⟩⟩
theorem atW{pP:Nat->aN->aj->Prop}{xg:aN->aj->Prop}{fQ:List PanicEntry->aN->aj->Prop}{G:Nat->Value->Prop}{bH ba n c:Nat}{b:Option Addr}{yC:aN}(aE:n<9223372036854775807)
 (eU:0<n->∃kl off cells e,b=some ⟨kl,off,none⟩/\J kl=some (cells,e)/\∀i:Nat,i<n->∃v,nth cells (off+(i:Int).toNat*1)=some v/\G i v)(aR:pP 0 yC J)
 (jj:∀i v m cq,i<n->G i v->J.le cq->pP i m cq->vy (aU Q g0) bH [v] m cq (ac8 pP xg i) fQ):
 mQ (aU Q g0) 81 [.func (.yield bH) #[] #[],.pointer (some ⟨ba,0,none⟩)] ((ba,.row [.slice b n c] 28)::yC) J (fun w m' af=>J.le af/\(pP n m' af\/xg m' af)) (fun bw m' af=>J.le af/\fQ bw m' af):=by
 refine mQ.b5 (b2 Tryz.func81) rfl rfl fun H=>?_;refine U 0xbeaf809539 ?_;refine az.ri (m':=yC++[(ba,.row [.slice b n c] 28)]) (zm _ _) ?_;refine c3 [(7,.int .i64 ((0):Int)),(0,_),(5,_),(6,_)] ?_;refine a2 ?_;refine' az.bH (fun(bK:Nat×aN×aj)=>match bK with|(i,fw,cq)=>⟨[(7,.int .i64 (i:Int))],fw++[(ba,.row [.slice b n c] 28)],cq,i<=n/\J.le cq/\pP i fw cq,n -i⟩) ⟨0,yC,J⟩ ?hs ?a7
 case hs=>exact⟨c5 _,aj.le.refl _,aR⟩
 case a7=>
  rintro⟨i,fw,cq⟩ hinv;try simp only at hinv
  obtain⟨ak,cA,cI⟩:=hinv;refine U 0xbe099 ?_;refine If (fun hq=>?_) fun hq=>?_
  ·obtain⟨kl,off,cells,e,rfl,fY,hD⟩:=eU I;obtain⟨v,av,ch⟩:=hD i I;have fY:=cA _ _ fY;refine U 0x8738124d9d5f57 ?_;refine W.afd rfl rfl rfl rfl rfl rfl rfl (bm:=fw) (cN:=[_]) (.refl _) (jj i v fw cq I ch cA cI) ?_ ?_
   rotate_left 1
   ·exact fun bw m' gi cR aw=>⟨_,rfl,.inl ⟨rfl,.inr ⟨_,_,rfl,st _ _,cA.trans cR,aw⟩⟩⟩
   rintro w eE cZ bG ⟨t,rfl,sS,qY⟩;refine U 0x5f11 ?_;refine If (fun fc=>?_) fun fc=>?_
   ·refine U 0x357 ?_
    exact LE (m':=eE) ⟨cA.trans bG,.inr (qY (by simpa using fc))⟩ (hs:=st _ _)
   ·refine U 0x3011e757 ?_;refine dN ⟨i+1,eE,cZ⟩ ?_;exact⟨I,cA.trans bG,sS (by simpa using fc)⟩
  ·obtain rfl:i=n:=I
   refine U 0x357 ?_
   exact LE (m':=fw) ⟨cA,.inl cI⟩ (hs:=st _ _)
theorem atX{b:Option Addr}{n c:Nat}(k6:addrEq b b=true):
 Fn (aU Q g0) 45 [.slice b n c] [] J (fun w m' af=>∃ba,w=.func (.func 81) #[] #[.pointer (some ⟨ba,0,none⟩)]/\m'=[(ba,.row [.slice b n c] 28)]/\J=af):=by
 refine Fn.b5 (b2 Tryz.func45) rfl rfl fun H=>?_;refine rg ?_;refine eQ fun ba=>?_;refine U 0xd5f0296702 ?_;refine ja ?_;exact⟨ba,rfl,rfl,rfl⟩
theorem atY{pP:Nat->aN->aj->Prop}{xg:aN->aj->Prop}{fQ:List PanicEntry->aN->aj->Prop}{G:Nat->Value->Prop}{bH ba n c:Nat}{b:Option Addr}{yC:aN}(aE:n<9223372036854775807)
 (eU:0<n->∃kl off cells e,b=some ⟨kl,off,none⟩/\J kl=some (cells,e)/\∀i:Nat,i<n->∃v,nth cells (off+(i:Int).toNat*1)=some v/\G i v)(aR:pP 0 yC J)
 (jj:∀i v m cq,i<n->G i v->J.le cq->pP i m cq->vy (aU Q g0) bH [v] m cq (ac8 pP xg i) fQ):
 mQ (aU Q g0) 80 [.func (.yield bH) #[] #[],.pointer (some ⟨ba,0,none⟩)] ((ba,.row [.slice b n c] 26)::yC) J (fun w m' af=>J.le af/\(pP n m' af\/xg m' af)) (fun bw m' af=>J.le af/\fQ bw m' af):=by
 refine mQ.b5 (b2 Tryz.func80) rfl rfl fun H=>?_;refine U 0xbeaf809539 ?_;refine az.ri (m':=yC++[(ba,.row [.slice b n c] 26)]) (zm _ _) ?_;refine c3 [(7,.int .i64 ((0):Int)),(0,_),(5,_),(6,_)] ?_;refine a2 ?_;refine' az.bH (fun(bK:Nat×aN×aj)=>match bK with|(i,fw,cq)=>⟨[(7,.int .i64 (i:Int))],fw++[(ba,.row [.slice b n c] 26)],cq,i<=n/\J.le cq/\pP i fw cq,n -i⟩) ⟨0,yC,J⟩ ?hs ?a7
 case hs=>exact⟨c5 _,aj.le.refl _,aR⟩
 case a7=>
  rintro⟨i,fw,cq⟩ hinv;try simp only at hinv
  obtain⟨ak,cA,cI⟩:=hinv;refine U 0xbe099 ?_;refine If (fun hq=>?_) fun hq=>?_
  ·obtain⟨kl,off,cells,e,rfl,fY,hD⟩:=eU I;obtain⟨v,av,ch⟩:=hD i I;have fY:=cA _ _ fY;refine U 0x8738124d9d5f57 ?_;refine W.afd rfl rfl rfl rfl rfl rfl rfl (bm:=fw) (cN:=[_]) (.refl _) (jj i v fw cq I ch cA cI) ?_ ?_
   rotate_left 1
   ·exact fun bw m' gi cR aw=>⟨_,rfl,.inl ⟨rfl,.inr ⟨_,_,rfl,st _ _,cA.trans cR,aw⟩⟩⟩
   rintro w eE cZ bG ⟨t,rfl,sS,qY⟩;refine U 0x5f11 ?_;refine If (fun fc=>?_) fun fc=>?_
   ·refine U 0x357 ?_
    exact LE (m':=eE) ⟨cA.trans bG,.inr (qY (by simpa using fc))⟩ (hs:=st _ _)
   ·refine U 0x3011e757 ?_;refine dN ⟨i+1,eE,cZ⟩ ?_;exact⟨I,cA.trans bG,sS (by simpa using fc)⟩
  ·obtain rfl:i=n:=I
   refine U 0x357 ?_
   exact LE (m':=fw) ⟨cA,.inl cI⟩ (hs:=st _ _)
theorem atZ{b:Option Addr}{n c:Nat}(k6:addrEq b b=true):
 Fn (aU Q g0) 44 [.slice b n c] [] J (fun w m' af=>∃ba,w=.func (.func 80) #[] #[.pointer (some ⟨ba,0,none⟩)]/\m'=[(ba,.row [.slice b n c] 26)]/\J=af):=by
 refine Fn.b5 (b2 Tryz.func44) rfl rfl fun H=>?_;refine rg ?_;refine eQ fun ba=>?_;refine U 0xd5f0296702 ?_;refine ja ?_;exact⟨ba,rfl,rfl,rfl⟩
end
end
end Go.Opn
set_option maxHeartbeats 4000000
namespace Go.Opn
noncomputable section
open Go.Cre Go.RowKit Go.Proofs
theorem Fn.NJ{K:dR}{J:aj}{f:FuncId}{fn:Func}{args:List Value}{v:Value}(aA:K.fE.get f=some fn)(ai:fn.body=none)(aw:args.all plain=true)(he:eR K.P (callFunc f args.toArray)=some (.value v))(av:plain v=true):Fn K f args [] J (fun u m' af=>u=v/\m'=[]/\J=af):=by
 intro H aB;refine⟨v,H,J,[],jV.b5 K.cI gQ kL (bg:=.run) ?_,aB,rfl,rfl,rfl⟩;unfold sM;rw[aA];show GL K.P _ f fn args false .run H fn.body=_;rw[ai];show qM .run (Bv K.P fn f args H)=_;unfold Bv;rw[aw,he];simp only[cd,QQ,av];rfl
theorem agq(x y:Nat):eR jc (callFunc 116 #[.int .u64 (x:Int),.int .u64 (y:Int),.int .u64 0])=some (.value (.tuple #[.int .u64 (((x+y+0) % 2 ^ 64:Nat):Int),.int .u64 (((x+y+0) / 2 ^ 64:Nat):Int)])):=by kernel_rfl
theorem avi(x y:Nat):eR jc (callFunc 136 #[.int .u64 (x:Int),.int .u64 (y:Int),.int .u64 0])=some (.value (.tuple #[.int .u64 (((x+2 ^ 64 -y -0) % 2 ^ 64:Nat):Int),.int .u64 ((if x<y+0 then 1 else 0:Nat):Int)])):=by kernel_rfl
theorem agr(x y:Nat):eR jc (callFunc 116 #[.int .u64 (x:Int),.int .u64 (y:Int),.int .u64 1])=some (.value (.tuple #[.int .u64 (((x+y+1) % 2 ^ 64:Nat):Int),.int .u64 (((x+y+1) / 2 ^ 64:Nat):Int)])):=by kernel_rfl
theorem avj(x y:Nat):eR jc (callFunc 136 #[.int .u64 (x:Int),.int .u64 (y:Int),.int .u64 1])=some (.value (.tuple #[.int .u64 (((x+2 ^ 64 -y -1) % 2 ^ 64:Nat):Int),.int .u64 ((if x<y+1 then 1 else 0:Nat):Int)])):=by kernel_rfl
section
variable {Q:c7 Tryz.prog}{g0:Nat}{J:aj}
theorem xm{x y c:Nat}(aC:c<=1):Fn (aU Q g0) 116 [.int .u64 (x:Int),.int .u64 (y:Int),.int .u64 (c:Int)] [] J (fun u m' af=>u=.tuple #[.int .u64 (((x+y+c) % 18446744073709551616:Nat):Int),.int .u64 (((x+y+c) / 18446744073709551616:Nat):Int)]/\m'=[]/\J=af):=by
 obtain rfl|rfl:c=0\/c=1:=I
 ·exact Fn.NJ (b2 Tryz.func116) rfl rfl (agq x y) rfl
 ·exact Fn.NJ (b2 Tryz.func116) rfl rfl (agr x y) rfl
theorem N3{x y c:Nat}(aC:c<=1):Fn (aU Q g0) 136 [.int .u64 (x:Int),.int .u64 (y:Int),.int .u64 (c:Int)] [] J (fun u m' af=>u=.tuple #[.int .u64 (((x+18446744073709551616 -y -c) % 18446744073709551616:Nat):Int),.int .u64 ((if x<y+c then 1 else 0:Nat):Int)]/\m'=[]/\J=af):=by
 obtain rfl|rfl:c=0\/c=1:=I
 ·exact Fn.NJ (b2 Tryz.func136) rfl rfl (avi x y) rfl
 ·exact Fn.NJ (b2 Tryz.func136) rfl rfl (avj x y) rfl
end
end
end Go.Opn
namespace Go.Opn
noncomputable section
structure vl (β P da V bT u1 bB v1 v0:Nat):Prop where
 u:∃l,da=((bT*β+u1)*β+bB)*P+l/\l<P
 v:∃l,V=(v1*β+v0)*P+l/\l<P
theorem vl.start{β P da V bT u1 bB v1 v0 g:Nat}(h:vl β P da V bT u1 bB v1 v0)(Ad:bB<β)(ay:bT*β+u1<(g+1)*v1):da<(g+1)*V:=by
 obtain⟨ul,rfl,E1⟩:=h.u
 obtain⟨hS,rfl,mc⟩:=h.v
 have ad:(bT*β+u1+1)*β<=(g+1)*v1*β:=fq _ ay
 have ae:(bT*β+u1)*β+bB+1<=(g+1)*(v1*β+v0):=by
  rw[cL,<-fy]
  rw[c6] at ad
  omega
 have aD:((bT*β+u1)*β+bB+1)*P<=(g+1)*(v1*β+v0)*P:=fq _ ae
 rw[c6 _ 1 P,jb] at aD
 rw[cL (g+1),<-fy]
 have:0<=(g+1)*hS:=c5 _
 omega
theorem vl.more{β P da V bT u1 bB v1 v0 g r:Nat}(h:vl β P da V bT u1 bB v1 v0)(ay:g*v1+r=bT*β+u1)(aI:r*β+bB<g*v0):da<g*V:=by
 obtain⟨ul,rfl,E1⟩:=h.u
 obtain⟨hS,rfl,mc⟩:=h.v
 have ae:(bT*β+u1)*β+bB+1<=g*(v1*β+v0):=by
  rw[cL,<-fy,<-ay,c6]
  omega
 have aD:((bT*β+u1)*β+bB+1)*P<=g*(v1*β+v0)*P:=fq _ ae
 rw[c6 _ 1 P,jb] at aD
 rw[cL g,<-fy]
 have:0<=g*hS:=c5 _
 omega
theorem vl.less{β P da V bT u1 bB v1 v0 g r:Nat}(h:vl β P da V bT u1 bB v1 v0)(ay:g*v1+r=bT*β+u1)(aI:g*v0<=r*β+bB)(j6:g<=β)(ai:0<β)(av:0<v1):g*V<da+V:=by
 obtain⟨ul,rfl,E1⟩:=h.u
 obtain⟨hS,rfl,mc⟩:=h.v
 have ae:g*(v1*β+v0)<=(bT*β+u1)*β+bB:=by
  rw[cL,<-fy,<-ay,c6]
  omega
 have aD:g*(v1*β+v0)*P<=((bT*β+u1)*β+bB)*P:=fq _ ae
 have a6:g*hS<=β*hS:=fq _ j6
 have eM:β*hS<β*P:=O6 mc ai
 have fH:β*P<=(v1*β+v0)*P:=fq _ (by
  have:1*β<=v1*β:=fq _ av
  omega)
 rw[cL g,<-fy]
 omega
theorem yU{da V g:Nat}(ad:g*V<=da)(ae:da<(g+1)*V):da / V=g/\da % V=da -g*V:=by
 have iR:0<V:=tE fun h=>by rw[h,js] at ae;omega
 have e:da / V=g:=by
  refine Wm ?_ ?_
  ·exact Nat.lt_succ_iff.1 ((ni iR).2 ae)
  ·exact(KS iR).2 ad
 refine⟨e,?_⟩
 have:=mT da V
 rw[e,dP] at this
 omega
end
end Go.Opn
namespace Go.Opn
noncomputable section
open Go.Cre Go.RowKit Go.Proofs
theorem GI{x:Nat}(h:x<18446744073709551616):IntKind.u64.wrap (BitVec.ofInt IntKind.u64.bits (x:Int) &&& BitVec.ofInt IntKind.u64.bits 4294967295).toNat=((x % 4294967296:Nat):Int):=by
 have e:(BitVec.ofInt 64 (x:Int) &&& BitVec.ofInt 64 4294967295).toNat=x % 4294967296:=by
  rw[BitVec.toNat_and];have ad:(BitVec.ofInt 64 (x:Int)).toNat=x:=by
   rw[BitVec.toNat_ofInt];omega
  have ae:(BitVec.ofInt 64 4294967295).toNat=2 ^ 32 -1:=by decide
  rw[ad,ae,Nat.and_two_pow_sub_one_eq_mod]
 show IntKind.u64.wrap ((BitVec.ofInt 64 (x:Int) &&& BitVec.ofInt 64 4294967295).toNat:Int)=_;rw[e];exact wrap_u64 I I
theorem AD{x:Nat}:(x:Int).fdiv (2 ^ ((32:Int).toNat))=((x / 4294967296:Nat):Int):=JZ (q:=32)
def l4(x y:Nat):Int:=if x<y then -1 else if y<x then 1 else 0
theorem Vp{x:Nat}(h:x<18446744073709551616):IntKind.u64.wrap (x:Int)=(x:Int):=wrap_u64 (pI _) I
theorem wG{x y P:Nat}(h:P=x*y):(x:Int)*(y:Int)=(P:Int):=by rw[h];exact(gY x y).symm
theorem Oq(x:Nat):IntKind.u64.wrap (x:Int)=((x % 18446744073709551616:Nat):Int):=by
 unfold IntKind.wrap IntKind.signed IntKind.bits;simp only[Gj,ze,yp];omega
theorem aq'{x y h8 dW kQ hz a b c d:Nat}(aa:x=dW*4294967296+h8)(ap:y=hz*4294967296+kQ)(aF:a=h8*kQ)(ai:b=dW*kQ)(aC:c=h8*hz)(au:d=dW*hz):x*y=d*18446744073709551616+(b+c)*4294967296+a:=by
 subst aa;subst ap;subst aF;subst ai;subst aC;subst au;rw[c6,cL,cL,c6];have ax:dW*4294967296*(hz*4294967296)=dW*hz*18446744073709551616:=by
  rw[show(18446744073709551616:Nat)=4294967296*4294967296 from rfl];ac_rfl
 have aS:dW*4294967296*kQ=dW*kQ*4294967296:=by ac_rfl
 have cl:h8*(hz*4294967296)=h8*hz*4294967296:=by ac_rfl
 omega
theorem Fq{a b:Nat}(aF:a<4294967296)(ai:b<4294967296):a*b<=18446744065119617025:=sx (Nat.le_of_lt_succ (show a<4294967295+1 by omega)) (Nat.le_of_lt_succ (show b<4294967295+1 by omega))
section
variable {Q:c7 Tryz.prog}{g0:Nat}{J:aj}
theorem Fx{x y:Nat}(aa:x<18446744073709551616)(ap:y<18446744073709551616):Fn (aU Q g0) 115 [.int .u64 (x:Int),.int .u64 (y:Int)] [] J (fun u m' af=>u=.tuple #[.int .u64 ((x*y / 18446744073709551616:Nat):Int),.int .u64 ((x*y % 18446744073709551616:Nat):Int)]/\m'=[]/\J=af):=by
 obtain⟨h8,dC⟩:∃k,k=x % 4294967296:=⟨_,rfl⟩;obtain⟨dW,hr⟩:∃k,k=x / 4294967296:=⟨_,rfl⟩;obtain⟨kQ,e8⟩:∃k,k=y % 4294967296:=⟨_,rfl⟩;obtain⟨hz,Ta⟩:∃k,k=y / 4294967296:=⟨_,rfl⟩;obtain⟨a,aF⟩:∃k,k=h8*kQ:=⟨_,rfl⟩;obtain⟨b,ai⟩:∃k,k=dW*kQ:=⟨_,rfl⟩;obtain⟨c,aC⟩:∃k,k=h8*hz:=⟨_,rfl⟩;obtain⟨d,au⟩:∃k,k=dW*hz:=⟨_,rfl⟩;obtain⟨P,cI⟩:∃k,k=x*y:=⟨_,rfl⟩;have aod:=aq' (x:=x) (y:=y) I I aF ai aC au;rw[<-cI] at aod ⊢;have abi:h8<4294967296:=I
 have abj:dW<4294967296:=I
 have abl:kQ<4294967296:=I
 have abm:hz<4294967296:=I
 have la:=Fq abi abl;have ql:=Fq abj abl;have ap':=Fq abi abm;have nC:=Fq abj abm;rw[<-aF] at la;rw[<-ai] at ql;rw[<-aC] at ap';rw[<-au] at nC;have sT:P<18446744073709551616*18446744073709551616:=by rw[cI];exact O5 aa ap
 obtain⟨T,cB⟩:∃k,k=b+a / 4294967296:=⟨_,rfl⟩;obtain⟨bl,Cn⟩:∃k,k=T % 4294967296:=⟨_,rfl⟩;obtain⟨b7,yk⟩:∃k,k=T / 4294967296:=⟨_,rfl⟩;obtain⟨da,nq⟩:∃k,k=bl+c:=⟨_,rfl⟩;refine Fn.b5 (b2 Tryz.func115) rfl rfl fun H=>?_;refine U 0x1815039c0859 ?_;rw[GI aa,<-dC];refine U 0x1815039 ?_;rw[AD,<-hr];refine U 0x1815039 ?_;rw[GI ap,<-e8];refine U 0x1815039 ?_;rw[AD,<-Ta];refine U 0x30218439 ?_;rw[wG aF];refine U 0xe8118439 ?_;rw[wG ai,AD,show IntKind.u64.wrap ((b:Int)+((a / 4294967296:Nat):Int))=(T:Int) from by rw[cB,so];exact wrap_u64 I I];refine U 0x60540e702 ?_;rw[GI (x:=T) I,<-Cn];refine U 0x1815039 ?_;rw[AD,<-yk];refine U 0x6308439 ?_;rw[wG aC,show((bl:Int)+(c:Int))=(da:Int) by rw[nq,so]];refine U 0x281184610e702 ?_;rw[wG au,AD];refine eZ V.iz ?_;rw[show((d:Int)+(b7:Int)+((da / 4294967296:Nat):Int))=((P / 18446744073709551616:Nat):Int) by omega];refine U 0x610e702 ?_;rw[wG cI];refine U 0xd5f02 ?_;refine gZ ?_;(exact⟨by rw[Oq];rfl,rfl,rfl⟩)
end
def fS(x:Nat):Nat:=if x=0 then 0 else Nat.log2 x+1
theorem Ld{x:Nat}(h:x≠0):2 ^ (fS x -1)<=x/\x<2 ^ fS x/\1<=fS x:=by
 unfold fS;rw[aQ h];have:=(Nat.log2_eq_iff h (k:=Nat.log2 x)).1 rfl;exact⟨by rw[oo];exact this.1,this.2,I⟩
theorem ag2{x k:Nat}(ad:2 ^ k<=x)(ae:x<2 ^ (k+1)):fS x=k+1:=by
 have aa:x≠0:=fun h=>by rw[h] at ad;have:=l3 k;omega
 unfold fS;rw[aQ aa,(Nat.log2_eq_iff aa).2 ⟨ad,ae⟩]
theorem PS{x k:Nat}(h:2 ^ k<=x):fS x=k+fS (x / 2 ^ k):=by
 have hk:=l3 k;have au:x / 2 ^ k≠0:=j1 (OV h hk);obtain⟨ad,ae,aD⟩:=Ld au;have ax:2 ^ (k+(fS (x / 2 ^ k) -1))<=x:=by
  rw[o1,dP];exact(KS hk).1 ad
 have aS:x<2 ^ (k+(fS (x / 2 ^ k) -1)+1):=by
  rw[show k+(fS (x / 2 ^ k) -1)+1=fS (x / 2 ^ k)+k by omega,o1];exact(ni hk).1 ae
 rw[ag2 ax aS];omega
theorem auu{x:Nat}:(x:Int).fdiv (2 ^ ((16:Int).toNat))=((x / 65536:Nat):Int):=JZ (q:=16)
theorem auw{x:Nat}:(x:Int).fdiv (2 ^ ((8:Int).toNat))=((x / 256:Nat):Int):=JZ (q:=8)
def aaT:List UInt8:=[0,1,2,2,3,3,3,3,4,4,4,4,4,4,4,4,5,5,5,5,5,5,5,5,5,5,5,5,5,5,5,5,6,6,6,6,6,6,6,6,6,6,6,6,6,6,6,6,6,6,6,6,6,6,6,6,6,6,6,6,6,6,6,6,7,7,7,7,7,7,7,7,7,7,7,7,7,7,7,7,7,7,7,7,7,7,7,7,7,7,7,7,7,7,7,7,7,7,7,7,7,7,7,7,7,7,7,7,7,7,7,7,7,7,7,7,7,7,7,7,7,7,7,7,7,7,7,7,8,8,8,8,8,8,8,8,8,8,8,8,8,8,8,8,8,8,8,8,8,8,8,8,8,8,8,8,8,8,8,8,8,8,8,8,8,8,8,8,8,8,8,8,8,8,8,8,8,8,8,8,8,8,8,8,8,8,8,8,8,8,8,8,8,8,8,8,8,8,8,8,8,8,8,8,8,8,8,8,8,8,8,8,8,8,8,8,8,8,8,8,8,8,8,8,8,8,8,8,8,8,8,8,8,8,8,8,8,8,8,8,8,8,8,8,8,8,8,8,8,8,8,8,8,8,8,8]
theorem W8:∀y,y<256->aaT[y]?=some (UInt8.ofNat (fS y))/\fS y<=8:=by decide+kernel
theorem aql{y:Nat}(h:y<256):aaT[((y:Nat):Int).toNat]?=some (UInt8.ofNat (fS y)):=by rw[gG];exact(W8 y h).1
section
variable {Q:c7 Tryz.prog}{g0:Nat}{J:aj}
theorem aqk{x:Nat}(aa:x<18446744073709551616):Fn (aU Q g0) 152 [.int .u64 (x:Int)] [] J (fun u m' af=>u=.int .i64 ((fS x:Nat):Int)/\m'=[]/\J=af):=by
 refine Fn.b5 (b2 Tryz.func152) rfl rfl fun H=>?_;refine U 0x6081ce059 ?_;refine c4 [0,2,4] ?_;refine a2 ?_;refine' az.lb 3 (fun(bK:(Nat)×(Nat))=>match bK with|(y,k)=>⟨[(0,.int .u64 (y:Int)),(2,.int .i64 (k:Int))],[],J,y<4294967296/\fS x=k+fS y/\k<=32⟩) ?aic ?ajv
 case aic=>
  refine If (fun ej=>?_) fun ej=>?_
  ·refine U 0x1815039 ?_;rw[AD];refine U 0x6059 ?_;refine fG ⟨x / 4294967296,32⟩ ?_;try dsimp only
   exact⟨I,PS (k:=32) I,I⟩
  ·refine hx ?_;refine fG ⟨x,0⟩ ?_;try dsimp only
   exact⟨I,I,I⟩
 case ajv=>
  rintro⟨y,k⟩ hinv;try simp only at hinv
  refine U 0xc1039 ?_;refine c4 [0,2,8] ?_;refine a2 ?_;refine' az.lb 3 (fun(bK:(Nat)×(Nat))=>match bK with|(iX,aT)=>⟨[(0,.int .u64 (iX:Int)),(2,.int .i64 (aT:Int))],[],J,iX<65536/\fS x=aT+fS iX/\aT<=48⟩) ?aih ?ajz
  case aih=>
   refine If (fun hq=>?_) fun hq=>?_
   ·refine U 0x1815039 ?_;rw[auu];refine U 0x1810c39 ?_;refine fG ⟨y / 65536,k+16⟩ ?_;try dsimp only
    exact⟨I,by have h:=PS (x:=y) (k:=16) I;rw[show(2:Nat) ^ 16=65536 from rfl] at h;omega,I⟩
   ·refine hx ?_;refine fG ⟨y,k⟩ ?_;try dsimp only
    exact⟨I,hinv.2.1,I⟩
  case ajz=>
   rintro⟨iX,aT⟩ hinv;try simp only at hinv
   refine U 0xc1039 ?_;refine c4 [0,2,14] ?_;refine a2 ?_;refine' az.lb 3 (fun(bK:(Nat)×(Nat))=>match bK with|(l1,bo)=>⟨[(0,.int .u64 (l1:Int)),(2,.int .i64 (bo:Int))],[],J,l1<256/\fS x=bo+fS l1/\bo<=56⟩) ?Qb ?Qt
   case Qb=>
    refine If (fun fc=>?_) fun fc=>?_
    ·refine U 0x1815039 ?_;rw[auw];refine U 0x1810c39 ?_;refine fG ⟨iX / 256,aT+8⟩ ?_;try dsimp only
     exact⟨I,by have h:=PS (x:=iX) (k:=8) I;rw[show(2:Nat) ^ 8=256 from rfl] at h;omega,I⟩
    ·refine hx ?_;refine fG ⟨iX,aT⟩ ?_;try dsimp only
     exact⟨I,hinv.2.1,I⟩
   case Qt=>
    rintro⟨l1,bo⟩ hinv;try simp only at hinv
    have Ey:=W8 l1 I;have hw:IntKind.i64.wrap (((UInt8.ofNat (fS l1)).toNat:Nat):Int)=((fS l1:Nat):Int):=by
      rw[UInt8.toNat_ofNat'];rw[sw I];exact wrap_i64 I I
    refine U 0x70439 ?_;refine' W.step rfl (Exec.val rfl rfl (aeD rfl rfl rfl (U4 rfl) ?aR ?ai) ?_);case ai=>exact aql I
    case aR=>exact ck
    refine U 0x357c086e ?_;refine gZ ?_;exact⟨by rw[hw,<-so,<-hinv.2.1];rfl,rfl,rfl⟩
theorem TG{x:Nat}(aa:x<18446744073709551616):Fn (aU Q g0) 132 [.int .u64 (x:Int)] [] J (fun u m' af=>u=.int .i64 ((64 -fS x:Nat):Int)/\m'=[]/\J=af):=by
 have ai:fS x<=64:=by
  by_cases h:x=0
  ·subst h;decide
  ·obtain⟨ad,_,aD⟩:=Ld h
   by_cases k:fS x<=64
   ·exact k
   ·exfalso
    have:2 ^ 64<=2 ^ (fS x -1):=mV bI I;omega
 refine Fn.b5 (b2 Tryz.func132) rfl rfl fun H=>?_;refine U 0x1ce059 ?_;refine bC (G:=aqk aa) (h:=?_);rintro v' m' af hle ⟨rfl,rfl,rfl⟩;refine U 0x1abe043 ?_;refine gZ ?_;exact⟨by rw[show(64:Int) -((fS x:Nat):Int)=((64 -fS x:Nat):Int) by omega];rfl,rfl,rfl⟩
end
end
end Go.Opn
namespace Go.Opn
noncomputable section
structure l2 (u bB v1 v0 q r:Nat):Prop where
 e:q*v1+r=u
 lt:u*4294967296+bB<(q+1)*(v1*4294967296+v0)
theorem l2.start{u bB v1 v0:Nat}(aR:bB<4294967296)(av:0<v1):l2 u bB v1 v0 (u / v1) (u % v1):=by
 refine⟨by rw[dP];exact mT u v1,?_⟩
 have h:u+1<=(u / v1+1)*v1:=by
  rw[c6,jb,dP]
  have:=mT u v1
  have:=gA u av
  omega
 have:=fq 4294967296 h
 rw[cL,<-fy]
 rw[c6] at this
 have aD:0<=(u / v1+1)*v0:=c5 _
 omega
theorem l2.less{u bB v1 v0 q r:Nat}(h:l2 u bB v1 v0 q r)(hu:u<v1*4294967296+v0)(Ad:bB<4294967296)(aR:v0<4294967296)(ao:r<4294967296)(aC:4294967296<=q\/r*4294967296+bB<q*v0):l2 u bB v1 v0 (q -1) (r+v1)/\1<=q:=by
 have bQ:1<=q:=by
  rcases aC with c|c
  ·omega
  ·rcases jq q with k|k
   ·rw[k] at c;omega
   ·exact k
 obtain⟨p,rfl⟩:∃p,q=p+1:=⟨q -1,by omega⟩
 refine⟨⟨?_,?_⟩,bQ⟩
 ·have:=h.e
  rw[c6] at this
  rw[oo]
  omega
 ·rw[oo]
  rcases aC with c|c
  ·have ad:4294967296*(v1*4294967296+v0)<=(p+1)*(v1*4294967296+v0):=fq _ c
   have ae:(u+1)*4294967296<=(v1*4294967296+v0)*4294967296:=fq _ hu
   have:=h.lt
   rw[c6] at ae
   omega
  ·have e:=h.e
   obtain⟨q,n5⟩:∃q,q=p+1:=⟨_,rfl⟩
   rw[<-n5] at e c ⊢
   rw[cL q,<-fy q v1]
   have ad:u*4294967296=q*v1*4294967296+r*4294967296:=by rw[<-e,c6]
   rw[ad,DL]
   exact Nat.add_lt_add_left c _
theorem l2.done{u bB v1 v0 q r:Nat}(h:l2 u bB v1 v0 q r)(aC:q*v0<=r*4294967296+bB):(u*4294967296+bB) / (v1*4294967296+v0)=q/\(u*4294967296+bB) % (v1*4294967296+v0)=u*4294967296+bB -q*(v1*4294967296+v0)/\q*(v1*4294967296+v0)<=u*4294967296+bB:=by
 have ad:q*(v1*4294967296+v0)<=u*4294967296+bB:=by
  rw[cL q,<-fy q v1]
  have ad:u*4294967296=q*v1*4294967296+r*4294967296:=by rw[<-h.e,c6]
  omega
 exact⟨(yU ad h.lt).1,(yU ad h.lt).2,ad⟩
theorem l2.W5{u bB v1 v0 q r:Nat}(h:l2 u bB v1 v0 q r)(bQ:q<=4294967296)(ao:4294967296<=r)(aR:v0<4294967296):q*v0<=r*4294967296+bB:=by
 have ad:q*v0<=4294967296*v0:=fq _ bQ
 have ae:4294967296*4294967296<=r*4294967296:=sx ao (bU _)
 omega
theorem l2.avM{u v1 v0 b:Nat}(hu:u<v1*b+v0)(av:b<=v1*2)(aR:v0<b):u<(b+2)*v1:=by
 rw[c6,dP b,dP 2]
 exact A8 hu (Nat.add_lt_add_left (iM aR av) _)
theorem l2.top{u v1 v0:Nat}(hu:u<v1*4294967296+v0)(av:2147483648<=v1)(aR:v0<4294967296):u / v1<=4294967297:=by
 have h:u<4294967298*v1:=l2.avM hu (by omega) aR
 have:u / v1<4294967298:=(ni (by omega)).2 h
 omega
theorem ajh{da bB V b:Nat}(iR:0<V):(da*b+bB) / V=da / V*b+(da % V*b+bB) / V/\(da*b+bB) % V=(da % V*b+bB) % V:=by
 have e:da*b+bB=V*(da / V*b)+(da % V*b+bB):=by
  conv=>lhs;rw[<-mT da V]
  rw[c6,fy,DL]
 constructor
 ·rw[e,Wn iR]
 ·rw[e,Nat.mul_add_mod]
theorem ajg{da bB V:Nat}(iR:0<V):
 (da*4294967296+bB) / V=da / V*4294967296+(da % V*4294967296+bB) / V/\(da*4294967296+bB) % V=(da % V*4294967296+bB) % V:=ajh iR
theorem Qs{N d s:Nat}(hs:0<s):N*s / (d*s)=N / d/\N*s % (d*s) / s=N % d:=by
 refine⟨KU _ _ hs,?_⟩
 rw[Wo,tD _ hs]
theorem aur{H L k:Nat}(hk:k<=64)(a9:L<18446744073709551616):(H*18446744073709551616+L)*2 ^ k=(H*2 ^ k+L / 2 ^ (64 -k))*18446744073709551616+L*2 ^ k % 18446744073709551616:=by
 have e:(18446744073709551616:Nat)=2 ^ (64 -k)*2 ^ k:=by rw[<-o1,zp hk]
 have ad:=mT (L*2 ^ k) 18446744073709551616
 have ae:L*2 ^ k / 18446744073709551616=L / 2 ^ (64 -k):=by
  rw[e,KU _ _ (l3 k)]
 rw[ae] at ad
 rw[c6,c6]
 have cl:H*18446744073709551616*2 ^ k=H*2 ^ k*18446744073709551616:=by ac_rfl
 have dS:L / 2 ^ (64 -k)*18446744073709551616=18446744073709551616*(L / 2 ^ (64 -k)):=dP _ _
 omega
theorem Ug{a b k:Nat}(h:b<2 ^ k):a*2 ^ k ||| b=a*2 ^ k+b:=by
 rw[dP,Nat.two_pow_add_eq_or_of_lt h]
end
end Go.Opn
namespace Go.Opn
noncomputable section
open Go.Cre Go.RowKit Go.Proofs
theorem Vo(x:Int):IntKind.u64.wrap x=x % 18446744073709551616:=by
 unfold IntKind.wrap IntKind.signed IntKind.bits;simp only[Gj,ze,yp];rfl
theorem AB{x k:Nat}:IntKind.u64.wrap ((x:Int)*2 ^ ((k:Int)).toNat)=((x*2 ^ k % 18446744073709551616:Nat):Int):=by
 rw[gG,show(x:Int)*2 ^ k=((x*2 ^ k:Nat):Int) by rw[gY,Int.natCast_pow];rfl];exact Oq _
theorem y1{x k:Nat}:(x:Int).fdiv (2 ^ ((k:Int)).toNat)=((x / 2 ^ k:Nat):Int):=by
 rw[gG];exact JZ
theorem JI{a b:Nat}(aF:a<18446744073709551616)(ai:b<18446744073709551616):IntKind.u64.wrap ((BitVec.ofInt IntKind.u64.bits (a:Int) ||| BitVec.ofInt IntKind.u64.bits (b:Int)).toNat:Int)=((a ||| b:Nat):Int):=by
 have e:(BitVec.ofInt 64 (a:Int) ||| BitVec.ofInt 64 (b:Int)).toNat=a ||| b:=by
  rw[BitVec.toNat_or];have ad:(BitVec.ofInt 64 (a:Int)).toNat=a:=by rw[BitVec.toNat_ofInt];omega
  have ae:(BitVec.ofInt 64 (b:Int)).toNat=b:=by rw[BitVec.toNat_ofInt];omega
  rw[ad,ae]
 show IntKind.u64.wrap ((BitVec.ofInt 64 (a:Int) ||| BitVec.ofInt 64 (b:Int)).toNat:Int)=_;rw[e];exact Vp (O8 (n:=64) aF ai)
theorem tp{x d:Nat}(aa:x<18446744073709551616):IntKind.u64.wrap ((x:Int).tdiv (d:Int))=((x / d:Nat):Int):=by
 have hb:(x:Int).tdiv (d:Int)=((x / d:Nat):Int):=rfl;rw[hb];exact Vp (mU (tC x d) aa)
theorem ae7{u u1 P R:Nat}(cI:P+R=u*4294967296+u1)(c1:R<18446744073709551616):IntKind.u64.wrap (IntKind.u64.wrap (IntKind.u64.wrap ((u:Int)*4294967296)+(u1:Int)) -IntKind.u64.wrap (P:Int))=(R:Int):=by
 simp only[Vo];omega
theorem ag1{x:Nat}(h:x<18446744073709551616):fS x<=64:=by
 by_cases aR:x=0
 ·subst aR;decide
 ·obtain⟨ad,_,aD⟩:=Ld aR
  by_cases k:fS x<=64
  ·exact k
  ·exfalso
   have:2 ^ 64<=2 ^ (fS x -1):=mV bI I;omega
theorem Nl{d:Nat}(aR:d≠0)(h:d<18446744073709551616):d*2 ^ (64 -fS d)<18446744073709551616/\9223372036854775808<=d*2 ^ (64 -fS d)/\64 -fS d<=63:=by
 obtain⟨ad,ae,aD⟩:=Ld aR;have a6:=ag1 h;have ax:2 ^ fS d*2 ^ (64 -fS d)=18446744073709551616:=by rw[<-o1,show fS d+(64 -fS d)=64 by omega]
 have aS:2 ^ (fS d -1)*2 ^ (64 -fS d)=9223372036854775808:=by rw[<-o1,show fS d -1+(64 -fS d)=63 by omega]
 have eM:=DO ae (l3 (64 -fS d));have fH:=fq (2 ^ (64 -fS d)) ad;omega
structure afr (H L d k V v1 v0 u w u1 bB jt:Nat):Prop where
 hk:k=64 -fS d
 aaw:k<=63
 iR:d*2 ^ k=V
 vx:V=v1*4294967296+v0
 KY:V<18446744073709551616
 Oa:2147483648<=v1
 aeA:v1<4294967296
 rp:v0<4294967296
 VQ:H*2 ^ k<18446744073709551616
 A4:L / 2 ^ (64 -k)<2 ^ k
 afU:L / 2 ^ (64 -k)<18446744073709551616
 hu:u=H*2 ^ k+L / 2 ^ (64 -k)
 aev:u<V
 hw:L*2 ^ k % 18446744073709551616=w
 Oh:w<18446744073709551616
 Cn:w / 4294967296=u1
 uE:w % 4294967296=bB
 Dc:u1<4294967296
 Db:bB<4294967296
 Pb:jt=(u*4294967296+u1) % V
 Ww:jt<V
 bQ:(H*18446744073709551616+L) / d=(u*4294967296+u1) / V*4294967296+(jt*4294967296+bB) / V
 ao:(H*18446744073709551616+L) % d=(jt*4294967296+bB) % V / 2 ^ k
 r1:(u*4294967296+u1) / V*4294967296+(jt*4294967296+bB) / V<18446744073709551616
theorem ajb{H L d:Nat}(hV:H<d)(a9:L<18446744073709551616)(au:d<18446744073709551616):∃k V v1 v0 u w u1 bB jt,afr H L d k V v1 v0 u w u1 bB jt:=by
 have l8:d≠0:=I
 obtain⟨k,hk⟩:∃k,k=64 -fS d:=⟨_,rfl⟩;obtain⟨b1,df,ef⟩:=Nl l8 au;rw[<-hk] at b1 df ef;obtain⟨V,iR⟩:∃V,d*2 ^ k=V:=⟨_,rfl⟩;rw[iR] at b1 df;obtain⟨w,hw⟩:∃w,L*2 ^ k % 18446744073709551616=w:=⟨_,rfl⟩;have uG:w<18446744073709551616:=by rw[<-hw];exact gA _ bI
 have ayM:H*2 ^ k<V:=by rw[<-iR];exact DO hV (l3 k)
 have ajT:2 ^ (64 -k)*2 ^ k=18446744073709551616:=by rw[<-o1,zp I]
 have amA:L / 2 ^ (64 -k)<2 ^ k:=(ni (l3 _)).2 (by rw[dP,ajT];exact a9);obtain⟨u,hu⟩:∃u,u=H*2 ^ k+L / 2 ^ (64 -k):=⟨_,rfl⟩;have aoQ:u<V:=by
  have ad:(H+1)*2 ^ k<=V:=by rw[<-iR];exact fq _ hV
  rw[c6,jb] at ad;omega
 have hs:=aur (H:=H) (k:=k) I a9;rw[<-hu,hw] at hs;have qg:=l3 k;have zU:0<V:=I
 have e:u*18446744073709551616+w=(u*4294967296+w / 4294967296)*4294967296+w % 4294967296:=I
 obtain⟨s1,s2⟩:=Qs (N:=H*18446744073709551616+L) (d:=d) qg;obtain⟨t1,t2⟩:=ajg (da:=u*4294967296+w / 4294967296) (bB:=w % 4294967296) zU;rw[iR,hs,e] at s1 s2;refine⟨k,V,V / 4294967296,V % 4294967296,u,w,w / 4294967296,w % 4294967296,_,hk,ef,iR,I,b1,I,I,I,I,amA,mU (tC _ _) a9,hu,aoQ,hw,uG,rfl,rfl,I,I,rfl,gA _ zU,s1.symm.trans t1,by rw[<-s2,t2],?_⟩;rw[<-t1,s1];exact(ni I).2 (by
  have:=fq 18446744073709551616 hV;rw[dP 18446744073709551616 d];rw[o2] at this;omega)
section
variable {Q:c7 Tryz.prog}{g0:Nat}{J:aj}
theorem Qr{H L d:Nat}(hV:H<d)(a9:L<18446744073709551616)(au:d<18446744073709551616):Fn (aU Q g0) 119 [.int .u64 (H:Int),.int .u64 (L:Int),.int .u64 (d:Int)] [] J (fun u m' af=>u=.tuple #[.int .u64 (((H*18446744073709551616+L) / d:Nat):Int),.int .u64 (((H*18446744073709551616+L) % d:Nat):Int)]/\m'=[]/\J=af):=by
 obtain⟨k,gW,v1,v0,u,w,u1,bB,jt,D⟩:=ajb hV a9 au;have aaw:=D.aaw;have iR:=D.iR;have vx:=D.vx;have KY:=D.KY;have Oa:=D.Oa;have aeA:=D.aeA;have rp:=D.rp;have aev:=D.aev;have Dc:=D.Dc;have Db:=D.Db;have Pb:=D.Pb;have Ww:=D.Ww;have r1:=D.r1;refine Fn.b5 (b2 Tryz.func119) rfl rfl fun axB=>?_;refine U 0x17c1039c0859 ?_;refine If (fun hC=>?_) fun hC=>?_
 ·exfalso;omega
 ·refine U 0xbe0810e757 ?_;refine If (fun sG=>?_) fun sG=>?_
  ·exfalso;omega
  ·refine U 0x5f040e757 ?_;refine If (fun jv=>?_) fun jv=>?_
   ·have aR:H=0:=I
    subst aR;rw[jE,j2];refine a2 ?_;refine az.draw rfl (by kernel_rfl) (a1:=[.val 0,.val 1,.val 2,.val 3,.val 4,.val 5,.val 6,.val 7]) (by kernel_rfl) ?_;refine U 0x6af8109e10bc21 ?_;refine gZ ?_
    exact⟨by rw[tp a9];rfl,rfl,rfl⟩
   ·refine U 0xe757 ?_;refine bC (G:=TG au) (h:=?_);rintro v' m' af hle ⟨rfl,rfl,rfl⟩;rw[<-D.hk];refine U 0x1815021ce04e ?_;rw[AB,iR,sw KY];refine U 0x5039 ?_;rw[AD,show gW / 4294967296=v1 by omega];refine U 0x140e702 ?_;rw[GI KY,show gW % 4294967296=v0 by omega];refine U 0x2810e702 ?_;rw[AB,sw D.VQ];refine U 0xc21 ?_;rw[show(64:Int) -(k:Int)=((64 -k:Nat):Int) by omega];refine eZ V.o4 ?_;rw[y1];refine eZ V.o4 ?_;rw[JI D.VQ D.afU,Ug D.A4,<-D.hu];refine U 0x2810e702 ?_;rw[AB,D.hw];refine U 0x140e702 ?_;rw[AD,D.Cn];refine U 0x140e702 ?_;rw[GI D.Oh,D.uE];refine U 0x1e10e702 ?_;rw[tp I];obtain⟨hZ,s3⟩:∃q,q=u / v1:=⟨_,rfl⟩;obtain⟨jR,cT⟩:∃r,r=u % v1:=⟨_,rfl⟩;have hm:hZ*v1+jR=u:=by rw[s3,cT,dP];exact mT u v1
    have ZT:jR<v1:=by rw[cT];exact gA _ I
    have eB:l2 u u1 v1 v0 hZ jR:=by rw[s3,cT];exact l2.start Dc I
    have Iy:hZ<=4294967297:=by rw[s3];exact l2.top I Oa rp
    rw[<-s3];refine U 0x18c210e702 ?_;rw[show(u:Int) -(hZ:Int)*(v1:Int)=(jR:Int) by omega];refine U 0x302 ?_;refine c4 [15,16,2,8,9,10,11,13,14] ?_;refine a2 ?_;refine' az.lb 2 (fun(aL:Nat)=>⟨[(15,.int .u64 (aL:Int))],[],J,aL=(u*4294967296+u1) / gW⟩) ?xE ?xL;case xE=>
     refine az.block ?_;refine c3 [(15,.int .u64 ((hZ):Int)),(16,.int .u64 ((jR):Int)),(2,_),(8,_),(9,_),(10,_),(11,_),(13,_),(14,_)] ?_;refine a2 ?_;refine' az.kv (fun(bK:Nat×Nat)=>match bK with|(q,r)=>⟨[(15,.int .u64 (q:Int)),(16,.int .u64 (r:Int))],l2 u u1 v1 v0 q r/\r<4294967296/\q<=4294967297,q⟩) ⟨hZ,jR⟩ ?hs ?a7
     case hs=>exact⟨eB,I,Iy⟩
     case a7=>
      rintro⟨q,r⟩ hinv;try simp only at hinv
      obtain⟨cp,ao,bQ⟩:=hinv;refine c4 [2,8,9,10,11,13,14,15,16] ?_;refine a2 ?_;refine' az.en 0 [(78,.bool (decide ((4294967296<=q\/r*4294967296+u1<q*v0))))] ?xG ?xM;case xG=>
        refine U 0x903a ?_;refine c0 69 (fun alI=>?_) fun alI=>?_
        ·refine U 0x308def7bdef7b ?_;refine di (dk ?_);omega
        ·have ai:=Fq (a:=q) (b:=v0) I I;refine U 0x30820c2308c21 ?_;refine di (dk ?_);omega
      case xM=>
        refine a2 ?_;refine If (fun Bh=>?_) fun Bh=>?_
        ·have n4:=(cp.less I Dc rp ao Bh).2;refine U 0xbe081ce0430873810c39d5f57 ?_;refine If (fun ahz=>?_) fun ahz=>?_
         ·refine U 0x357 ?_;refine fG (q -1) ?_;try dsimp only
          rw[vx];exact((cp.less I Dc rp ao Bh).1.done (l2.W5 (cp.less I Dc rp ao Bh).1 I I rp)).1.symm
         ·refine hx ?_;refine kx ⟨q -1,r+v1⟩ ?_;exact⟨(cp.less I Dc rp ao Bh).1,I,I⟩
        ·refine U 0x357 ?_;refine fG (q) ?_;try dsimp only
         rw[vx];exact(cp.done I).1.symm
    case xL=>
     rintro aL hinv;try simp only at hinv
     have n4:=hinv;have cI:=(show ∃P,P=aL*gW/\P+jt=u*4294967296+u1 from⟨_,rfl,by rw[n4,Pb,dP];exact mT _ gW⟩);obtain⟨P,x0,sS⟩:=cI;refine U 0x31842308c39 ?_;rw[wG x0,ae7 sS I];refine U 0x1e10e702 ?_;rw[tp I];obtain⟨jQ,ma⟩:∃q,q=jt / v1:=⟨_,rfl⟩;obtain⟨oV,SM⟩:∃r,r=jt % v1:=⟨_,rfl⟩;have ZE:jQ*v1+oV=jt:=by rw[ma,SM,dP];exact mT jt v1
     have azN:oV<v1:=by rw[SM];exact gA _ I
     have r2:l2 jt bB v1 v0 jQ oV:=by rw[ma,SM];exact l2.start Db I
     have aoc:jQ<=4294967297:=by rw[ma];exact l2.top I Oa rp
     rw[<-ma];refine U 0x18c210e702 ?_;rw[show(jt:Int) -(jQ:Int)*(v1:Int)=(oV:Int) by omega];refine U 0x302 ?_;refine c4 [9,10,16,18,2,8,14,15,17] ?_;refine a2 ?_;refine' az.lb 4 (fun(aG:Nat)=>⟨[(18,.int .u64 (aG:Int))],[],J,aG=(jt*4294967296+bB) / gW⟩) ?G1 ?Hf;case G1=>
      refine az.block ?_;refine c3 [(18,.int .u64 ((jQ):Int)),(16,.int .u64 ((oV):Int)),(2,_),(8,_),(9,_),(10,_),(14,_),(15,_),(17,_)] ?_;refine a2 ?_;refine' az.kv (fun(bK:Nat×Nat)=>match bK with|(q,r)=>⟨[(18,.int .u64 (q:Int)),(16,.int .u64 (r:Int))],l2 jt bB v1 v0 q r/\r<4294967296/\q<=4294967297,q⟩) ⟨jQ,oV⟩ ?hs ?a7
      case hs=>exact⟨r2,I,aoc⟩
      case a7=>
        rintro⟨q,r⟩ hinv;try simp only at hinv
        obtain⟨cp,ao,bQ⟩:=hinv;refine c4 [2,8,9,10,14,15,16,17,18] ?_;refine a2 ?_;refine' az.en 0 [(113,.bool (decide ((4294967296<=q\/r*4294967296+bB<q*v0))))] ?aiK ?ajH;case aiK=>
         refine U 0x903a ?_;refine c0 104 (fun alU=>?_) fun alU=>?_
         ·refine U 0x308def7bdef7b ?_;refine di (dk ?_);omega
         ·have ai:=Fq (a:=q) (b:=v0) I I;refine U 0x30820c2308c21 ?_;refine di (dk ?_);omega
        case ajH=>
         refine a2 ?_;refine If (fun xy=>?_) fun xy=>?_
         ·have azM:=(cp.less I Db rp ao xy).2;refine U 0xbe081ce0430873810c39d5f57 ?_;refine If (fun ahe=>?_) fun ahe=>?_
          ·refine U 0x357 ?_;refine fG (q -1) ?_;try dsimp only
           rw[vx];exact((cp.less I Db rp ao xy).1.done (l2.W5 (cp.less I Db rp ao xy).1 I I rp)).1.symm
          ·refine hx ?_;refine kx ⟨q -1,r+v1⟩ ?_;exact⟨(cp.less I Db rp ao xy).1,I,I⟩
         ·refine U 0x357 ?_;refine fG (q) ?_;try dsimp only
          rw[vx];exact(cp.done I).1.symm
     case Hf=>
      rintro aG hinv;try simp only at hinv
      have n5:=hinv;obtain⟨vu,Rx,amE⟩:=(show ∃P,P=aG*gW/\P+(jt*4294967296+bB) % gW=jt*4294967296+bB from⟨_,rfl,by rw[n5,dP];exact mT _ gW⟩);have ay5:(jt*4294967296+bB) % gW<gW:=gA _ I;rw[<-n4,<-n5] at r1;have mv:(aL:Int)*4294967296+(aG:Int)=(((H*18446744073709551616+L) / d:Nat):Int):=by rw[D.bQ,<-n4,<-n5,so,gY];rfl
      refine U 0x308c39 ?_;rw[mv];refine U 0x18c2118461 ?_;rw[wG Rx,ae7 amE I];refine U 0x281 ?_;rw[y1,<-D.ao];refine U 0x1abe042 ?_;refine gZ ?_
      exact⟨rfl,rfl,rfl⟩
end
end
end Go.Opn
namespace Go.Opn
noncomputable section
theorem aeN:∀{l:List Nat},(∀j y:Nat,l[j]?=some y->y=0)->a5 l=0
 |[],_=>rfl
 |x::l,h=>by
  show x+18446744073709551616*a5 l=0
  rw[h 0 x rfl,aeN (l:=l) fun j y aX=>h (j+1) y aX]
theorem aeq{l:List Nat}{k:Nat}(ah:okW l)(hk:k<=l.length)(aM:∀j y,k<=j->l[j]?=some y->y=0)(aE:∀y,0<k->l[k -1]?=some y->y≠0):l.take k=aO (a5 l):=by
 have ad:zh (l.take k):=⟨th ah,fun x aa=>by
  have aw:0<k:=by
   rcases jq k with q|q
   ·rw[q] at aa;cases aa
   ·exact q
  refine aE x aw ?_
  rw[rC,eA,g6 hk,jY,aV (by omega)] at aa
  exact aa⟩
 have ae:=Dk l k hk
 rw[aeN (l:=l.drop k) fun j y aX=>by
  rw[o0] at aX
  exact aM (k+j) y (by omega) aX] at ae
 rw[LA ad,ae]
 congr 1
theorem ae4{x:Nat}:∀{k:Nat},x<18446744073709551616 ^ k->(aO x).length<=k:=by
 intro k
 induction k generalizing x with
 |zero=>
  intro h
  have:x=0:=by rw[zo] at h;omega
  rw[this,sk];exact bU _
 |succ k aP=>
  intro h
  by_cases q:x=0
  ·rw[q,sk];exact c5 _
  ·rw[w2 q,kR]
   have:x / 18446744073709551616<18446744073709551616 ^ k:=by
        rw[ni (by decide),<-fP];exact h
   have:=aP this
   omega
theorem AN{x k:Nat}(h:(aO x).length<=k):x<18446744073709551616 ^ k:=by
 have ad:=sj (n9 x)
 rw[kd] at ad
 exact iM ad (mV (by decide) h)
theorem Kh{x:Nat}(h:x≠0):(aO x).length≠0:=by rw[w2 h,kR];omega
theorem nL{x:Nat}(h:(aO x).length≠0):x≠0:=fun q=>by rw[q,sk] at h;exact h rfl
theorem Oj{x y:Nat}(h:(aO x).length<(aO y).length):x<y:=by
 have:=awI (n9 x) (XC y) h
 rwa [kd,kd] at this
theorem ae5{x y i a b:Nat}(aF:(aO x)[i]?=some a)(ai:(aO y)[i]?=some b)(au:(aO x).drop (i+1)=(aO y).drop (i+1))(h:a<b):x<y:=by
 have:=awJ (n9 x) aF ai au h
 rwa [kd,kd] at this
theorem AL(l:List Nat)(i:Nat):a5 (l.take (i+1))=a5 (l.take i)+18446744073709551616 ^ i*l.getD i 0:=by
 by_cases h:i<l.length
 ·rw[lz (ey h),nP,ey h];rfl
 ·rw[nP,jX (by omega),cU (by omega),cU (by omega)];rfl
theorem Dj(l:List Nat)(x:Nat):a5 (l++[x])=a5 l+18446744073709551616 ^ l.length*x:=by rw[u7,Oc]
theorem HD{l:List Nat}(h:okW l)(i:Nat):l.getD i 0<18446744073709551616:=by
 rw[nP]
 rcases q:l[i]? with _|x
 ·decide
 ·exact yK h q
theorem Jw:okW []:=fun z aM=>(by cases aM)
end
end Go.Opn
