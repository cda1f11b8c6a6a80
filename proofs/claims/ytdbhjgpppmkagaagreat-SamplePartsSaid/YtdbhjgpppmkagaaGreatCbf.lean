/- A part of the proof of SampleParts. -/
import Derived.Test.YtdbhjgpppmkagaaGreatCbe
set_option linter.unusedVariables false
set_option linter.unusedSimpArgs false
namespace Go.Opn
noncomputable section
open Go.Cre Go.RowKit
def Ni (P:Program)(t:TypeId):Bool:=match P.underlying t with
 |some (.array 2 e)=>(match P.underlying e with|some (.int .i64)=>true|_=>false)&&(match eB P e with|some 1=>true|_=>false)&&!P.eqGuardType P.depth t
 |_=>false
theorem aaV{P:Program}{t:TypeId}{k:Nat}(h:eB P t=some k):fI P (sizeOf t)=some k:=by
 unfold eB at h;split at h
 ·rename_i i ak;injection h with h;subst h
  unfold sizeOf;rw[eC (a:=i)]
  ·rfl
  ·unfold typeInfo;rw[eC (a:=P) rfl,ak];rfl
 ·cases h
theorem OF{P:Program}{e:TypeId}{n i:Nat}{xs ys:Array Value}{a c:Int}(he:P.underlying e=some (.int .i64))(I:xs[i]?=some (.int .i64 a))(ah:ys[i]?=some (.int .i64 c)):fI P (do
 let r2 <-part e xs i
 let C6 <-part e ys i
 let r2 <-Op.equalIn (n+1) e r2 C6
 if(!r2)=true then pure (ForInStep.done ((some false,()):Option Bool×Unit)) else pure (ForInStep.yield (none,())))=some (if a=c then ForInStep.yield (none,()) else ForInStep.done (some false,())):=by
 rw[eC (I4 he I),eC (I4 he ah),eC (eq_int he)];by_cases nO:a=c
 ·simp[nO];rfl
 ·simp[nO];rfl
theorem aas{P:Program}{t:TypeId}{n:Nat}{a b c d:Int}(aN:Ni P t=true):fI P (Op.equalIn (n+1+1) t (.agg #[.int .i64 a,.int .i64 b]) (.agg #[.int .i64 c,.int .i64 d]))=some (decide (a=c/\b=d))/\P.eqGuardType P.depth t=false:=by
 unfold Ni at aN;split at aN
 ·rename_i e hu;simp only[fR,pJ] at aN;obtain⟨⟨aa,ab⟩,aK⟩:=aN;have he:P.underlying e=some (.int .i64):=by split at aa;assumption;cases aa
  have al:eB P e=some 1:=by split at ab;assumption;cases ab
  refine⟨?_,aK⟩;unfold Op.equalIn;rw[eC (AY hu)];simp only
  rw[eC (aaV al)];simp only[Std.Legacy.Range.forIn_eq_forIn_range',Std.Legacy.Range.size]
  show fI P (do
   let r <-forIn [0,1] ((none,()):Option Bool×Unit) _
   _)=_
  rw[PI];by_cases aa:a=c
  ·have aZ:=OF (n:=n) (xs:=#[.int .i64 a,.int .i64 b]) (ys:=#[.int .i64 c,.int .i64 d]) (i:=0) he rfl rfl;rw[aF aa] at aZ;rw[eC (a:=((if b=d then none else some false,()):Option Bool×Unit))]
   ·by_cases ab:b=d
    ·rw[aF ab];simp[aa,ab];rfl
    ·rw[aq ab];simp[ab];rfl
   ·rw[eC aZ];simp only
    rw[PI];have aR:=OF (n:=n) (xs:=#[.int .i64 a,.int .i64 b]) (ys:=#[.int .i64 c,.int .i64 d]) (i:=1) he rfl rfl;rw[eC aR];by_cases ab:b=d
    ·simp[ab];rfl
    ·simp[ab];rfl
  ·have aZ:=OF (n:=n) (xs:=#[.int .i64 a,.int .i64 b]) (ys:=#[.int .i64 c,.int .i64 d]) (i:=0) he rfl rfl;rw[aq aa] at aZ;rw[eC (a:=((some false,()):Option Bool×Unit))]
   ·simp[aa];rfl
   ·rw[eC aZ];rfl
 ·cases aN
section
variable {K:eN}{B:dO}{o:Oper}{n:Nat}{ds:eQ}{l:List (Nat×Value)}{m m':aI}{J:aA}{eF:b9->aI->aA->Prop}{d:Nat}
theorem akp{op:BinOp}{t eV:TypeId}{x y:Operand}{a b c e:Int}{r:Bool}(an:o.op=.binOp op t x y eV)(dU:op=.eql/\r=decide (a=c/\b=e)\/op=.neq/\r=decide (¬(a=c/\b=e)))(I:bW l x=some (.agg #[.int .i64 a,.int .i64 b]))(ah:bW l y=some (.agg #[.int .i64 c,.int .i64 e]))(aN:Ni K.P t=true):c1 K B o n ds l m J (.bool r):=by
 obtain⟨aa,ab⟩:=aas (n:=9998) (a:=a) (b:=b) (c:=c) (d:=e) aN;intro call aL S H aC aE;have dq:∀p q:Int,plain (.agg #[.int .i64 p,.int .i64 q])=true:=fun p q=>rfl;unfold cY fU;simp only[an];show nr K.P _ op t (a6 S.T H x) (a6 S.T H y)=_;rw[ey aC H I,ey aC H ah];show orElse (gH K.P S.T H o) _=_;have:gH K.P S.T H o=some (.val (.bool r) H):=by
  refine uq aC (by rw[an];rfl) I ah (dq _ _) (dq _ _) ?_ rfl;unfold execOp;simp only[an];rw[lx aC H I,lx aC H ah];rw[eC (a:=.bool r)]
  ·rfl
  rcases dU with⟨rfl,rfl⟩|⟨rfl,rfl⟩
  ·rw[eC (a:=())]
   ·have ai:binOp .eql t (.agg #[.int .i64 a,.int .i64 b]) (.agg #[.int .i64 c,.int .i64 e])=(do pure (.bool (<-Op.equal t (.agg #[.int .i64 a,.int .i64 b]) (.agg #[.int .i64 c,.int .i64 e])))):=by simp[binOp]
    rw[ai,eC (s:=Op.equal t _ _) aa];rfl
   ·unfold eqGuard;simp only[lK,yl,xA];rw[eC (a:=K.P) rfl,eC (a:=K.P) rfl,ab];rfl
  ·rw[eC (a:=())]
   ·have ai:binOp .neq t (.agg #[.int .i64 a,.int .i64 b]) (.agg #[.int .i64 c,.int .i64 e])=(do pure (.bool (!(<-Op.equal t (.agg #[.int .i64 a,.int .i64 b]) (.agg #[.int .i64 c,.int .i64 e]))))):=by simp[binOp]
    rw[ai,eC (s:=Op.equal t _ _) aa];show some (Value.bool (!decide (a=c/\b=e)))=_;rw[show(!decide (a=c/\b=e))=decide (¬(a=c/\b=e)) by simp]
   ·unfold eqGuard;simp only[lK,yl,xA];rw[eC (a:=K.P) rfl,eC (a:=K.P) rfl,ab];rfl
 rw[this];rfl
end
end
end Go.Opn
set_option maxRecDepth 100000
set_option maxHeartbeats 4000000
namespace Go.Opn
noncomputable section
open Go.Cre Go.RowKit Go.Proofs
def iS(s:List (Int×Int)):List Value:=s.flatMap fun x=>[.int .i64 x.1,.int .i64 x.2]
theorem Vp(s:List (Int×Int)):(iS s).length=s.length*2:=by
 unfold iS;induction s with
 |nil=>rfl
 |cons x s aG=>rw[PG,er,aG,j2];simp;omega
theorem N5:∀{s:List (Int×Int)} {i:Nat},(iS s).drop (i*2)=iS (s.drop i):=by
 intro s;induction s with
 |nil=>intro i;simp[iS]
 |cons x s aG=>
  intro i;cases i with
  |zero=>rfl
  |succ i=>
   rw[show(i+1)*2=(i*2)+1+1 by omega];show((.int .i64 x.1:Value)::(.int .i64 x.2)::iS s).drop (i*2+1+1)=iS (s.drop i);rw[List.drop_succ_cons,List.drop_succ_cons,aG]
theorem ahV:∀{s:List (Int×Int)} {i:Nat},(iS s).take (i*2)=iS (s.take i):=by
 intro s;induction s with
 |nil=>intro i;simp[iS]
 |cons x s aG=>
  intro i;cases i with
  |zero=>simp[iS]
  |succ i=>
   rw[show(i+1)*2=(i*2)+1+1 by omega];show((.int .i64 x.1:Value)::(.int .i64 x.2)::iS s).take (i*2+1+1)=_;rw[Kc,Kc,aG];rfl
theorem Vn(a b:List (Int×Int)):iS (a++b)=iS a++iS b:=by unfold iS;rw[List.flatMap_append]
theorem Vo{s:List (Int×Int)}{i off:Nat}{x:Int×Int}(h:s[i]?=some x)(an:off=i*2:=by omega):takeN 2 (nI off (iS s))=some [.int .i64 x.1,.int .i64 x.2]:=by
 subst an;have ak:=(dv.1 h).1;rw[vd,N5,od ak];have:s[i]=x:=by rw[du ak] at h;injection h
 rw[this];rfl
theorem Vq{s:List (Int×Int)}{i off:Nat}{x:Int×Int}(h:i<s.length)(an:off=i*2:=by omega):gE off (iS s) [.int .i64 x.1,.int .i64 x.2]=some (iS (s.set i x)):=by
 subst an;rw[z7 _ _ _ (by rw[Vp];simp;omega),ahV,show i*2+[(.int .i64 x.1:Value),.int .i64 x.2].length=(i+1)*2 by simp;omega,N5,Kb,aF h,Vn];show _=some (iS (s.take i)++([.int .i64 x.1,.int .i64 x.2]++iS (s.drop (i+1))));rw[j0]
theorem Acc.alF{e:TypeId}{aj k:Nat}{v:Value}{cells:List Value}{aY:aI}(h:Acc e aj v k cells aY)(bC:lI aY)(aM:cE aY):(∃b,v=.slice b 0 0/\k=0/\cells=[]/\aY=[])\/∃a rest,v=.slice (some ⟨a,0,none⟩) k cR/\aY=[(a,.opn cells e rest 0)]/\cells.length=k*aj:=by
 cases h with
 |nil=>exact .inl ⟨_,rfl,rfl,rfl,rfl⟩
 |lu a=>exact .inl ⟨_,rfl,rfl,rfl,rfl⟩
 |opn aa ab=>
  have:=bC _ _ _ _ _ (.head _);subst this;exact .inr ⟨_,_,rfl,rfl,aa⟩
 |cap=>exact absurd (.head _) (aM _ _ _)
section
variable {Q:db Tryz.prog}{g0:Nat}{J:aA}
theorem ak5{dm hx ad cq:Nat}{g:bp}{aT bi:Option Addr}{aP ci:Nat}{P:List Int}{g5 bO:Nat}{s:List (Int×Int)}{v:Value}{aY:aI}{a:Nat}{k:Int}
 (ar:hB J g aT aP bi ci)(hw:ti J dm hx ad cq g aT aP bi ci P)(dr:g.ns.length<=2000)(aW:a<g.ns.length)(al:s.length<=2000)(fo:Acc 171 2 v s.length (iS s) aY)(bC:lI aY)(aM:cE aY):
 Fn (a2 Q g0) 100 [.int .i64 (a:Int),.int .i64 k,.pointer (some ⟨g5,0,none⟩),.pointer (some ⟨bO,0,none⟩)] ((g5,.row [v] 166)::(bO,.row [.pointer (some ⟨dm,0,none⟩)] 139)::aY) J (fun u m' ag=>J=ag/\u=.bool true/\∃v' hy,m'=(g5,.row [v'] 166)::(bO,.row [.pointer (some ⟨dm,0,none⟩)] 139)::hy/\Acc 171 2 v' (s.length+1) (iS (s++[(ms g a,k)])) hy/\lI hy/\cE hy):=by
 obtain⟨_,ky⟩:=ar.n.at;have kZ:addrEq bi bi=true:=ar.i.addr;have lj:addrEq aT aT=true:=ar.n.addr;have xy:=hw.w;obtain⟨a1,off,cells,bn,rfl,jP,tV⟩:=ky (by omega);obtain⟨y,cs,ah,kx,mU,gB⟩:=tV a (by omega) (by omega);obtain⟨bE,bx,bS,bT,cJ,dA,rfl,lc,nX,rq⟩:=gB;have oz:=mU 2 _ (by decide) rfl;rw[ea] at ah;have sw:ms g a=y.i:=by unfold ms;rw[ah]
 obtain⟨bv,eY,rfl⟩:=fo.form;have Ji:=fo.addr;refine Fn.dw (dB Tryz.func100) rfl rfl fun H=>?_;refine rg ?_;refine U V.a7 ?_;refine ns ?_;refine ae.draw rfl (by kernel_rfl) (a8:=[.val 0,.val 1,.val 2,.val 3,.val 4,.val 5,.val 6,.val 7,.val 8,.val 9,.val 10,.val 11,.f' 12,.c9 [11,10,9,8,7,6,5,4,3,2,1,0],.cv 13,.cv 14]) (by kernel_rfl) ?_;refine aB rfl V.a9 ?_;refine aB rfl V.a9 ?_;refine cm ?_;refine aB rfl V.a9 ?_;refine aB rfl V.az ?_;refine aB rfl V.bf ?_;refine aB rfl V.bU ?_;refine aB rfl V.a9 ?_;refine aB rfl V.az ?_;refine aB rfl V.lp ?_;refine a3.buildSlice rfl rfl rfl rfl rfl rfl (VU Q g0) rfl rfl rfl fun alW=>?_;refine a3.c9 g7 ?_;refine' a3.ij rfl rfl (O8 rfl rfl rfl rfl rfl rfl (VU Q g0) (aj' Q g0) (fun i q=>by cases q) ?fo ?hm ?I ?df ?dR ?ay fun apc afS Sw TN=>?_);case fo=>assumption
 case hm=>exact jn (l₁:=[_,_,_])
 case I=>exact nw
 case df=>first|rfl|(simp;done)|(simp;omega)
 case dR=>first|rfl|exact mX _
 case ay=>exact cQ
 obtain⟨al7,r9,rfl⟩:=Sw.form;refine m6 rfl ?_;refine a3.nil ?_;refine ae.gZ (jn (l₁:=[_,_,_])) ?_;refine rg ?_;refine U V.a7 ?_;refine ns ?_;refine ae.ret ?_;refine'⟨.inr rfl,rfl,_,_,.tmp rfl .nil,.cons _ (bV _),⟨rfl,rfl,_,afS,rfl,by rw[sw,Vn];exact Sw,TN.1 bC,TN.2 aM⟩⟩
def Jk(s:List (Int×Int))(i:Nat)(cur:List (Int×Int)):Prop:=cur.length=s.length/\∀j,j<s.length->cur[j]?=if j<i\/s.length<=j+i then s[s.length -1 -j]? else s[j]?
theorem aiA{s cur:List (Int×Int)}{i:Nat}{x y:Int×Int}(h:Jk s i cur)(ak:i+i+1<s.length)(I:cur[i]?=some x)(ah:cur[s.length -1 -i]?=some y):Jk s (i+1) ((cur.set i y).set (s.length -1 -i) x):=by
 obtain⟨aa,ab⟩:=h;refine⟨by rw[hW,hW];exact aa,fun j aU=>?_⟩;rw[ab i (by omega),aq (by omega)] at I;rw[ab _ (by omega),aq (by omega)] at ah;rw[j1,j1,hW,aa];by_cases aZ:s.length -1 -i=j
 ·subst aZ
  rw[aF rfl,aF (by omega),aF (by omega),show s.length -1 -(s.length -1 -i)=i by omega,I]
 ·rw[aq aZ]
  by_cases aR:i=j
  ·subst aR
   rw[aF rfl,aF (by omega),aF (by omega),ah]
  ·rw[aq aR,ab j aU]
   by_cases bY:j<i\/s.length<=j+i
   ·rw[aF bY,aF (by omega)]
   ·rw[aq bY,aq (by omega)]
theorem aiz{s cur:List (Int×Int)}{i:Nat}(h:Jk s i cur)(ak:s.length<=i+i+1):cur=s.reverse:=by
 obtain⟨aa,ab⟩:=h;apply mb
 intro j;by_cases aU:j<s.length
 ·rw[ab j aU,List.getElem?_reverse aU]
  split
  ·rfl
  ·congr 1;omega
 ·rw[hg (by omega),hg (by rw[CU];omega)]
theorem aiB{s:List (Int×Int)}{v:Value}{aY:aI}(al:s.length<=2000)(fo:Acc 171 2 v s.length (iS s) aY)(bC:lI aY)(aM:cE aY):
 Fn (a2 Q g0) 101 [v] aY J (fun u m' ag=>J=ag/\Acc 171 2 v s.length (iS s.reverse) m'):=by
 have am7:=fo;rcases fo.alF bC aM with⟨b,rfl,bt,_,rfl⟩|⟨a,rest,rfl,rfl,hlen⟩
 ·obtain rfl:s=[]:=qL.1 bt
  refine Fn.dw (dB Tryz.func101) rfl rfl fun H=>?_;refine rg ?_;refine aV ?_;refine U V.va ?_;refine aV ?_;refine ns ?_;refine ae.block ?_;refine' ae.fy (l':=[(2,.int .i64 0),(3,.int .i64 (-1)),(0,_)]) ⟨?gS,?ia,rfl,trivial⟩ (bV _) ?_;case gS=>exact ec
  case ia=>exact ec
  refine aJ ?_;refine' ae.cf (fun(i:Nat)=>⟨[(2,.int .i64 0),(3,.int .i64 (-1))],[],J,i=0,i⟩) (0) ?al ?cp;case al=>rfl
  case cp=>
   rintro i hinv;try simp only at hinv
   refine rg ?_;refine aV ?_;refine U V.bm ?_;refine ns ?_;refine If (fun jr=>?_) fun jr=>?_
   ·exfalso;omega
   ·refine aJ ?_;refine ae.exit ?_;refine'⟨.inl rfl,rfl,_,_,.nil,bV _,⟨rfl,fo⟩⟩
 ·refine Fn.dw (dB Tryz.func101) rfl rfl fun H=>?_
  refine rg ?_;refine aV ?_;refine U V.va ?_;refine aV ?_;refine ns ?_;refine ae.block ?_;refine' ae.fy (l':=[(2,.int .i64 ((0):Int)),(3,.int .i64 ((s.length:Int) -1 -(0))),(0,_)]) ⟨?gS,?ia,rfl,trivial⟩ (bV _) ?_;case gS=>exact ec
  case ia=>exact ec
  refine aJ ?_;refine' ae.cf (fun(cU:Nat×(List (Int×Int))×(List Nat))=>match cU with|(i,cur,g1)=>⟨[(2,.int .i64 (i:Int)),(3,.int .i64 ((s.length:Int) -1 -i))],[(a,.opn (iS cur) 171 g1 0)],J,i<=s.length/\Jk s i cur,s.length -i⟩) ⟨0,s,rest⟩ ?al ?cp
  case al=>exact⟨dV _,rfl,fun j aU=>by rw[aq (by omega)]⟩
  case cp=>
   rintro⟨i,cur,g1⟩ hinv;try simp only at hinv
   obtain⟨ak,Ib⟩:=hinv;refine rg ?_;refine aV ?_;refine U V.bm ?_;refine ns ?_;refine If (fun jr=>?_) fun jr=>?_
   ·have jw:=Ib.1;have I:=du (l:=cur) (i:=i) (by omega);have ah:=du (l:=cur) (i:=s.length -1 -i) (by omega);generalize cur[i]'(by omega)=x at I;generalize cur[s.length -1 -i]'(by omega)=y at ah;refine gn ?_;refine aJ ?_;refine ae.block ?_;refine aJ ?_;refine ae.draw rfl (by kernel_rfl) (a8:=[.val 0,.val 1,.val 2,.val 3,.val 4,.val 5,.val 6,.val 7,.val 8,.val 9,.val 10,.val 11,.val 12,.cv 13,.val 14,.c9 [3,2],.cv 15]) (by kernel_rfl) ?_;refine cm ?_;refine aB rfl V.bf ?_;refine' a3.val rfl rfl rfl rfl (ix rfl rfl ?ax (v5 (hh rfl) ?ap)) ?_;case ax=>exact qr
    case ap=>exact Vo ah
    refine cm ?_;refine aB rfl V.bf ?_;refine' a3.val rfl rfl rfl rfl (ix rfl rfl ?ax (v5 (hh rfl) ?ap)) ?_;case ax=>exact qr
    case ap=>exact Vo I
    refine aB rfl V.bf ?_;refine' a3.ij rfl rfl (CD rfl rfl rfl rfl (h' rfl) rfl rfl rfl ?aa ?al ?bC ?au ?_);case au=>exact .refl _
    case al=>exact Vq (i:=i) (by omega)
    case aa=>first|rfl|assumption
    case bC=>exact dV _
    refine aB rfl V.bf ?_;refine a3.c9 g7 ?_;refine' a3.ij rfl rfl (CD rfl rfl rfl rfl (h' rfl) rfl rfl rfl ?aa ?al ?bC ?au ?_);case au=>exact .refl _
    case al=>exact Vq (i:=s.length -1 -i) (by rw[hW];omega)
    case aa=>first|rfl|assumption
    case bC=>exact dV _
    refine a3.nil ?_;refine rg ?_;refine U V.az ?_;refine U V.va ?_;refine U V.az ?_;refine U V.va ?_;refine aV ?_;refine bu ?_;refine e2 ⟨i+1,(cur.set i y).set (s.length -1 -i) x,[]⟩ ?_;exact⟨by omega,aiA Ib (by omega) I ah⟩
   ·refine aJ ?_;refine ae.exit ?_;refine'⟨.inl rfl,rfl,_,_,.nil,bV _,?_⟩;refine⟨rfl,?_⟩;rw[<-aiz Ib (by omega)];exact .opn (by rw[Vp,Ib.1]) (dV _)
end
theorem aap{J:aA}{e:TypeId}{v:Value}{s:List (Int×Int)}(h:hl J e 2 v s.length (iS s)):fX J e 2 yp v s:=by
 refine⟨iS s,h,fun i x I=>?_⟩;have ak:=(dv.1 I).1;rw[N5,od ak];have:s[i]=x:=by rw[du ak] at I;injection I
 rw[this];rfl
theorem akC{g:bp}:∀{l:List (Nat×Int)} {s:List (Int×Int)},yc (fun(s:List (Int×Int)) a k=>(s++[(ms g a,k)],true)) s l=s++l.map fun x=>(ms g x.1,x.2):=by
 intro l;induction l with
 |nil=>intro s;simp[yc]
 |cons x l aG=>
  intro s;show(if true=true then _ else _)=_;rw[aF rfl];show yc _ (s++[(ms g x.1,x.2)]) l=_;rw[aG,k2,j0];rfl
section
variable {Q:db Tryz.prog}{g0:Nat}{J:aA}
theorem O4{dm hx ad cq:Nat}{g:bp}{aT bi:Option Addr}{aP ci:Nat}{P:List Int}{gV:Nat}{p:Int}
 (ar:hB J g aT aP bi ci)(hw:ti J dm hx ad cq g aT aP bi ci P)(aN:Tree g P)(dr:g.ns.length<=2000)(re:∀x∈g.ns,x.af.length<=60)(k8:gV<g.ns.length):
 Fn (a2 Q g0) 88 [.pointer (some ⟨dm,0,none⟩),.int .i64 (gV:Int),.int .i64 p] [] J (fun u m' ag=>∃b c,u=.slice b (kp g P p gV).length c/\m'=[]/\J.le ag/\fX ag 171 2 yp (.slice b (kp g P p gV).length c) (kp g P p gV)):=by
 have TE:(qE g P p gV).length<=2000:=by
  have:=IM (g:=g) (P:=P) (p:=p) gV gV (dH _);unfold qE;rw[ig];omega
 refine Fn.dw (dB Tryz.func88) rfl rfl fun H=>?_;refine rg ?_;refine fG fun bO=>?_;refine U V.a7 ?_;refine bP ?_;refine' W.step rfl (.of (ic rfl rfl rfl (alw Q g0) rfl rfl rfl fun g5=>?_));refine bP ?_;refine U V.a9 ?_;refine aV ?_;refine cl (G:=Qc (σ:=List (Int×Int)) (step:=fun s a k=>(s++[(ms g a,k)],true)) (mF:=fun c s az=>∃v aY,az=(g5,.row [v] 166)::(bO,.row [.pointer (some ⟨dm,0,none⟩)] 139)::aY/\Acc 171 2 v s.length (iS s) aY/\lI aY/\cE aY/\s.length+c<=2000) (xX:=[]) ar hw aN dr re (fun c a s az cP ⟨v,aY,aa,ab,aK,bh,ff⟩=>⟨v,aY,aa,ab,aK,bh,by omega⟩) (fun c a s az k cP q9 ⟨v,aY,aa,ab,aK,bh,ff⟩=>by subst aa;exact(ak5 ar hw dr (by omega) (by omega) ab aK bh).perm fun u m' ag ⟨aZ,aR,v',hy,bY,ep,gl,kY⟩=>⟨m',.refl _,aZ,aR,v',hy,bY,by simpa using ep,gl,kY,by simp;omega⟩) k8 ⟨_,[],rfl,.nil,fun _ _ _ _ _ q=>(by cases q),fun _ _ _ q=>(by cases q),by simp;omega⟩) (h:=?_);rintro v m' ag hle ⟨rfl,c,v2,afR,rfl,L5,lX,EK,_⟩;refine bu ?_;rw[fb];rw[akC,mB,show((oI g P p gV).map fun x=>(ms g x.1,x.2))=qE g P p gV from rfl] at L5;obtain⟨bS,bd,rfl⟩:=L5.form;refine rg ?_;refine U V.a9 ?_;refine' W.step rfl (Exec.call rfl rfl rfl rfl rfl rfl rfl (a4:=afR) (b2:=[_,_]) (jn (l₂:=[_,_])) trivial (aiB TE L5 lX EK) ?_);rintro v l1 ag hle ⟨rfl,Sx⟩;refine bu ?_;rw[show(qE g P p gV).reverse=kp g P p gV from rfl,show(qE g P p gV).length=(kp g P p gV).length by rw[kp,CU]] at Sx;refine Sx.l4 (.refl _) fun hs fu hR=>?_;refine rg ?_;refine U V.a9 ?_;refine U V.a7 ?_;refine ns ?_;refine ae.ret ?_;refine hk ?_
 exact⟨_,_,by rw[show(kp g P p gV).length=(qE g P p gV).length by rw[kp,CU]];rfl,rfl,fu,aap hR⟩
theorem aau{bE bS:Option Addr}{bx bT:Nat}{dZ eJ:List (Int×Int)}(aa:fX J 171 2 yp (.slice bE dZ.length bx) dZ)(ab:fX J 171 2 yp (.slice bS eJ.length bT) eJ)(ay:dZ.length<=1000000):
 Fn (a2 Q g0) 103 [.slice bE dZ.length bx,.slice bS eJ.length bT] [] J (fun u m' ag=>u=.bool (decide (dZ=eJ))/\m'=[]/\J=ag):=by
 obtain⟨_,HM⟩:=aa.at;obtain⟨_,HN⟩:=ab.at;refine Fn.dw (dB Tryz.func103) rfl rfl fun H=>?_;refine rg ?_;refine U V.a7 ?_;refine bP ?_;refine aV ?_;refine U V.bm ?_;refine ns ?_;refine If (fun e5=>?_) fun e5=>?_
 ·refine rg ?_;refine U V.a7 ?_;refine ns ?_;refine ae.ret ?_;refine hk ?_;refine⟨fl Value.bool ?_,rfl,rfl⟩;first
   |(have c:=cA;symm;rw[mN]
     apply mb
     intro j;by_cases q:j<i
     ·exact cA j q
     ·rw[hg (by omega),hg (by omega)])
   |(symm;rw[nG];intro q;rw[q] at e5;exact e5 rfl)
 ·refine aJ ?_;refine ae.skip ?_;refine rg ?_;refine aV ?_;refine ns ?_;refine ae.block ?_;refine' ae.fy (l':=[(13,.int .i64 ((0):Int)),(0,_),(1,_),(12,_)]) ⟨?F7,rfl,rfl,rfl,trivial⟩ (bV _) ?_;case F7=>exact ec
  refine aJ ?_;refine' ae.Fi (α:=(Nat)) (fun(i:Nat)=>[(13,.int .i64 (i:Int))]) (fun(i:Nat)=>i<=dZ.length/\∀j,j<i->dZ[j]?=eJ[j]?) (fun(i:Nat)=>dZ.length -i) (0) ?al ?cp;case al=>exact⟨dV _,fun j aU=>by omega⟩
  case cp=>
   rintro i hinv;try simp only at hinv
   obtain⟨ak,cA⟩:=hinv;refine rg ?_;refine U V.bm ?_;refine ns ?_;refine If (fun ng=>?_) fun ng=>?_
   ·obtain⟨bl,vU,Q9,aD,rfl,Hy,xi⟩:=HM (by omega);obtain⟨bF,vV,Q',a5,rfl,Si,xj⟩:=HN (by omega);obtain⟨x,cs,I,xg,_,rfl⟩:=xi i (by omega) (by omega);obtain⟨y,cs,ah,xh,_,rfl⟩:=xj i (by omega) (by omega);rw[ea] at I ah;refine gn ?_;refine aJ ?_;refine ae.block ?_;refine rg ?_;refine aV ?_;refine ns ?_;refine ae.draw rfl (by kernel_rfl) (a8:=[.val 0,.val 1,.val 2,.val 3,.val 4,.val 5,.val 6,.val 7,.val 8]) (by kernel_rfl) ?_;refine cm ?_;refine aB rfl V.bf ?_;refine aB rfl V.hb ?_;refine cm ?_;refine aB rfl V.bf ?_;refine aB rfl V.hb ?_;refine' a3.val rfl rfl rfl rfl (akp rfl (.inr ⟨rfl,rfl⟩) rfl rfl (by kernel_rfl)) ?_;refine a3.nil ?_;refine aJ ?_;refine If (fun yA=>?_) fun yA=>?_
    ·refine rg ?_;refine U V.a7 ?_;refine ns ?_;refine ae.ret ?_;refine hk ?_;refine⟨fl Value.bool ?_,rfl,rfl⟩;first
       |(have c:=yA;symm;rw[nG];intro q;subst q;rw[I] at ah;injection ah with ah;subst ah;exact yA ⟨rfl,rfl⟩)
       |(have c:=cA;symm;rw[mN]
         apply mb
         intro j;by_cases q:j<i
         ·exact cA j q
         ·rw[hg (by omega),hg (by omega)])
       |(symm;rw[nG];intro q;rw[q] at e5;exact e5 rfl)
    ·refine aJ ?_;refine ae.skip ?_;refine rg ?_;refine U V.va ?_;refine U V.az ?_;refine bu ?_;refine'⟨(i+1),_,?hinv,?vB,rfl,⟨?afC,rfl,rfl,rfl,trivial⟩,bV _,rfl⟩;case afC=>exact ec
     case vB=>exact cQ
     case hinv=>refine⟨by omega,fun j aU=>?_⟩;by_cases q:j<i;(exact cA j q);(obtain rfl:j=i:=by omega);(rw[I,ah];have c:=uH.1 yA;exact fl some (Prod.ext c.1 c.2))
   ·refine aJ ?_;refine ae.exit ?_;refine rg ?_;refine U V.a7 ?_;refine ns ?_;refine ae.ret ?_;refine hk ?_;refine⟨fl Value.bool ?_,rfl,rfl⟩;first
     |(have c:=cA;symm;rw[mN]
       apply mb
       intro j;by_cases q:j<i
       ·exact cA j q
       ·rw[hg (by omega),hg (by omega)])
     |(symm;rw[nG];intro q;rw[q] at e5;exact e5 rfl)
theorem Ry{bE bS:Option Addr}{bx bT:Nat}{dZ eJ:List (Int×Int)}(aa:fX J 171 2 yp (.slice bE dZ.length bx) dZ)(ab:fX J 171 2 yp (.slice bS eJ.length bT) eJ)(ay:dZ.length<=1000000):
 Fn (a2 Q g0) 91 [.slice bE dZ.length bx,.slice bS eJ.length bT] [] J (fun u m' ag=>u=.bool (decide (dZ=eJ))/\m'=[]/\J=ag):=by
 refine Fn.dw (dB Tryz.func91) rfl rfl fun H=>?_;refine rg ?_;refine U V.a7 ?_;refine bP ?_;refine aV ?_;refine cl (G:=aau aa ab ay) (h:=?_);rintro v m' ag hle ⟨rfl,rfl,rfl⟩;refine U V.a7 ?_;refine ns ?_;refine ae.ret ?_;refine hk ?_;exact⟨rfl,rfl,rfl⟩
end
section
variable {Q:db Tryz.prog}{g0:Nat}{J:aA}
theorem afH{dm hx ad cq:Nat}{g:bp}{aT bi:Option Addr}{aP ci:Nat}{P:List Int}(ar:hB J g aT aP bi ci)(hw:ti J dm hx ad cq g aT aP bi ci P)(dr:g.ns.length<=2000)(i2:g.is.length<=200)(aM:∀x∈g.ns,fh g x=0):
 Fn (a2 Q g0) 70 [.pointer (some ⟨dm,0,none⟩)] [] J (fun u m' ag=>∃b c,u=.slice b (jE g).length c/\m'=[]/\J.le ag/\fX ag 22 1 (k3 ag) (.slice b (jE g).length c) (jE g)):=by
 obtain⟨_,ky⟩:=ar.n.at;have kZ:addrEq bi bi=true:=ar.i.addr;have lj:addrEq aT aT=true:=ar.n.addr;have xy:=hw.w;refine Fn.dw (dB Tryz.func70) rfl rfl fun H=>?_;refine rg ?_;refine U V.a7 ?_;refine bP ?_;refine aV ?_;refine U V.a9 ?_;refine U V.cr ?_;refine' W.step rfl (.of (CC rfl rfl rfl rfl rfl (sX Q g0) ?bt ?aa ?ab fun GH=>?_));case bt=>exact cQ
 case aa=>exact cQ
 case ab=>exact cQ
 refine U V.a7 ?_;refine bu ?_;rw[yj,ea];refine rg ?_;refine aV ?_;refine U V.a9 ?_;refine aV ?_;refine ns ?_;refine ae.block ?_;refine' ae.fy (l':=[(19,.int .i64 ((0):Int)),(3,_),(17,_),(18,_)]) ⟨?F8,rfl,rfl,rfl,trivial⟩ (bV _) ?_;case F8=>exact ec
 refine aJ ?_;refine' ae.cf (fun(cU:Nat×(List Value)×(List aI)×aI)=>match cU with|(i,vs,kB,y0)=>⟨[(19,.int .i64 (i:Int))],(GH,.row vs 22)::(y0++[]),J,i<=g.ns.length/\rS 3 (qy g i) vs kB/\y0=kB.flatten,g.ns.length -i⟩) ⟨0,List.replicate g.is.length (.slice none 0 0),List.replicate g.is.length [],[]⟩ ?al ?cp
 case al=>exact⟨dV _,by rw[ai4];exact rS.init _,abl.symm⟩
 case cp=>
  rintro⟨i,vs,kB,y0⟩ hinv;try simp only at hinv
  obtain⟨ak,q7,jx⟩:=hinv;refine rg ?_;refine U V.bm ?_;refine ns ?_;refine If (fun r9=>?_) fun r9=>?_
  ·obtain⟨a,off,cells,bn,rfl,jP,fg⟩:=ky (by omega);obtain⟨x,cs,I,kx,_,gB⟩:=fg i (by omega) (by omega);obtain⟨bE,bx,bS,bT,cJ,dA,rfl,lc,nX,rq⟩:=gB;rw[ea] at I;have fe:=I;have gk:=aM x (cV fe);refine gn ?_;refine aJ ?_;refine ae.block ?_;refine rg ?_;refine U V.az ?_;refine U V.bf ?_;refine U V.hb ?_;refine' W.step rfl (.of (ic rfl rfl rfl (yh Q g0) rfl rfl rfl fun c2=>?_));refine U V.a7 ?_;refine fF ?_;refine bP ?_;refine U V.bU ?_;refine U V.a9 ?_;refine U V.bm ?_;refine ns ?_;refine If (fun r'=>?_) fun r'=>?_
   ·have H4:=NJ gk (by simpa using r');obtain⟨v,aY,aeC,adK,fo⟩:=q7.get (Ju (g:=g) (i:=i) (j:=x.i.toNat) (by omega));rw[show((x.i.toNat:Nat):Int)=x.i by omega] at fo;obtain⟨bv,eY,rfl⟩:=fo.form;have Ji:=fo.addr;have MP:nth vs (0+x.i.toNat*1)=some (.slice bv (fx x.i 0 (g.ns.take i)).length eY):=agi aeC;have hlen:(fx x.i 0 (g.ns.take i)).length<=2000:=by have:=V6 (j:=x.i) (l:=g.ns.take i) (n:=0);rw[fc] at this;omega
    have vG:vs.length=g.is.length:=by rw[q7.lv,Cp]
    have S7:kB.length=g.is.length:=by rw[q7.zF,Cp]
    refine aJ ?_;refine ae.draw rfl (by kernel_rfl) (a8:=[.val 0,.val 1,.val 2,.val 3,.val 4,.val 5,.val 6,.val 7,.val 8,.f' 9,.c9 [8,7,6,5,4,3,2,1,0],.cv 10,.val 11,.c9 [2,1,0],.cv 12]) (by kernel_rfl) ?_;refine cm ?_;refine aB rfl V.a9 ?_;refine cm ?_;refine aB rfl V.a9 ?_;refine aB rfl V.bf ?_;refine aB rfl V.a9 ?_;refine aB rfl V.az ?_;refine a3.buildSlice rfl rfl rfl rfl rfl rfl (hL Q g0) rfl rfl rfl fun GJ=>?_;refine a3.c9 g7 ?_;refine' a3.ij rfl rfl (qF rfl rfl rfl rfl rfl rfl (hL Q g0) (s3 Q g0) (fun i q=>by cases q) ?fo ?hm ?I ?df ?dR ?ay fun akS xH A'=>?_);case fo=>assumption
    case hm=>exact Km (by rw[jx];exact RU adK)
    case I=>exact nw
    case df=>first|rfl|(simp;done)|(simp;omega)
    case dR=>first|rfl|exact mX _
    case ay=>exact cQ
    obtain⟨al8,h0,rfl⟩:=A'.form;refine aB rfl V.bf ?_;refine a3.c9 g7 ?_;refine' a3.ij rfl rfl (jY rfl rfl rfl rfl (h' rfl) rfl rfl rfl ?aa ?al ?au ?_);case au=>repeat first|exact .head _ _ _ _|apply dc.tail|apply dc.app
    case al=>exact ajh (j:=x.i.toNat) (by omega)
    case aa=>first|rfl|assumption
    refine a3.nil ?_;first
      |(have E3:=A';refine ae.gZ (Km (RV (j:=x.i.toNat) (l:=kB) (by omega))) ?_)
      |skip
    refine rg ?_;refine U V.va ?_;refine U V.az ?_;refine bu ?_;refine e2 ⟨i+1,vs.set x.i.toNat _,kB.set x.i.toNat xH,(kB.set x.i.toNat xH).flatten⟩ ?_ (hm:=.cons _ (.cons _ (.refl _)));refine⟨by omega,?_,rfl⟩;rw[ai3 fe (by simpa using r') H4.1 H4.2.1];exact q7.set (by simpa using A')
   ·refine aJ ?_;refine ae.skip ?_;first
      |(have E3:=A';refine ae.gZ (Km (RV (j:=x.i.toNat) (l:=kB) (by omega))) ?_)
      |skip
    refine rg ?_;refine U V.va ?_;refine U V.az ?_;refine bu ?_;refine e2 ⟨i+1,vs,kB,y0⟩ ?_ (hm:=.cons _ (.refl _));refine⟨by omega,by rw[ai2 fe (by simpa using r')];exact q7,jx⟩
  ·refine aJ ?_;refine ae.exit ?_;have hQ:i=g.ns.length:=by omega
   rw[hQ,ai1] at q7;refine ae.ahY q7 (eA:=(GH,.row vs 22)::[]) (by rw[jx];exact List.perm_middle.symm) fun hs fu cA=>?_;refine ae.lH rfl fun gO=>?_;have p8:=aan (aA.mf hs GH (vs,22)) q7.lv (by rw[Cq];unfold cR;omega) fun j s v aa ab=>(cA j s v aa ab).mono gO;refine rg ?_;refine aV ?_;refine ns ?_;refine ae.ret ?_;refine hk ?_;exact⟨some ⟨GH,0,none⟩,(jE g).length,by rw[Cq];rfl,rfl,fu.trans gO,p8⟩
theorem NZ{gx:Nat}{b:Bool}{k x y z:Int}:
 Fn (a2 Q g0) 69 [.agg #[.int .i64 k,.int .i64 x,.int .i64 y,.int .i64 z],.pointer (some ⟨gx,0,none⟩)] [(gx,.row [.bool b] 4)] J (fun u m' ag=>u=.bool (decide (k≠2))/\m'=[(gx,.row [.bool (decide (k≠2))] 4)]/\J=ag):=by
 refine Fn.dw (dB Tryz.func69) rfl rfl fun H=>?_;refine rg ?_;refine fG fun bF=>?_;refine U V.a7 ?_;refine bP ?_;refine U V.bU ?_;refine U V.a9 ?_;refine U V.bm ?_;refine fF ?_;refine bP ?_;refine U V.a9 ?_;refine U V.a7 ?_;refine ns ?_;refine ae.ret ?_;refine'⟨.inr rfl,rfl,_,_,.tmp rfl .nil,.cons _ (.refl _),⟨rfl,rfl,rfl⟩⟩
theorem aiR{dm hx ad cq:Nat}{g:bp}{aT bi:Option Addr}{aP ci:Nat}{P:List Int}{nB b3 bO:Nat}{d info k:Int}{fv:Value}{a:Nat}
 (ar:hB J g aT aP bi ci)(hw:ti J dm hx ad cq g aT aP bi ci P)(dr:g.ns.length<=2000)(aW:a<g.ns.length)(ap:eT fv=true):
 Fn (a2 Q g0) 90 [.int .i64 (a:Int),.int .i64 k,.pointer (some ⟨bO,0,none⟩),.pointer (some ⟨b3,0,none⟩),.pointer (some ⟨nB,0,none⟩)] [(nB,.row [.int .i64 d] 3),(b3,.row [.int .i64 info] 3),(bO,.row [.pointer (some ⟨dm,0,none⟩),fv] 147)] J
  (fun u m' ag=>J=ag/\u=.bool (decide ((if ms g a=info then(a:Int) else d)<0))/\m'=[(nB,.row [.int .i64 (if ms g a=info then(a:Int) else d)] 3),(b3,.row [.int .i64 info] 3),(bO,.row [.pointer (some ⟨dm,0,none⟩),fv] 147)]):=by
 obtain⟨_,ky⟩:=ar.n.at;have kZ:addrEq bi bi=true:=ar.i.addr;have lj:addrEq aT aT=true:=ar.n.addr;have xy:=hw.w;obtain⟨a1,off,cells,bn,rfl,jP,tV⟩:=ky (by omega);obtain⟨y,cs,ah,kx,mU,gB⟩:=tV a (by omega) (by omega);obtain⟨bE,bx,bS,bT,cJ,dA,rfl,lc,nX,rq⟩:=gB;have oz:=mU 2 _ (by decide) rfl;rw[ea] at ah;have sw:ms g a=y.i:=by unfold ms;rw[ah]
 refine Fn.dw (dB Tryz.func90) rfl rfl fun H=>?_;refine rg ?_;refine U V.a7 ?_;refine ns ?_;refine ae.draw rfl (by kernel_rfl) (a8:=[.val 0,.val 1,.val 2,.val 3,.val 4,.val 5,.val 6,.val 7,.val 8,.val 9,.val 10,.val 11]) (by kernel_rfl) ?_;refine aB rfl V.bU ?_;refine aB rfl V.a9 ?_;refine cm ?_;refine aB rfl V.a9 ?_;refine aB rfl V.az ?_;refine aB rfl V.bf ?_;refine aB rfl V.bU ?_;refine aB rfl V.a9 ?_;refine aB rfl V.a9 ?_;refine aB rfl V.bm ?_;refine a3.nil ?_;refine aJ ?_;refine If (fun j7=>?_) fun j7=>?_
 ·refine rg ?_;refine U V.az ?_;refine fF ?_;refine bP ?_;refine U V.a9 ?_;refine U V.bm ?_;refine U V.a7 ?_;refine ns ?_;refine ae.ret ?_;refine'⟨.inr rfl,rfl,_,_,.tmp rfl .nil,bV _,?_⟩;rw[sw];first
   |(have c:=j7;rw[aF j7];exact⟨rfl,rfl,rfl⟩)
   |(rw[aq j7];exact⟨rfl,rfl,rfl⟩)
 ·refine aJ ?_;refine ae.skip ?_;refine rg ?_;refine U V.a9 ?_;refine U V.bm ?_;refine U V.a7 ?_;refine ns ?_;refine ae.ret ?_;refine'⟨.inr rfl,rfl,_,_,.tmp rfl .nil,bV _,?_⟩;rw[sw];first
   |(have c:=j7;rw[aF j7];exact⟨rfl,rfl,rfl⟩)
   |(rw[aq j7];exact⟨rfl,rfl,rfl⟩)
end
end
end Go.Opn
