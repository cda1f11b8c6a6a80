/- A part of the proof of ResumeBytes. -/
import Derived.Test.YtkmfhjilfjecmaaGreatDoorCay
import Derived.Lib.ItoaMem
import Derived.Lib.ItoaLen
import Derived.Test.YtkmfhjilfjecmaaGreatDoorCaw
import Derived.Test.YtkmfhjilfjecmaaGreatDoorCax
set_option linter.unusedVariables false
namespace Go.Opn
noncomputable section
structure tq (P L:List Int) (i:Nat) (kids:List Int):Prop where
 len:L.length=P.length
 root:L[0]?=some (-1)
 done:∀(c:Nat) (a:Int),1<=c->P[c]?=some a->(a<i\/(a=i/\(c:Int)∈kids))->L[c]?=some a
theorem tq.step{P L:List Int}{i k:Nat}{ak:List Int}{dS:Int}(h:tq P L i (ak.take k))(U:ak[k]?=some dS)(aa:1<=dS)(ae:P[dS.toNat]?=some (i:Int)):tq P (L.set dS.toNat i) i (ak.take (k+1)):=by
 have cV:=(dY.1 ae).1;refine⟨by rw[fz];exact h.len,?_,fun c a aC a1 aV=>?_⟩
 ·rw[kJ,an (by omega)];exact h.root
 ·rw[kJ,h.len];by_cases q:dS.toNat=c
  ·rw[aE q,aE cV];rw[q,a1] at ae;exact ae.symm
  ·rw[an q];refine h.done c a aC a1 ?_;rcases aV with aV|⟨vM,xE⟩
   ·exact .inl aV
   ·refine .inr ⟨vM,?_⟩;rw[nY,U] at xE;rcases ko.1 xE with r|r
    ·exact r
    ·simp at r;omega
theorem tq.next{g:bq}{P L:List Int}{i:Nat}{x:cR}(aB:Tree g P)(U:g.ns[i]?=some x)(h:tq P L i x.ak):tq P L (i+1) []:=by
 refine⟨h.len,h.root,fun c a aC a1 aV=>?_⟩;rcases aV with aV|⟨_,aV⟩
 ·by_cases q:a<i
  ·exact h.done c a aC a1 (.inl q)
  ·have lf:c<g.ns.length:=by rw[<-aB.len];exact(dY.1 a1).1
   obtain⟨b,aa,ae,y,aF,bo⟩:=aB.up c aC lf;rw[a1] at aa;injection aa with aa
   obtain rfl:b=i:=by omega
   rw[U] at aF;injection aF with aF;subst aF
   exact h.done c a aC a1 (.inr ⟨aa,bo⟩)
 ·cases aV
theorem tq.all{g:bq}{P L:List Int}(aB:Tree g P)(h:tq P L g.ns.length [])(aP:1<=g.ns.length):L=P:=by
 apply lA
 intro c;by_cases aC:c<g.ns.length
 ·by_cases q:c=0
  ·subst q;rw[h.root,aB.root]
  ·obtain⟨a,aa,ae,_⟩:=aB.up c (by omega) aC;rw[aa,h.done c a (by omega) aa (.inl (by omega))]
 ·rw[fo (by rw[h.len,aB.len];omega),fo (by rw[aB.len];omega)]
theorem W'{v:Int}:∀{l:List Int} {n:Nat},0<=iD v l n->∃m:Nat,iD v l n=((n+m:Nat):Int)/\l[m]?=some v:=by
 intro l;induction l with
 |nil=>intro n h;simp[iD] at h
 |cons x r aI=>
  intro n h;unfold iD at h ⊢;split
  ·rename_i q;exact⟨0,by simp,by rw[q];rfl⟩
  ·rename_i q;rw[an q] at h;obtain⟨m,aa,ae⟩:=aI h;exact⟨m+1,by rw[aa];congr 1;omega,by rw[yB];exact ae⟩
theorem YR{l:List Int}(h:l.Pairwise (·<·)){i j:Nat}{x y:Int}(ao:l[i]?=some x)(a':l[j]?=some y)(Pp:i<j):x<y:=by
 obtain⟨aa,ae⟩:=dY.1 ao;obtain⟨aF,bo⟩:=dY.1 a';have:=List.pairwise_iff_getElem.1 h i j aa aF Pp;omega
theorem Qo{v w:Int}{l:List Int}{k:Nat}(h:l.Pairwise (·<·))(aO:l[k]?=some w):w=v↔iD v l 0=(k:Int):=by
 constructor
 ·rintro rfl;obtain⟨m,aa,ae⟩:=W' (Qn (n:=0).2 (cb aO));rw[aa];by_cases bb:m<k
  ·have:=YR h ae aO bb;omega
  ·by_cases a7:k<m
   ·have:=YR h aO ae a7;omega
   ·omega
 ·intro q;obtain⟨m,aa,ae⟩:=W' (v:=v) (l:=l) (n:=0) (by omega);obtain rfl:m=k:=by omega
  rw[aO] at ae;injection ae
def oq(done:List (Int×Int))(y:cR)(p:Int)(c k:Nat):List (Int×Int):=done++(if(y.k=2/\y.p=p)/\0<=iD (c:Int) y.ak 0/\iD (c:Int) y.ak 0<(k:Int) then[(y.i,iD (c:Int) y.ak 0)] else[])
theorem ako{done:List (Int×Int)}{y:cR}{p:Int}{c:Nat}:oq done y p c 0=done:=by
 unfold oq;rw[an (fun q=>by omega),gj]
theorem akn{done:List (Int×Int)}{y:cR}{p:Int}{c k:Nat}{w:Int}(h:y.ak.Pairwise (·<·))(hm:y.k=2/\y.p=p)(aO:y.ak[k]?=some w)(hw:w=(c:Int)):oq done y p c (k+1)=oq done y p c k++[(y.i,(k:Int))]:=by
 have ao:=(Qo (v:=(c:Int)) h aO).1 hw;unfold oq;rw[aE ⟨hm,by omega,by omega⟩,an (fun q=>by omega),gj,ao]
theorem akm{done:List (Int×Int)}{y:cR}{p:Int}{c k:Nat}{w:Int}(h:y.ak.Pairwise (·<·))(aO:y.ak[k]?=some w)(hw:w≠(c:Int)):oq done y p c (k+1)=oq done y p c k:=by
 have ao:¬iD (c:Int) y.ak 0=(k:Int):=fun q=>hw ((Qo (v:=(c:Int)) h aO).2 q);unfold oq;by_cases q:(y.k=2/\y.p=p)/\0<=iD (c:Int) y.ak 0/\iD (c:Int) y.ak 0<(k:Int)
 ·rw[aE q,aE ⟨q.1,q.2.1,by omega⟩]
 ·rw[an q,an (fun r=>q ⟨r.1,r.2.1,by omega⟩)]
theorem Lj{done:List (Int×Int)}{y:cR}{p:Int}{c k:Nat}:(oq done y p c k).length<=done.length+1:=by
 unfold oq;rw[dP];split<;>simp
theorem Qs{g:bq}{P:List Int}{done:List (Int×Int)}{y:cR}{p:Int}{a c k:Nat}(au:P[c]?=some (a:Int))(gK:a<c)(ai:g.ns[a]?=some y)(aC:(c:Int)∈y.ak)(aO:(y.k=2/\y.p=p)->y.ak.length<=k):oq done y p c k++j5 g P p a=done++j5 g P p c:=by
 unfold oq j5;rw[gw];congr 1
 by_cases q:y.k=2/\y.p=p
 ·have aa:=Qn (n:=0).2 aC;have ae:=aki (v:=(c:Int)) (l:=y.ak) (n:=0);rw[aE ⟨q,aa,by have:=aO q;omega⟩,B3 au gK ai q,nz];have:mj g a=y.i:=by unfold mj;rw[ai]
  rw[this];rfl
 ·rw[an (fun r=>q r.1),zH au gK ai q];rfl
def wF(g:bq)(P:List Int)(i:Int)(c:Nat):Prop:=∃a d y,(a,d)∈mv P c/\g.ns[a]?=some y/\y.k=2/\y.i=i
theorem S7{g:bq}{P:List Int}{i:Int}{c a:Nat}{y:cR}(au:P[c]?=some (a:Int))(gK:a<c)(ai:g.ns[a]?=some y):wF g P i c↔(y.k=2/\y.i=i)\/wF g P i a:=by
 unfold wF;rw[J3 au gK];constructor
 ·rintro⟨b,d,z,aa,ae,aF⟩;rcases e3.1 aa with q|q
  ·injection q with bb a7;subst bb
   rw[ai] at ae;injection ae with ae;subst ae
   exact .inl aF
  ·exact .inr ⟨b,d,z,q,ae,aF⟩
 ·rintro(h|⟨b,d,z,aa,ae,aF⟩)
  ·exact⟨a,c,y,.head _,ai,h⟩
  ·exact⟨b,d,z,.tail _ aa,ae,aF⟩
theorem abp{g:bq}{P:List Int}{i:Int}{c:Nat}{a:Int}(au:P[c]?=some a)(a1:a<0):¬wF g P i c:=by
 rintro⟨b,d,z,aa,_⟩;rw[Tf au a1] at aa;cases aa
end
end Go.Opn
namespace Go.Opn
noncomputable section
open Go
theorem xd{u:Nat}(h:u<10):Lib.decDigits u=[UInt8.ofNat (48+u)]:=Lib.decDigits_one h
theorem adR{u:Nat}(h:¬u<10):Lib.decDigits u=Lib.decDigits (u / 10)++Lib.decDigits (u % 10):=by
 rw[xd (show u % 10<10 by omega)];conv=>lhs;rw[Lib.decDigits,dif_neg h]
def ih(l:List Int):List UInt8:=l.flatMap fun n=>32::Lib.itoa n
theorem alF{l:List Int}{i:Nat}{x:Int}(U:l[i]?=some x):ih (l.take (i+1))=ih (l.take i)++(32::Lib.itoa x):=by
 unfold ih;rw[nY,U];simp
theorem X6{l:List Int}(h:∀x∈l,-9223372036854775808<=x/\x<=9223372036854775807):(ih l).length<=22*l.length:=by
 induction l with
 |nil=>simp[ih]
 |cons x r aI=>
  have aa:=aI fun y ai=>h y (.tail _ ai);have ae:=Lib.itoa_length_le x (h x (.head _)).1 (h x (.head _)).2;show((32::Lib.itoa x)++ih r).length<=_;rw[dP,jh,jh];omega
theorem NP{u:Nat}(h:¬u<10):Lib.decDigits u=Lib.decDigits (u / 10)++[UInt8.ofNat (48+u % 10)]:=by
 rw[adR h,xd (show u % 10<10 by omega)]
theorem DC{u:Nat}(h:u<10):(UInt8.ofNat (48+u)).toNat=48+u:=by
 rw[UInt8.toNat_ofNat'];omega
theorem adQ:∀(n u:Nat),u<=n->∀c∈Lib.decDigits u,48<=c.toNat/\c.toNat<=57:=by
 intro n;induction n with
 |zero=>
  intro u hu c aC;rw[xd (by omega)] at aC;obtain rfl:=JI.1 aC;rw[DC (by omega)];omega
 |succ n aI=>
  intro u hu c aC;by_cases h:u<10
  ·rw[xd h] at aC;obtain rfl:=JI.1 aC;rw[DC h];omega
  ·rw[NP h] at aC;rcases ko.1 aC with q|q
   ·exact aI (u / 10) (by omega) c q
   ·obtain rfl:=JI.1 q;rw[DC (by omega)];omega
def iq(l:List UInt8):Nat:=l.foldl (fun a c=>10*a+(c.toNat -48)) 0
theorem MA{l:List UInt8}{c:UInt8}:iq (l++[c])=10*iq l+(c.toNat -48):=by unfold iq;rw[JF];rfl
theorem Uu:∀(n u:Nat),u<=n->iq (Lib.decDigits u)=u:=by
 intro n;induction n with
 |zero=>
  intro u hu;obtain rfl:u=0:=by omega
  rw[xd (by omega)];show 10*0+((UInt8.ofNat (48+0)).toNat -48)=0;rw[DC (by omega)]
 |succ n aI=>
  intro u hu;by_cases h:u<10
  ·rw[xd h];show 10*0+((UInt8.ofNat (48+u)).toNat -48)=u;rw[DC h];omega
  ·rw[NP h,MA,aI (u / 10) (by omega),DC (by omega)];omega
theorem Lo(n:Int):Lib.itoa n=(if n<0 then[45] else[])++Lib.decDigits n.natAbs:=by
 by_cases h:n<0
 ·obtain⟨u,rfl⟩:∃u:Nat,n=-(u:Int):=⟨n.natAbs,by omega⟩;rw[Lib.itoa_neg u (by omega),aE h];simp
 ·obtain⟨u,rfl⟩:∃u:Nat,n=(u:Int):=⟨n.natAbs,by omega⟩;rw[Lib.itoa_nonneg,an h];simp
def ss(s:List UInt8)(a:Nat):Int:=match s[a]? with
 |some b=>(b.toNat:Int)
 |none=>0
theorem Gj{s:List UInt8}{a:Nat}{b:UInt8}(h:s[a]?=some b):ss s a=b.toNat:=by unfold ss;rw[h]
theorem Gi{s:List UInt8}{a:Nat}(h:s[a]?=none):ss s a=0:=by unfold ss;rw[h]
theorem Tp{s w r:List UInt8}{a i:Nat}(h:s.drop a=w++r):s[a+i]?=(w++r)[i]?:=by rw[<-h,q4]
theorem UA{s w r:List UInt8}{a:Nat}(h:s.drop a=w++r)(a1:a<=s.length):s.length=a+w.length+r.length:=by
 have:=cD List.length h;rw[ms,dP] at this;omega
def JS(r:List UInt8):Prop:=∀c dx,r=c::dx->¬(48<=c.toNat/\c.toNat<=57)
theorem ab4{s d r:List UInt8}{a i:Nat}(h:s.drop a=d++r)(aV:∀c∈d,48<=c.toNat/\c.toNat<=57)(aw:JS r)(ao:i<=d.length):(i<d.length->48<=ss s (a+i)/\ss s (a+i)<=57)/\(i=d.length->ss s (a+i)<48\/57<ss s (a+i)):=by
 refine⟨fun q=>?_,fun q=>?_⟩
 ·have aa:=Tp (i:=i) h;rw[k1 q,dj q] at aa;rw[Gj aa];have:=aV _ (JG q);omega
 ·subst q;have aa:=Tp (i:=d.length) h;rw[pk (cW _),sf] at aa;cases r with
  |nil=>rw[Gi aa];omega
  |cons c dx=>
   rw[Gj aa];have:=aw c dx rfl;omega
theorem aad{d:List UInt8}{i:Nat}{c:UInt8}(h:d[i]?=some c):iq (d.take (i+1))=10*iq (d.take i)+(c.toNat -48):=by
 rw[nY,h];exact MA
theorem aac{d:List UInt8}:∀{i:Nat},i<=d.length->iq (d.take i)<=iq d:=by
 suffices H:∀(k i:Nat),i+k=d.length->iq (d.take i)<=iq d by
  intro i ao;exact H (d.length -i) i (by omega)
 intro k;induction k with
 |zero=>intro i ao;rw[eo (by omega)];exact cW _
 |succ k aI=>
  intro i ao;have:=aI (i+1) (by omega);rw[aad (dj (by omega))] at this;omega
theorem alx{c:UInt8}{r:List UInt8}(h:¬(48<=c.toNat/\c.toNat<=57)):JS (c::r):=fun cd dx q=>by
 injection q with q;subst q;exact h
end
end Go.Opn
set_option maxRecDepth 100000
set_option maxHeartbeats 8000000
set_option linter.unusedSimpArgs false
namespace Go.Opn
noncomputable section
open Go.Cre Go.RowKit Go.Proofs
abbrev fh(ac:Nat)(s:List UInt8)(at_:Nat):Nat×cC:=(ac,.row [.string ⟨⟨s⟩⟩,.int .i64 (at_:Int)] 69)
abbrev fA(ac:Nat):Value:=.pointer (some ⟨ac,0,none⟩)
section
variable {Q:dD Tryz.prog}{g0:Nat}{J:aH}
open Classical in
theorem QQ{ac a:Nat}{s:List UInt8}(a1:a<=s.length)(hs:s.length<=100000):Fn (bd Q g0) 67 [fA ac] [fh ac s a] J (fun u m' af=>u=.int .u8 (ss s a)/\m'=[fh ac s a]/\J=af):=by
 refine Fn.cH (cM Tryz.func67) rfl rfl fun H=>?_;refine rg ?_;refine I V.az ?_;refine ns ?_;refine ab.draw rfl (by kernel_rfl) (bc:=[.val 0,.val 1,.val 2,.val 3,.val 4,.val 5,.val 6,.val 7,.val 8,.val 9]) (by kernel_rfl) ?_;refine cq ?_;refine al rfl V.aG ?_;refine cq ?_;refine al rfl V.aG ?_;refine al rfl V.x2 ?_;refine al rfl V.aZ ?_;refine a8.nil ?_;refine aj ?_;refine If (fun Gk=>?_) fun Gk=>?_
 ·refine rg ?_;refine I V.az ?_;refine ns ?_;refine ab.ret ?_;refine'⟨.inr rfl,rfl,_,_,.tmp rfl .nil,bu _,?_⟩;first
   |(have c:=HS;exact⟨by rw[Gj D7];rfl,rfl,rfl⟩)
   |exact⟨by rw[Gi (fo (by omega))];rfl,rfl,rfl⟩
 ·have HS:a<s.length:=by omega
  have D7:=dj HS;have ap:s[((a:Nat):Int).toNat]?=some s[a]:=by rw[cx];exact D7
  refine c7 ?_;refine aj ?_;refine ab.draw rfl (by kernel_rfl) (bc:=[.val 0,.val 1,.val 2,.val 3,.val 4,.val 5,.val 6,.val 7,.val 8,.val 9]) (by kernel_rfl) ?_;refine cq ?_;refine al rfl V.aG ?_;refine cq ?_;refine al rfl V.aG ?_;refine al rfl V.BQ ?_;refine al rfl V.az ?_;refine a8.nil ?_;refine aj ?_;refine ab.ret ?_;refine'⟨.inr rfl,rfl,_,_,.tmp rfl .nil,bu _,?_⟩;first
   |(have c:=HS;exact⟨by rw[Gj D7];rfl,rfl,rfl⟩)
   |exact⟨by rw[Gi (fo (by omega))];rfl,rfl,rfl⟩
open Classical in
theorem ad0{ac a:Nat}{s d r:List UInt8}(h:s.drop a=d++r)(a1:a<=s.length)(hs:s.length<=100000)(aV:∀c∈d,48<=c.toNat/\c.toNat<=57)(aw:JS r):Fn (bd Q g0) 68 [fA ac] [fh ac s a] J (fun u m' af=>u=.string ⟨⟨d⟩⟩/\m'=[fh ac s (a+d.length)]/\J=af):=by
 have av:=UA h a1;refine Fn.cH (cM Tryz.func68) rfl rfl fun H=>?_;refine rg ?_;refine I V.az ?_;refine bi ?_;refine aM ?_;refine I V.aG ?_;refine I V.az ?_;refine ns ?_;refine ab.block ?_;refine fR [0,3] ?_;refine aj ?_;refine' ab.dF (fun(i:Nat)=>⟨[],[fh ac s (a+i)],J,i<=d.length,d.length -i⟩) (0) ?hs ?bA;case hs=>exact cy _
 case bA=>
  rintro i hinv;try simp only at hinv
  have ao:=hinv;obtain⟨vM,xE⟩:=ab4 h aV aw ao;refine fR [0,3] ?_;refine aj ?_;refine' ab.hl 0 [(15,.bool (decide ((i<d.length))))] ?NK ?NT;case NK=>
   refine ab.region ?_;refine I V.ag ?_;refine' W.step rfl (Exec.call rfl rfl rfl rfl rfl rfl rfl (bf:=[fh ac s (a+i)]) (bM:=[]) (.refl _) trivial (QQ (by omega) hs) ?_);rintro v m' af hle ⟨rfl,rfl,rfl⟩;refine I V.aZ ?_;refine I V.ag ?_;refine dr 11 (fun Ok=>?_) fun Ok=>?_
   ·refine aX V.ag ?_;refine' W.sH rfl rfl rfl (Exec.call rfl rfl rfl rfl rfl rfl rfl (bf:=[fh ac s (a+i)]) (bM:=[]) (.refl _) trivial (QQ (by omega) hs) ?_);rintro v m' af hle ⟨rfl,rfl,rfl⟩;refine aX V.aZ ?_;refine I V.aU ?_;refine a6 ?_;refine'⟨⟨_,rfl,⟨?n15,rfl,rfl,trivial⟩⟩,bu _,rfl⟩;case n15=>first|exact iV rfl (by omega)|exact iT rfl (by omega)|exact iU rfl (by omega)
   ·refine ah ?_;refine W.oU rfl rfl rfl rfl rfl ?_;refine ah ?_;refine I V.aU ?_;refine a6 ?_;refine'⟨⟨_,rfl,⟨?n15,rfl,rfl,trivial⟩⟩,bu _,rfl⟩;case n15=>first|exact iV rfl (by omega)|exact iT rfl (by omega)|exact iU rfl (by omega)
  case NT=>
   refine aj ?_;refine If (fun re=>?_) fun re=>?_
   ·refine aj ?_;refine ab.skip ?_;refine aj ?_;refine ab.block ?_;refine rg ?_;refine aM ?_;refine I V.aG ?_;refine I V.bt ?_;refine aM ?_;refine dC ?_;refine a6 ?_;refine cB (i+1) ?_;exact(by omega)
   ·obtain rfl:i=d.length:=by omega
    refine aj ?_;refine ab.exit ?_;refine aj ?_;refine ab.draw rfl (by kernel_rfl) (bc:=[.val 0,.val 1,.val 2,.val 3,.val 4,.val 5,.val 6,.val 7,.val 8,.val 9,.val 10]) (by kernel_rfl) ?_;refine cq ?_;refine al rfl V.aG ?_;refine cq ?_;refine al rfl V.aG ?_;refine' a8.val rfl rfl rfl rfl (aab rfl rfl (Mn rfl) rfl rfl ?bw ?aa ?ae) ?_;case bw=>exact cc
    case aa=>exact cc
    case ae=>exact cc
    refine al rfl V.az ?_;refine a8.nil ?_;refine aj ?_;refine ab.ret ?_;refine'⟨.inr rfl,rfl,_,_,.tmp rfl .nil,bu _,?_⟩;refine⟨?_,rfl,rfl⟩;show Value.string _=_;congr 3
    rw[cx,cx,h,show a+d.length -a=d.length by omega,SQ]
end
end
end Go.Opn
namespace Go.Opn
noncomputable section
open Go
theorem ZZ{c:UInt8}(h:48<=c.toNat/\c.toNat<=57):UInt8.ofNat (48+(c.toNat -48))=c:=by
 apply UInt8.toNat_inj.1
 rw[UInt8.toNat_ofNat'];omega
theorem adS:∀(k:Nat) (d:List UInt8),d.length=k+1->(∀c∈d,48<=c.toNat/\c.toNat<=57)->(∀c r,d=c::r->c.toNat=48->r=[])->Lib.decDigits (iq d)=d:=by
 intro k;induction k with
 |zero=>
  intro d aV a1 _;obtain⟨c,rfl⟩:=SG.1 aV;have:=a1 c (.head _);have e:iq [c]=c.toNat -48:=by show 10*0+(c.toNat -48)=_;omega
  rw[e,xd (by omega),ZZ this]
 |succ k aI=>
  intro d aV a1 bE;obtain⟨hB,c,rfl⟩:∃hB c,d=hB++[c]:=⟨d.dropLast,d.getLast (by intro q;rw[q] at aV;cases aV),(aa2 _).symm⟩;rw[dP,tl] at aV;have aC:=a1 c (hT _ (.head _));have Qp:=aI hB (by omega) (fun x U=>a1 x (nX _ U)) fun x r q bw=>by
   have:=bE x (r++[c]) (by rw[q];rfl) bw;exact absurd this (by simp)
  have PX:1<=iq hB:=by
   rcases M0 (iq hB) with h|h
   ·rw[h,xd (by omega)] at Qp;have:=bE (UInt8.ofNat (48+0)) [c] (by rw[<-Qp];rfl) (by decide);cases this
   ·exact h
  rw[MA,NP (by omega),show(10*iq hB+(c.toNat -48)) / 10=iq hB by omega,Qp,show(10*iq hB+(c.toNat -48)) % 10=c.toNat -48 by omega,ZZ aC]
theorem apD:∀(k:Nat) (d:List UInt8),d.length=k->(∀c∈d,48<=c.toNat/\c.toNat<=57)->iq d<10 ^ k:=by
 intro k;induction k with
 |zero=>intro d aV _;rw[q5.1 aV];decide
 |succ k aI=>
  intro d aV a1;obtain⟨hB,c,rfl⟩:∃hB c,d=hB++[c]:=⟨d.dropLast,d.getLast (by intro q;rw[q] at aV;cases aV),(aa2 _).symm⟩;rw[dP,tl] at aV;have aC:=a1 c (hT _ (.head _));have:=aI hB (by omega) (fun x U=>a1 x (nX _ U));rw[MA,C2];omega
theorem Xh{d:List UInt8}{k:Nat}{b:Bool}(aV:d.length=k+1)(a1:∀c∈d,48<=c.toNat/\c.toNat<=57)(bE:∀c r,d=c::r->c.toNat=48->r=[]/\b=false):Lib.itoa (if b=true then -(iq d:Int) else iq d)=(if b=true then[45] else[])++d:=by
 have h:=adS k d aV a1 fun c r q bw=>(bE c r q bw).1;rw[Lo];cases b with
 |false=>
  rw[an CU,an (by omega),an CU,show((iq d:Int)).natAbs=iq d by omega,h]
 |true=>
  have au:1<=iq d:=by
   rcases M0 (iq d) with q|q
   ·rw[q,xd (by omega)] at h;have:=(bE _ [] h.symm (by decide)).2;cases this
   ·exact q
  rw[aE rfl,aE (by omega),aE rfl,show(-(iq d:Int)).natAbs=iq d by omega,h]
theorem akC{a b:Int}(a1:0<=a)(ap:0<=b)(h:Lib.itoa a=Lib.itoa b):a=b:=by
 rw[Lo,Lo,an (by omega),an (by omega),k2,k2] at h;have:=cD iq h;rw[Uu _ _ (cW _),Uu _ _ (cW _)] at this;omega
theorem Xg{n:Int}:∀c∈Lib.itoa n,c≠10:=by
 intro c aC q;subst q;rw[Lo,ko] at aC;rcases aC with aC|aC
 ·split at aC
  ·exact absurd aC (by decide)
  ·cases aC
 ·exact absurd (adQ _ _ (cW _) _ aC).1 (by decide)
theorem NH{l:List UInt8}(h:∀c∈l,c≠10):l.count 10=0:=List.count_eq_zero.2 fun q=>h 10 q rfl
theorem abB{p q:List UInt8}{x y:UInt8}{k:Nat}{v:UInt8}(h:(p++y::q)[k]?=some v)(ai:y≠v):(p++x::q)[k]?=some v:=by
 rcases ji k p.length with g|g
 ·rw[k1 g] at h ⊢;exact h
 ·rw[pk g] at h ⊢;cases aO:k -p.length with
  |zero=>rw[aO] at h;injection h with h;exact absurd h ai
  |succ j=>rw[aO] at h;exact h
theorem X0{B lZ E E' p q:List UInt8}{x y:UInt8}(ix:∀c∈E,c≠10)(aa:B++(E++[10])=p++x::q)(ae:(lZ++[10])++(E'++[10])=p++y::q)(ai:y≠10):(lZ++[10]).length<=B.length:=by
 have cN:=cD List.length aa;have dW:=cD List.length ae;simp only[dP,jh,Ax] at cN dW ⊢;rcases ji lZ.length B.length with g|g
 ·omega
 ·exfalso;have bz:(p++y::q)[lZ.length]?=some 10:=by rw[<-ae];simp
  have e:=abB (x:=x) bz ai;rw[<-aa,pk g] at e;rcases ji (lZ.length -B.length) E.length with f|f
  ·rw[k1 f] at e;exact ix _ (cb e) rfl
  ·omega
theorem ab8{B qS C lZ w p q:List UInt8}{x y:UInt8}{eX:List UInt8->Int}(bw:∀l,0<=eX l)(inj:∀p x y q,x≠y->eX (p++x::q)≠eX (p++y::q))(dd:B=C++[10])(Vm:qS=lZ++[10])(hw:∀c∈w,c≠10)(aC:B.count 10=qS.count 10)(eZ:x≠y)
 (aa:B++((w++Lib.itoa (eX B))++[10])=p++x::q)(ae:qS++((w++Lib.itoa (eX qS))++[10])=p++y::q):False:=by
 have ix:∀n,∀c∈w++Lib.itoa n,c≠10:=fun n c aC=>(ko.1 aC).elim (hw c) (Xg c);have U:x≠10/\y≠10:=by
  have c1:=cD (List.count 10) aa;have c2:=cD (List.count 10) ae;rw[Au,Au,NH (ix _),Au (l₁:=p),List.count_cons (l:=q)] at c1 c2;by_cases a:x=10
  ·by_cases b:y=10
   ·exact absurd (a.trans b.symm) eZ
   ·rw[aE (J8.2 a)] at c1;rw[an (fun z=>b (J8.1 z))] at c2;omega
  ·by_cases b:y=10
   ·rw[an (fun z=>a (J8.1 z))] at c1;rw[aE (J8.2 b)] at c2;omega
   ·exact⟨a,b⟩
 have av:B.length=qS.length:=by
  have a:=X0 (lZ:=lZ) (E':=w++Lib.itoa (eX qS)) (ix _) aa (by rw[<-Vm];exact ae) U.2;have b:=X0 (lZ:=C) (E':=w++Lib.itoa (eX B)) (ix _) ae (by rw[<-dd];exact aa) U.1;rw[<-Vm] at a;rw[<-dd] at b;omega
 have t1:=cD (List.take B.length) aa;have t2:=cD (List.take qS.length) ae;rw[SQ] at t1 t2;rcases ji p.length B.length with g|g
 ·have d1:=cD (List.drop B.length) aa;have d2:=cD (List.drop qS.length) ae;rw[SB] at d1 d2;obtain⟨k,aO⟩:∃k,B.length=p.length+(k+1):=⟨B.length -p.length -1,by omega⟩;rw[<-av] at d2 t2;rw[aO,SA,Aw (by omega),k2,show p.length+(k+1) -p.length=k+1 by omega,MX] at d1 d2;rw[<-d2] at d1;have e:=aa1 (List.append_cancel_right d1);have e:=akC (bw _) (bw _) e;rw[aO,SO,eo (by omega),show p.length+(k+1) -p.length=k+1 by omega,JO] at t1 t2;rw[t1,t2] at e;exact inj _ _ _ _ eZ e
 ·rw[JN g] at t1;rw[JN (by omega),<-av,<-t1] at t2;subst t2;rw[aa] at ae;have:=aa1 ae;injection this with this
  exact eZ this
end
end Go.Opn
namespace Go.Opn
noncomputable section
open Go.Cre Go.RowKit Go.Proofs
def AA(J:aH)(bK:List PanicEntry)(m':aN)(af:aH):Prop:=m'=[]/\J=af/\∃e a:Int,e≠0/\bK=[{v:=.iface 65 (.agg #[.int .i64 e,.int .i64 a]),recovered:=false}]
section
variable {K:eE}{J FC:aH}{fn:Func}{E:cf}{m m':aN}{bK:List PanicEntry}{k4:Value->aN->aH->Prop}
theorem Yo(h:AA J bK m' FC)(aV:E.ds.ds=[]:=by exact rfl):Leaves K fn (.panic bK) E m FC k4 (AA J):=by
 obtain⟨_,ae,aF⟩:=h;exact⟨_,rfl,.inl ⟨aV,.inr ⟨_,[],rfl,h5 _,rfl,ae,aF⟩⟩⟩
theorem lW{p:Prop}(h:p:=by
 intro bK m' af hle au;exact Yo au):p:=h
end
section
variable {Q:dD Tryz.prog}{g0:Nat}{J:aH}
theorem LE{fn:Func}{e:Exit}{E:cf}{m m':aN}{vs:List Value}{k4:Value->aN->aH->Prop}{n1:List PanicEntry->aN->aH->Prop}(au:k4 (qC vs) m' J)(he:LC e=some .returning:=by exact rfl) (aV:E.ds.ds=[]:=by exact rfl) (aw:pq (bd Q g0).P E m J fn.results.toList vs:=by first|exact .nil|exact .tmp rfl .nil|exact Co .nil) (hs:m'.Sublist m:=by exact .refl _):Leaves (bd Q g0) fn e E m J k4 n1:=⟨.returning,he,.inl ⟨aV,.inl ⟨rfl,vs,m',aw,hs,au⟩⟩⟩
theorem GS{c:Value}{e a:Int}(he:e≠0):nW (bd Q g0) 47 [c,.int .i64 e,.int .i64 a] [] J (fun _ _ _=>False) (AA J):=by
 refine nW.cH (cM Tryz.func47) rfl rfl fun H=>?_;refine rg ?_;refine aM ?_;refine I V.Xa ?_;refine' W.panic rfl rfl rfl ?_;exact Yo ⟨rfl,rfl,e,a,he,rfl⟩
theorem am3{s X w:List UInt8}{i:Nat}{b:UInt8}(h:X++w.take i <+: s)(ao:w[i]?=some b)(ap:s[X.length+i]?=some b):X++w.take (i+1) <+: s:=by
 obtain⟨t,rfl⟩:=h;have av:=(dY.1 ao).1;rw[pk (by rw[dP,iu];omega),dP,iu,show X.length+i -(X.length+min i w.length)=0 by omega] at ap;cases t with
 |nil=>cases ap
 |cons c t=>
  injection ap with ap
  subst ap;rw[nY,ao];exact⟨t,by simp⟩
open Classical in
theorem vz{ac a:Nat}{s w X:List UInt8}(hC:X.length=a)(h:X <+: s)(hs:s.length<=100000)(hw:w.length<=1000):nW (bd Q g0) 44 [fA ac,.string ⟨⟨w⟩⟩] [fh ac s a] J (fun u m' af=>∃b,X++w <+: s/\(X++w).length=b/\m'=[fh ac s b]/\J=af) (AA J):=by
 refine nW.cH (cM Tryz.func44) rfl rfl fun H=>?_;refine rg ?_;refine aM ?_;refine ns ?_;refine ab.block ?_;refine' ab.c0 (l':=[(7,.int .i64 ((0):Int)),(0,_),(1,_),(6,_)]) ⟨?yq,rfl,rfl,rfl,trivial⟩ (bu _) ?_;case yq=>exact bP
 refine aj ?_;refine' ab.dF (fun(i:Nat)=>⟨[(7,.int .i64 (i:Int))],[fh ac s (a+i)],J,i<=w.length/\X++w.take i <+: s,w.length -i⟩) (0) ?hs ?bA;case hs=>exact⟨cy _,by simpa using h⟩
 case bA=>
  rintro i hinv;try simp only at hinv
  obtain⟨ao,au⟩:=hinv;have dE:=au.length_le;rw[dP,iu,hC] at dE;refine rg ?_;refine I V.aZ ?_;refine ns ?_;refine If (fun my=>?_) fun my=>?_
  ·have j1:=dj (l:=w) (i:=i) (by omega);have kP:w[((i:Nat):Int).toNat]?=some w[i]:=by rw[cx];exact j1
   refine c7 ?_;refine aj ?_;refine ab.block ?_;refine rg ?_;refine aM ?_;refine ns ?_;refine ab.DF [] rfl (by kernel_rfl) (bc:=[.val 0,.val 1,.val 2,.val 3,.val 4,.val 5,.val 6,.val 7,.val 8,.val 9,.val 10,.val 11,.val 12,.val 13,.val 14,.val 15,.val 16,.val 17,.val 18,.val 19,.val 20,.val 21,.val 22,.val 23,.val 24]) (by kernel_rfl) ?_;refine dk rfl V.ag ?_;refine dk rfl V.pb ?_;refine dk rfl V.ba ?_;refine dk rfl V.aG ?_;refine dk rfl V.ag ?_;refine dk rfl V.pb ?_;refine dk rfl V.ba ?_;refine dk rfl V.aG ?_;refine dk rfl V.x2 ?_;refine dk rfl V.aZ ?_;refine dk rfl V.ag ?_;refine ts 20 (fun agv=>?_) fun agv=>?_
   ·refine cg rfl ?_;refine cg rfl ?_;refine cg rfl ?_;refine cg rfl ?_;refine cg rfl ?_;refine cg rfl ?_;refine cg rfl ?_;refine cg rfl ?_;refine cg rfl ?_;refine cg rfl ?_;refine cg rfl ?_;refine cg rfl ?_;refine cg rfl ?_;refine dk rfl V.aU ?_;refine dv.nil ?_;refine aj ?_;refine ab.Kk rfl ?_;refine rg ?_;refine aM ?_;refine I V.aG ?_;exact W.k9 rfl rfl rfl rfl rfl rfl rfl rfl (bf:=[]) (bM:=[fh ac s (a+i)]) (.refl _) (GS (by decide)) (fun _ _ _ _ h=>h.elim) lW
   ·have D7:=dj (l:=s) (i:=a+i) (by omega);have mb:s[((a+i:Nat):Int).toNat]?=some s[a+i]:=by rw[cx];exact D7
    refine df rfl V.ag ?_;refine df rfl V.pb ?_;refine df rfl V.ba ?_;refine df rfl V.aG ?_;refine df rfl V.ag ?_;refine df rfl V.pb ?_;refine df rfl V.ba ?_;refine df rfl V.aG ?_;refine df rfl V.BQ ?_;refine df rfl V.ag ?_;refine df rfl V.ag ?_;refine df rfl V.BQ ?_;refine df rfl V.aZ ?_;refine dk rfl V.aU ?_;refine dv.nil ?_;refine aj ?_;refine If (fun TU=>?_) fun TU=>?_
    ·refine rg ?_;refine aM ?_;refine I V.aG ?_;exact W.k9 rfl rfl rfl rfl rfl rfl rfl rfl (bf:=[]) (bM:=[fh ac s (a+i)]) (.refl _) (GS (by decide)) (fun _ _ _ _ h=>h.elim) lW
    ·have ahB:s[a+i]=w[i]:=by first|exact UInt8.toNat_inj.1 (by omega)|exact ave TU
     refine ln ?_;refine aM ?_;refine I V.aG ?_;refine I V.bt ?_;refine aM ?_;refine dC ?_;refine bi ?_;refine I V.bt ?_;refine I V.ag ?_;refine a6 ?_;refine cB (i+1) ?_;exact⟨by omega,am3 au j1 (by rw[hC,<-ahB];exact D7)⟩
  ·obtain rfl:i=w.length:=by omega
   refine aj ?_;refine ab.exit ?_;rw[tm] at au;exact LE ⟨_,au,rfl,by rw[dP,hC],rfl⟩
end
end
end Go.Opn
