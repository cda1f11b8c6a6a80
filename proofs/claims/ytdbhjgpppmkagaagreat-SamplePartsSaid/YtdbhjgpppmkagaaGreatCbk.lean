/- A part of the proof of SampleParts. -/
import Derived.Test.YtdbhjgpppmkagaaGreatCbj
import Derived.Test.YtdbhjgpppmkagaaGreatCbi
import Derived.Test.YtdbhjgpppmkagaaGreatCbb
set_option maxRecDepth 100000
set_option maxHeartbeats 4000000
set_option linter.unusedVariables false
set_option linter.unusedSimpArgs false
namespace Go.Opn
noncomputable section
open Go.Cre Go.RowKit Go.Proofs
def AD(J:aA)(i:Nat)(x:i')(cs:List Value):Prop:=∃b c,cs=[.int .i64 x.bQ,.int .i64 (x.level:Int),.slice b x.seen.length c,.int .i64 (i:Int)]/\ew J (.slice b x.seen.length c) x.seen
def JW(_:Nat)(x:Int×Int)(cs:List Value):Prop:=cs=[.int .i64 x.1,.int .i64 x.2]
open Classical in
theorem RP{v:i'}:∀{l:List i'} {i:Nat},(∀(j:Nat) (x:i'),l[j]?=some x->x≠v)->ka v l i=none:=by
 intro l;induction l with
 |nil=>intro i _;rfl
 |cons w r aG=>
  intro i h;show(if w=v then some i else ka v r (i+1))=none;rw[aq (h 0 w rfl)];exact aG fun j x I=>h (j+1) x I
theorem W5{x:i'}{p:Int}{L:Nat}{s:List Int}:x=⟨p,L,s⟩↔x.bQ=p/\x.level=L/\x.seen=s:=by
 constructor
 ·rintro rfl;exact⟨rfl,rfl,rfl⟩
 ·cases x;rintro⟨rfl,rfl,rfl⟩;rfl
open Classical in
theorem aba{v:i'}:∀{l:List i'} {i k:Nat},(∀(j:Nat),j<k->∀x,l[j]?=some x->x≠v)->l[k]?=some v->ka v l i=some (i+k):=by
 intro l;induction l with
 |nil=>intro i k _ h;cases h
 |cons w r aG=>
  intro i k h aH;show(if w=v then some i else ka v r (i+1))=_;cases k with
  |zero=>injection aH with aH;rw[aF aH];rfl
  |succ k=>
   rw[aq (h 0 (by omega) w rfl),aG (fun j aU x I=>h (j+1) (by omega) x I) aH];congr 1;omega
theorem hf.jO{e:TypeId}{aj k:Nat}{v:Value}{cells:List Value}{aY:aI}(h:hf e aj v k cells aY):∃b c,v=.slice b k c/\addrEq b b=true:=by
 rcases h with⟨h,_⟩|⟨a,full,rest,rfl,_⟩
 ·exact h.jO
 ·exact⟨_,_,rfl,by show(Nat.beq a a&&Nat.beq 0 0)=true;rw[hX];rfl⟩
theorem ahg{α:Type}{x a b:α}{l r:List α}:([x]++(l++a::b::r)).Perm (l++a::b::x::r):=
 (Au (l₁:=l) (l₂:=a::b::r)).symm.trans (J2 _ ((List.Perm.swap a x _).trans (.cons _ (List.Perm.swap b x _))))
theorem ahh{α:Type}{p d a b:α}{l r:List α}:(p::([d]++(l++a::b::r))).Perm (r++(p::d::(l++[a,b]))):=by
 have h:=jn (l₁:=p::d::(l++[a,b])) (l₂:=r);rw[show p::([d]++(l++a::b::r))=(p::d::(l++[a,b]))++r by simp];exact h
theorem U9{α:Type}{d a:α}{l r:List α}:(r++(d::(l++[a]))).Perm (a::d::(l++r)):=by
 refine(jn (l₁:=r) (l₂:=d::(l++[a]))).trans ?_;rw[show d::(l++[a])++r=d::(l++a::r) by simp];exact(List.Perm.cons _ Au).trans (List.Perm.swap _ _ _)
section
variable {Q:db Tryz.prog}{g0:Nat}{J:aA}
theorem abc{am ad:Nat}{lv fs fB e8:Value}{az a4:aI}{aY h8:Int}{z s:Bool}{pl:Nat}{c5:Option Addr}{cl a:Nat}{l:List Int}{vs:List i'}{is:List (Int×Int)}{eY ci:List Value}{bQ:Int}{L:Nat}{b:Option Addr}{c:Nat}{seen:List Int}
 (ay:ew J (.slice c5 l.length cl) l)(im:l.length<=1000000)(aW:a<=l.length)
 (ap:hf 123 4 fs vs.length eY az)(p6:hi 4 (AD J) eY vs)(ak:hf 87 2 e8 is.length ci a4)(tR:hi 2 JW ci is)(nW:is.length=vs.length)(vG:vs.length<=100000)
 (al:ew J (.slice b seen.length c) seen)(hR:∀x∈vs,x.seen.length<=1000000):
 Fn (a2 Q g0) 33 [.pointer (some ⟨am,0,none⟩),.int .i64 bQ,.int .i64 (L:Int),.slice b seen.length c] ((am,.row (uh ad lv fs aY h8 z s pl fB e8) 61)::jM ad c5 cl l a::(az++a4)) J
  (fun u m' ag=>J=ag/\∃n9 nZ ui ug KY KS bA ko Ff,∃k:Nat,u=.int .i64 (k:Int)/\m'.Perm ((am,.row (uh ad lv n9 aY h8 z s pl fB nZ) 61)::jM ad c5 cl l bA::(ui++ug))/\bA<=l.length/\
     hf 123 4 n9 ko.length KY ui/\hi 4 (AD J) KY ko/\hf 87 2 nZ Ff.length KS ug/\hi 2 JW KS Ff/\
     ((ka ⟨bQ,L,seen⟩ vs 0=some k/\ko=vs/\Ff=is/\bA=a)\/(ka ⟨bQ,L,seen⟩ vs 0=none/\k=vs.length/\ko=vs++[⟨bQ,L,seen⟩]/\Ff=is++[(bQ,1+eg (l.drop a) 3)]/\bA=ks l a 3))):=by
 obtain⟨bv,amw,rfl,Ji⟩:=ap.jO;obtain⟨bi,Zj,rfl,kZ⟩:=ak.jO;have Ie:addrEq b b=true:=by obtain⟨e,h⟩:=al;exact h.addr
 refine Fn.dw (dB Tryz.func33) rfl rfl fun H=>?_;refine rg ?_;refine U V.a7 ?_;refine bP ?_;refine U V.a7 ?_;refine ns ?_;refine ae.block ?_;refine' ae.fy (l':=[(9,.int .i64 ((0):Int)),(0,_),(1,_),(2,_),(3,_)]) ⟨?F9,rfl,rfl,rfl,rfl,trivial⟩ (bV _) ?_;case F9=>exact ec
 refine aJ ?_;refine' ae.Fi (α:=(Nat)) (fun(i:Nat)=>[(9,.int .i64 (i:Int))]) (fun(i:Nat)=>i<=vs.length/\∀j,j<i->∀x,vs[j]?=some x->x≠⟨bQ,L,seen⟩) (fun(i:Nat)=>vs.length -i) (0) ?al ?cp;case al=>exact⟨dV _,fun j aU=>by omega⟩
 case cp=>
  rintro i hinv;try simp only at hinv
  obtain⟨jg,cA⟩:=hinv;refine rg ?_;refine aV ?_;refine U V.a9 ?_;refine U V.cr ?_;refine U V.bm ?_;refine ns ?_;refine If (fun KF=>?_) fun KF=>?_
  ·obtain⟨bK,fv,rv,aZ,rfl,Mo,rh⟩:=ap.row (by omega);obtain⟨x,cs,I,xg,EE,fG,lR,rfl,E2⟩:=p6.at Mo (i:=i) (by omega);injection aZ with aZ aR bY;subst aZ;subst bY
   have kU:=hR x (cV I);have nw:addrEq fG fG=true:=by obtain⟨e,h⟩:=E2;exact h.addr
   refine gn ?_;refine aJ ?_;refine ae.block ?_;refine rg ?_;refine aV ?_;refine U V.a9 ?_;refine U V.az ?_;refine U V.bf ?_;refine U V.hb ?_;refine' W.step rfl (.of (ic rfl rfl rfl (alu Q g0) rfl rfl rfl fun wF=>?_));refine fF ?_;refine bu ?_;refine kq [0,1,2,3,9,10] ?_;refine aJ ?_;refine' ae.mi 0 [(42,.bool (decide ((x.bQ=bQ/\x.level=L/\x.seen=seen))))] ?ZI ?Z';case ZI=>
    refine ae.region ?_;refine U V.bU ?_;refine U V.a9 ?_;refine U V.az ?_;refine U V.bm ?_;refine U V.az ?_;refine eu 31 (fun Hu=>?_) fun Hu=>?_
    ·refine bg V.bU ?_;refine bg V.a9 ?_;refine bg V.az ?_;refine bg V.bm ?_;refine U V.bc ?_;refine U V.az ?_;refine eu 37 (fun abN=>?_) fun abN=>?_
     ·refine bg V.bU ?_;refine bg V.a9 ?_;refine bg V.az ?_;refine qX (G:=T4 E2 al kU) (h:=?_);rintro v m' ag hle ⟨rfl,rfl,rfl⟩;refine U V.bc ?_;refine bu ?_;exact ce
     ·refine a0 ?_;refine a0 ?_;refine a0 ?_;refine W.p2 rfl rfl rfl rfl rfl ?_;refine U V.bc ?_;refine bu ?_;exact ce
    ·refine a0 ?_;refine a0 ?_;refine a0 ?_;refine a0 ?_;refine U V.bc ?_;refine U V.az ?_;refine a0 ?_;refine a0 ?_;refine a0 ?_;refine W.p2 rfl rfl rfl rfl rfl ?_;refine U V.bc ?_;refine bu ?_;exact ce
   case Z'=>
    refine aJ ?_;refine If (fun AH=>?_) fun AH=>?_
    ·refine rg ?_;refine U V.bU ?_;refine U V.a9 ?_;refine U V.a7 ?_;refine ns ?_;refine ae.ret ?_;refine'⟨.inr rfl,rfl,_,_,.tmp rfl .nil,?kf,?_⟩;case kf=>first|(have c:=AH;apply List.Sublist.cons;exact bV _)|exact(List.Sublist.cons _ (List.Sublist.cons_cons _ ((List.Sublist.cons _ (bV _)).append_left _))).append_left _
     first
        |(have c:=AH
          obtain rfl:=W5.2 AH;have aw:=aba (i:=0) cA I;rw[lN] at aw;exact⟨rfl,_,_,_,_,_,_,_,_,_,i,rfl,.refl _,aW,ap,p6,ak,tR,.inl ⟨aw,rfl,rfl,rfl⟩⟩)
        |(refine⟨rfl,_,_,_,_,_,_,_,_,_,vs.length,?_,U9,r4 aW,?_,p6.app (x:=⟨bQ,L,seen⟩) (new:=[.int .i64 bQ,.int .i64 (L:Int),.slice b seen.length c,.int .i64 (vs.length:Int)]) ⟨b,c,rfl,al⟩ rfl,?_,tR.app (x:=(bQ,1+eg (l.drop a) 3)) (new:=[.int .i64 bQ,.int .i64 (1+eg (l.drop a) 3)]) rfl rfl,.inr ⟨RP fun j y ah=>cA j (by have:=(dv.1 ah).1;omega) y ah,rfl,rfl,rfl,rfl⟩⟩
          ·show Value.int .i64 _=_;congr 1;omega
          ·rw[er,<-nW];rw[<-nW] at Ev;exact Ev
          ·rw[er];rw[hw] at Ew;exact Ew)
    ·refine aJ ?_;refine ae.skip ?_;refine rg ?_;refine U V.az ?_;refine U V.va ?_;refine U V.a7 ?_;refine bu ?_;refine'⟨(i+1),_,?hinv,?vB,rfl,⟨?Fl,rfl,rfl,rfl,rfl,trivial⟩,.cons _ (.refl _),rfl⟩;case Fl=>exact ec
     case vB=>exact cQ
     case hinv=>refine⟨by omega,fun j aU y ah=>?_⟩;by_cases q:j<i;(exact cA j q y ah);(obtain rfl:j=i:=by omega);(rw[I] at ah;injection ah with ah;subst ah;exact fun q=>AH (W5.1 q))
  ·refine aJ ?_;refine ae.exit ?_;refine aJ ?_;refine ae.draw rfl (by kernel_rfl) (a8:=[.val 0,.val 1,.val 2,.val 3,.val 4,.val 5,.val 6,.val 7,.val 8,.val 9,.val 10,.val 11,.val 12,.val 13,.val 14,.f' 15,.c9 [14,13,12,11,10,9,8,7,6,5,4,3,2,1,0],.cv 16,.val 17,.val 18,.c9 [0],.cv 19]) (by kernel_rfl) ?_;refine cm ?_;refine aB rfl V.a9 ?_;refine cm ?_;refine aB rfl V.a9 ?_;refine aB rfl V.cr ?_;refine aB rfl V.lp ?_;refine a3.buildSlice rfl rfl rfl rfl rfl rfl (Oq Q g0) rfl rfl rfl fun alZ=>?_;refine a3.c9 g7 ?_;refine' a3.ij rfl rfl (O9 rfl rfl rfl rfl rfl rfl (Oq Q g0) (akd Q g0) (fun i q=>by cases q) ?fo ?hm ?I ?df ?dR ?aU ?ay fun apf afW Ev=>?_);case fo=>assumption
   case hm=>exact Jd
   case I=>exact nw
   case df=>first|rfl|(simp;done)|(simp;omega)
   case dR=>first|rfl|exact mX _
   case aU=>exact cQ
   case ay=>exact cQ
   obtain⟨al9,wU,rfl,aot⟩:=Ev.jO;refine cm ?_;refine a3.c9 g7 ?_;refine m6 rfl ?_;refine a3.nil ?_;refine aJ ?_;refine ae.draw rfl (by kernel_rfl) (a8:=[.val 0,.val 1,.val 2,.val 3,.val 4,.val 5,.val 6,.val 7,.val 8,.val 9,.val 10,.cv 11,.val 12,.val 13,.f' 14,.c9 [13,12,6,5,4,3,2,1,0],.cv 15,.val 16,.val 17,.val 18,.c9 [0],.cv 19]) (by kernel_rfl) ?_;refine cm ?_;refine aB rfl V.a9 ?_;refine cm ?_;refine aB rfl V.a9 ?_;have hw:IntKind.i64.wrap (1+eg (l.drop a) 3)=1+eg (l.drop a) 3:=wrap_i64 (by have:=oJ (l:=l.drop a) (n:=3) (by omega);omega) (by have:=oJ (l:=l.drop a) (n:=3) (by omega);omega);refine' a3.call rfl rfl rfl rfl rfl rfl rfl rfl rfl rfl (a4:=[jM ad c5 cl l a]) (b2:=afW++_::_::a4) ahg trivial (zN ay im aW (by decide)) ?_;rintro v m' ag hle ⟨rfl,rfl,rfl⟩;refine aB rfl V.va ?_;refine aB rfl V.lp ?_;refine a3.buildSlice rfl rfl rfl rfl rfl rfl (Oo Q g0) rfl rfl rfl fun al0=>?_;refine a3.c9 g7 ?_;refine' a3.ij rfl rfl (O9 rfl rfl rfl rfl rfl rfl (Oo Q g0) (akb Q g0) (fun i q=>by cases q) ?fo ?hm ?I ?df ?dR ?aU ?ay fun apg aoa Ew=>?_);case fo=>assumption
   case hm=>exact ahh
   case I=>exact nw
   case df=>first|rfl|(simp;done)|(simp;omega)
   case dR=>first|rfl|exact mX _
   case aU=>exact cQ
   case ay=>exact cQ
   obtain⟨al',tq,rfl,aou⟩:=Ew.jO;refine cm ?_;refine a3.c9 g7 ?_;refine m6 rfl ?_;refine a3.nil ?_;refine rg ?_;refine aV ?_;refine U V.a9 ?_;refine U V.cr ?_;refine U V.va ?_;refine U V.a7 ?_;refine ns ?_;refine ae.ret ?_;refine'⟨.inr rfl,rfl,_,_,.tmp rfl .nil,?kf,?_⟩;case kf=>first|(have c:=AH;apply List.Sublist.cons;exact bV _)|exact(List.Sublist.cons _ (List.Sublist.cons_cons _ ((List.Sublist.cons _ (bV _)).append_left _))).append_left _
   first
    |(refine⟨rfl,_,_,_,_,_,_,_,_,_,vs.length,?_,U9,r4 aW,?_,p6.app (x:=⟨bQ,L,seen⟩) (new:=[.int .i64 bQ,.int .i64 (L:Int),.slice b seen.length c,.int .i64 (vs.length:Int)]) ⟨b,c,rfl,al⟩ rfl,?_,tR.app (x:=(bQ,1+eg (l.drop a) 3)) (new:=[.int .i64 bQ,.int .i64 (1+eg (l.drop a) 3)]) rfl rfl,.inr ⟨RP fun j y ah=>cA j (by have:=(dv.1 ah).1;omega) y ah,rfl,rfl,rfl,rfl⟩⟩
      ·show Value.int .i64 _=_;congr 1;omega
      ·rw[er,<-nW];rw[<-nW] at Ev;exact Ev
      ·rw[er];rw[hw] at Ew;exact Ew)
end
theorem U6{α:Type}{d p:α}{l r:List α}:([d]++(l++p::r)).Perm (l++p::d::r):=(Au (l₁:=l) (l₂:=p::r)).symm.trans (J2 _ (List.Perm.swap _ _ _))
theorem ahe{α:Type}{q d p:α}{l r:List α}:(q::([d]++(l++p::r))).Perm (l++q::p::d::r):=(List.Perm.cons q U6).trans List.perm_middle.symm
theorem ahf{α:Type}{a b c d:α}:[a,b,c,d].Perm (d::[a,b,c]):=jn (l₁:=[a,b,c]) (l₂:=[d])
theorem Vu{full new:List Value}{p m:Nat}(h:p+new.length<=full.length):(full.take p++new++full.drop (p+new.length))[m]?=if m<p then full[m]? else if m<p+new.length then new[m -p]? else full[m]?:=by
 have aa:(full.take p).length=p:=by rw[fc];omega
 by_cases q:m<p
 ·rw[aF q,j0,og (by omega),kr,aF q]
 ·rw[aq q]
  by_cases aR:m<p+new.length
  ·rw[aF aR,og (by rw[er];omega),rY (by omega),aa]
  ·rw[aq aR,rY (by rw[er];omega),o2,er,aa]
   congr 1;omega
theorem hi.put{α:Type}{aj:Nat}{R R':Nat->α->List Value->Prop}{full new:List Value}{xs:List α}(h:hi aj R (full.take (xs.length*aj)) xs)(aw:xs.length*aj<=full.length)(gB:∀i x cs,R i x cs->R' i x cs){k:Nat}{y:α}(aH:k<xs.length)(aM:new.length=aj)(ah:R' k y new):hi aj R' ((full.take (k*aj)++new++full.drop (k*aj+new.length)).take (xs.length*aj)) (xs.set k y):=by
 have mU:k*aj+aj<=xs.length*aj:=by rw[<-pN];exact mD _ aH
 refine⟨by rw[fc,er,er,fc,jJ,hW];omega,fun i x I=>?_⟩;have ak:i<xs.length:=by have:=(dv.1 I).1;rw[hW] at this;exact this
 have p':i*aj+aj<=xs.length*aj:=by rw[<-pN];exact mD _ ak
 by_cases q:i=k
 ·subst q
  rw[List.getElem?_set_self aH] at I;injection I with I;subst I
  rw[show((full.take (i*aj)++new++full.drop (i*aj+new.length)).take (xs.length*aj) |>.drop (i*aj)).take aj=new from ?_]
  ·exact ah
  ·apply mb
   intro j;rw[kr];by_cases z1:j<aj
   ·rw[aF z1,o2,kr,aF (by omega),Vu (by omega),aq (by omega),aF (by omega)]
    congr 1;omega
   ·rw[aq z1,hg (by omega)]
 ·rw[List.getElem?_set_ne (fun r=>q r.symm)] at I
  have ab:=gB _ _ _ (h.2 i x I);have aS:i*aj+aj<=k*aj\/k*aj+aj<=i*aj:=by
   rcases jo i k with r|r
   ·exact .inl (by rw[<-pN];exact mD _ r)
   ·exact .inr (by rw[<-pN];exact mD _ (by omega))
  rw[show((full.take (k*aj)++new++full.drop (k*aj+new.length)).take (xs.length*aj) |>.drop (i*aj)).take aj=((full.take (xs.length*aj)).drop (i*aj)).take aj from ?_]
  ·exact ab
  ·apply mb
   intro j;rw[kr,kr];by_cases z1:j<aj
   ·rw[aF z1,aF z1,o2,o2,kr,kr,aF (by omega),aF (by omega),Vu (by omega)]
    rcases aS with r|r
    ·rw[aF (by omega)]
    ·rw[aq (by omega),aq (by omega)]
   ·rw[aq z1,aq z1]
section
variable {Q:db Tryz.prog}{g0:Nat}{J:aA}
theorem afI{am ad a1:Nat}{lv fs e8:Value}{aY h8:Int}{s:Bool}{pl:Nat}{c5:Option Addr}{cl a at_:Nat}{l:List Int}{ma:List cH}{fn:List Value}{rn:List Nat}
 (ay:ew J (.slice c5 l.length cl) l)(im:l.length<=1000000)(aW:a<=l.length)(dq:pl<=100)
 (aM:hi 6 (fun _=>mE J) (fn.take (ma.length*6)) ma)(aw:ma.length*6<=fn.length)(ju:at_<ma.length)(df:ma.length<=100000):
 Fn (a2 Q g0) 32 [.pointer (some ⟨am,0,none⟩),.int .i64 (at_:Int)] [jM ad c5 cl l a,(am,.row (uh ad lv fs aY h8 false s pl (vW a1 ma.length) e8) 61),(a1,.opn fn 92 rn 0)] J
  (fun u m' ag=>J.le ag/\∃bA y1 Jl,m'=[(a1,.opn y1 92 Jl 0),jM ad c5 cl l bA,(am,.row (uh ad lv fs aY h8 false s pl (vW a1 ma.length) e8) 61)]/\bA<=l.length/\l.drop bA=(nu pl (l.drop a)).2/\y1.length=fn.length/\
     hi 6 (fun _=>mE ag) (y1.take (ma.length*6)) (ma.set at_ ⟨3,0,0,[],[],(nu pl (l.drop a)).1⟩)):=by
 refine Fn.dw (dB Tryz.func32) rfl rfl fun H=>?_;refine rg ?_;refine U V.lp ?_;refine' W.step rfl (.of (ic rfl rfl rfl (yh Q g0) rfl rfl rfl fun b3=>?_));refine fF ?_;refine bP ?_;refine U V.a7 ?_;refine ns ?_;refine ae.block ?_;refine' ae.fy (l':=[(5,.int .i64 ((0):Int)),(0,_),(1,_),(4,_)]) ⟨?wj,rfl,rfl,rfl,trivial⟩ (bV _) ?_;case wj=>exact ec
 refine aJ ?_;refine' ae.cf (fun(cU:Nat×Nat×(List Int)×Value×aI)=>match cU with|(i,bl,mO,v,IK)=>⟨[(5,.int .i64 (i:Int))],IK++[(b3,.row [.int .i64 3,.int .i64 0,.int .i64 0,.slice none 0 0,.slice none 0 0,v] 92),jM ad c5 cl l bl,(am,.row (uh ad lv fs aY h8 false s pl (vW a1 ma.length) e8) 61),(a1,.opn fn 92 rn 0)],J,i<=pl/\bl<=l.length/\mO.length=i/\Acc 3 1 v mO.length (mO.map (Value.int .i64)) IK/\nu pl (l.drop a)=(mO++(nu (pl -i) (l.drop bl)).1,(nu (pl -i) (l.drop bl)).2),pl -i⟩) ⟨0,a,[],.slice none 0 0,[]⟩ ?al ?cp
 case al=>exact⟨dV _,aW,rfl,.nil,rfl⟩
 case cp=>
  rintro⟨i,bl,mO,v,IK⟩ hinv;try simp only at hinv
  obtain⟨ak,Eu,HS,fo,po⟩:=hinv;obtain⟨jc,jd,rfl,Oa⟩:=fo.jO;refine rg ?_;refine aV ?_;refine U V.a9 ?_;refine U V.bm ?_;refine ns ?_;refine If (fun Dn=>?_) fun Dn=>?_
  ·refine aJ ?_;refine ae.skip ?_;refine aJ ?_;refine ae.block ?_;refine aJ ?_;refine ae.draw rfl (by kernel_rfl) (a8:=[.val 0,.val 1,.val 2,.val 3,.val 4,.val 5,.cv 6,.val 7,.f' 8,.c9 [7,1,0],.cv 9,.val 10,.cv 11]) (by kernel_rfl) ?_;refine aB rfl V.bU ?_;refine aB rfl V.a9 ?_;refine cm ?_;refine aB rfl V.a9 ?_;refine' a3.call rfl rfl rfl rfl rfl rfl rfl rfl rfl rfl (a4:=[jM ad c5 cl l bl]) (b2:=IK++_::[_,_]) U6 trivial (zN ay im Eu (by decide)) ?_;rintro v m' ag hle ⟨rfl,rfl,rfl⟩;refine aB rfl V.va ?_;refine a3.buildSlice rfl rfl rfl rfl rfl rfl (hL Q g0) rfl rfl rfl fun mI=>?_;refine a3.c9 ⟨?gX,?a',?bd,trivial⟩ ?_;case gX=>
    refine' kH.val rfl rfl rfl (WI rfl rfl rfl rfl ?hw) rfl ?he;case hw=>first|exact wrap_i64 (by omega) (by omega)|exact wrap_u8 (by omega) (by omega)|rfl
    case he=>exact s4
   case a'=>
    refine' kH.val rfl rfl rfl (ix rfl rfl ?ax (iR (hh rfl) ?ap)) rfl ?he;case ax=>exact qr
    case ap=>first|rfl|assumption
    case he=>exact s4
   case bd=>
    refine' kH.val rfl rfl rfl (OW rfl rfl (ON rfl rfl)) rfl ?he;case he=>exact s4
   refine' a3.ij rfl rfl (qF rfl rfl rfl rfl rfl rfl (hL Q g0) (s3 Q g0) (fun i q=>by cases q) ?fo ?hm ?I ?df ?dR ?ay fun W6 afT L6=>?_);case fo=>assumption
   case hm=>exact ahe
   case I=>exact nw
   case df=>first|rfl|(simp;done)|(simp;omega)
   case dR=>first|rfl|exact mX _
   case ay=>exact cQ
   have EL:=oJ (l:=l.drop bl) (n:=7) (by omega);have hw:IntKind.i64.wrap (eg (l.drop bl) 7 -3)=eg (l.drop bl) 7 -3:=wrap_i64 (by omega) (by omega);obtain⟨Ys,wR,rfl,aoq⟩:=L6.jO;refine aB rfl V.bU ?_;refine m6 rfl ?_;refine a3.nil ?_;refine rg ?_;refine U V.az ?_;refine U V.va ?_;refine U V.a7 ?_;refine bu ?_;refine e2 ⟨i+1,ks l bl 7,mO++[eg (l.drop bl) 7 -3],.slice Ys (mO.length+1) wR,afT⟩ ?_ (hm:=(List.Sublist.cons _ (bV _)).append_left _);refine⟨by omega,r4 Eu,by rw[er,HS];rfl,?_,?_⟩;(rw[er,CV];rw[hw] at L6;exact L6);(rw[po,show pl -i=(pl -(i+1))+1 by omega,wN,j0];rfl)
  ·refine aJ ?_;refine ae.exit ?_;refine rg ?_;refine aV ?_;refine U V.a9 ?_;refine U V.az ?_;refine eu 31 (fun Hu=>?_) fun Hu=>?_
   ·exfalso;cases Hu
   ·refine a0 ?_;refine a0 ?_;refine a0 ?_;refine a0 ?_;refine a0 ?_;refine a0 ?_;refine U V.bc ?_;refine ns ?_;refine ae.u4 rfl ?_;refine gn ?_;refine fo.l4 (PE _) (fun hs fu hR=>?_);refine aJ ?_;refine ae.draw rfl (by kernel_rfl) (a8:=[.val 0,.val 1,.val 2,.val 3,.val 4,.val 5,.val 6,.val 7,.cv 8]) (by kernel_rfl) ?_;refine cm ?_;refine aB rfl V.a9 ?_;refine aB rfl V.az ?_;refine aB rfl V.hb ?_;refine aB rfl V.bf ?_;refine' a3.ij rfl rfl (CD rfl rfl rfl rfl (h' rfl) rfl rfl rfl ?aa ?al ?bC ?au ?_);case au=>exact ahf
    case al=>exact z7 _ _ _ (by show 0+(at_:Int).toNat*6+6<=fn.length;omega)
    case aa=>first|rfl|assumption
    case bC=>exact dV _
    refine a3.nil ?_;refine'⟨.inl rfl,rfl,_,_,.nil,List.Sublist.cons_cons _ (List.Sublist.cons _ (bV _)),?_⟩;rw[show pl -i=0 by omega] at po;have au:nu pl (l.drop a)=(mO,l.drop bl):=by rw[po];exact fl (·,l.drop bl) (fb mO)
    rw[au];have bC:0+(at_:Int).toNat*6=at_*6:=by omega
    refine⟨fu,bl,_,_,rfl,Eu,rfl,?_,?_⟩
    ·rw[bC]
     show(_++[_,_,_,_,_,_]++_:List Value).length=_;rw[er,er,fc,jJ];show Nat.min (at_*6) fn.length+6+(fn.length -(at_*6+6))=fn.length;have:Nat.min (at_*6) fn.length=at_*6:=k4 (by omega);omega
    ·rw[bC]
     exact hi.put (R':=fun _=>mE hs) aM aw (fun _ _ _ q=>q.mono fu) ju (new:=[.int .i64 3,.int .i64 0,.int .i64 0,.slice none 0 0,.slice none 0 0,.slice jc mO.length jd]) rfl ⟨_,_,_,_,_,_,rfl,⟨3,.nil⟩,⟨3,.nil⟩,⟨3,hR⟩⟩
end
theorem hi.mono{α:Type}{aj:Nat}{R R':Nat->α->List Value->Prop}{cells:List Value}{xs:List α}(h:hi aj R cells xs)(gB:∀i x cs,R i x cs->R' i x cs):hi aj R' cells xs:=⟨h.1,fun i x I=>gB _ _ _ (h.2 i x I)⟩
theorem AD.mono{J ag:aA}(hle:J.le ag){i:Nat}{x:i'}{cs:List Value}(h:AD J i x cs):AD ag i x cs:=by
 obtain⟨b,c,aa,ab⟩:=h;exact⟨b,c,aa,ab.mono hle⟩
structure iY (J:aA) (σ:dX) (a:Nat) (l:List Int) (fs fB e8:Value) (az gC a4:aI):Prop where
 le:a<=l.length
 ik:σ.l=l.drop a
 v:∃eY,hf 123 4 fs σ.vs.length eY az/\hi 4 (AD J) eY σ.vs
 n:∃aP,hf 92 6 fB σ.ns.length aP gC/\hi 6 (fun _=>mE J) aP σ.ns
 i:∃ci,hf 87 2 e8 σ.is.length ci a4/\hi 2 JW ci σ.is
 sY:∀x∈σ.vs,x.seen.length<=1000
theorem iY.mono{J ag:aA}{σ:dX}{a:Nat}{l:List Int}{fs fB e8:Value}{az gC a4:aI}(h:iY J σ a l fs fB e8 az gC a4)(hle:J.le ag):iY ag σ a l fs fB e8 az gC a4:=by
 obtain⟨aa,ab,⟨eY,aK,bh⟩,⟨aP,ff,gz⟩,ml,y5⟩:=h;exact⟨aa,ab,⟨eY,aK,bh.mono fun _ _ _ q=>q.mono hle⟩,⟨aP,ff,gz.mono fun _ _ _ q=>q.mono hle⟩,ml,y5⟩
theorem iY.next{J:aA}{σ:dX}{a:Nat}{l:List Int}{fs fB e8:Value}{az gC a4:aI}(h:iY J σ a l fs fB e8 az gC a4)(n:Int):iY J {σ with l:=gm σ.l n} (ks l a n) l fs fB e8 az gC a4:=by
 obtain⟨aa,ab,aK,bh,ff,gz⟩:=h;exact⟨r4 aa,by show gm σ.l n=_;rw[ab,wN],aK,bh,ff,gz⟩
theorem iY.cz{J:aA}{σ:dX}{a:Nat}{l:List Int}{fs fB e8:Value}{az gC a4:aI}(h:iY J σ a l fs fB e8 az gC a4)(p:Int):iY J {σ with cz:=p} a l fs fB e8 az gC a4:=⟨h.le,h.ik,h.v,h.n,h.i,h.sY⟩
theorem iY.push{J:aA}{σ:dX}{a:Nat}{l:List Int}{fs fB B5 e8:Value}{az gC rD a4:aI}{aP:List Value}(h:iY J σ a l fs fB e8 az gC a4)(he:hi 6 (fun _=>mE J) aP σ.ns)
 (aM:hf 92 6 B5 (σ.ns.length+1) (aP++[.int .i64 0,.int .i64 0,.int .i64 0,.slice none 0 0,.slice none 0 0,.slice none 0 0]) rD)(seen:List (List Int)):iY J (kE seen σ) a l fs B5 e8 az rD a4:=
 ⟨h.le,h.ik,h.v,⟨_,by show hf _ _ _ (σ.ns++[_]).length _ _;rw[er];exact aM,he.app (x:=qU) ⟨_,_,_,_,_,_,rfl,⟨3,.nil⟩,⟨3,.nil⟩,⟨3,.nil⟩⟩ rfl⟩,h.i,h.sY⟩
theorem iY.D2{J:aA}{σ:dX}{a:Nat}{l:List Int}{fs fB e8:Value}{az gC a4:aI}(h:iY J σ a l fs fB e8 az gC a4):(∃b c,fs=.slice b σ.vs.length c/\addrEq b b=true)/\(∃b c,fB=.slice b σ.ns.length c/\addrEq b b=true)/\∃b c,e8=.slice b σ.is.length c/\addrEq b b=true:=by
 obtain⟨eY,aa,_⟩:=h.v;obtain⟨aP,ab,_⟩:=h.n;obtain⟨ci,aK,_⟩:=h.i;exact⟨aa.jO,ab.jO,aK.jO⟩
section
variable {Q:db Tryz.prog}{g0:Nat}{J:aA}{am ad:Nat}{lv fs fB e8:Value}{az gC a4:aI}{aY h8:Int}{s:Bool}{pl:Nat}{c5:Option Addr}{cl a:Nat}{l:List Int}{σ:dX}
abbrev iA(am ad:Nat)(lv:Value)(aY:Int)(s:Bool)(pl:Nat)(c5:Option Addr)(cl:Nat)(l:List Int)(h8:Int)(a:Nat)(fs fB e8:Value)(az gC a4:aI):aI:=
 (am,.row (uh ad lv fs aY h8 false s pl fB e8) 61)::jM ad c5 cl l a::(az++(gC++a4))
theorem Uu{n:Int}(ay:ew J (.slice c5 l.length cl) l)(im:l.length<=1000000)(h:iY J σ a l fs fB e8 az gC a4)(hm:n<=4611686018427387904):
 Fn (a2 Q g0) 16 [.pointer (some ⟨ad,0,none⟩),.int .i64 n] (iA am ad lv aY s pl c5 cl l h8 a fs fB e8 az gC a4) J (fun u m' ag=>J=ag/\u=.int .i64 (eg σ.l n)/\m'=iA am ad lv aY s pl c5 cl l h8 (ks l a n) fs fB e8 az gC a4):=by
 refine((zN ay im h.le hm).frame (a4:=[jM ad c5 cl l a]) (b2:=(am,_)::(az++(gC++a4))) (List.Perm.swap _ _ _)).perm ?_;rintro v m' ag ⟨_,eM,rfl,rfl,rfl,rfl⟩;exact⟨_,List.Perm.swap _ _ _,rfl,by rw[h.ik],rfl⟩
theorem U7{α:Type}{x y:α}{u v w:List α}:(y::x::v++(u++w)).Perm (x::y::(u++(v++w))):=by
 refine(List.Perm.swap _ _ _).trans (List.Perm.cons _ (List.Perm.cons _ ?_));show(v++(u++w)).Perm _;rw[<-j0,<-j0];exact List.perm_append_comm.append_right w
theorem Nz{at_:Nat}(ay:ew J (.slice c5 l.length cl) l)(im:l.length<=1000000)(h:iY J σ a l fs fB e8 az gC a4)(dq:pl<=100)(ju:at_<σ.ns.length)(df:σ.ns.length<=100000):
 Fn (a2 Q g0) 32 [.pointer (some ⟨am,0,none⟩),.int .i64 (at_:Int)] (iA am ad lv aY s pl c5 cl l h8 a fs fB e8 az gC a4) J (fun u m' ag=>J.le ag/\∃bA rD,m'=iA am ad lv aY s pl c5 cl l h8 bA fs fB e8 az rD a4/\iY ag (tB pl at_ σ) bA l fs fB e8 az rD a4):=by
 obtain⟨aP,aM,q9⟩:=h.n;obtain⟨a1,fn,rn,rfl,rfl,ra,aw⟩:=aM.row (by omega);subst ra;refine((afI (am:=am) (s:=s) (fs:=fs) (e8:=e8) (h8:=h8) (aY:=aY) (lv:=lv) (rn:=rn) ay im h.le dq q9 aw ju df).frame (b2:=az++a4) (U7 (v:=[(a1,cI.opn fn 92 rn 0)]))).perm ?_;rintro v m' ag ⟨_,eM,rfl,hle,bA,y1,Jl,rfl,HJ,po,jx,nQ⟩;refine⟨_,?_,hle,bA,[(a1,cI.opn y1 92 Jl 0)],rfl,?_⟩
 ·refine List.Perm.trans ?_ (U7 (v:=[(a1,cI.opn y1 92 Jl 0)]))
  exact jn (l₁:=[(a1,_)]) (l₂:=[_,_]) |>.append_right _
 ·have hm:=h.mono hle
  refine⟨HJ,by show(nu pl σ.l).2=_;rw[po,h.ik],hm.v,⟨y1.take (σ.ns.length*6),?_,?_⟩,hm.i,hm.sY⟩
  ·show hf _ _ _ (σ.ns.set _ _).length _ _
   rw[hW];exact hf.of (by omega)
  ·show hi _ _ _ (σ.ns.set _ _)
   rw[h.ik];exact nQ
theorem U8{α:Type}{u v w:List α}:((u++w)++v).Perm (u++(v++w)):=by
 rw[j0];exact List.perm_append_comm.append_left u
open Classical in
theorem afL{p:ek}{L:Nat}{b:Option Addr}{c:Nat}{seen:List Int}(ay:ew J (.slice c5 l.length cl) l)(im:l.length<=1000000)(h:iY J σ a l fs fB e8 az gC a4)(nW:σ.is.length=σ.vs.length)(vG:σ.vs.length<=100000)(al:ew J (.slice b seen.length c) seen)(t':seen.length<=1000):
 Fn (a2 Q g0) 33 [.pointer (some ⟨am,0,none⟩),.int .i64 p.bQ,.int .i64 (L:Int),.slice b seen.length c] (iA am ad lv aY s pl c5 cl l h8 a fs fB e8 az gC a4) J (fun u m' ag=>J=ag/\u=.int .i64 ((eE p L seen σ).2:Int)/\∃bA n9 nZ ui ug,m'=iA am ad lv aY s pl c5 cl l h8 bA n9 fB nZ ui gC ug/\iY J (eE p L seen σ).1 bA l n9 fB nZ ui gC ug):=by
 obtain⟨eY,ap,p6⟩:=h.v;obtain⟨ci,ak,tR⟩:=h.i;refine((abc (am:=am) (ad:=ad) (fB:=fB) (h8:=h8) (aY:=aY) (z:=false) (s:=s) (pl:=pl) (lv:=lv) (bQ:=p.bQ) (L:=L) ay im h.le ap p6 ak tR nW vG al (fun x I=>by have:=h.sY x I;omega)).frame (b2:=gC) ?_).perm ?_
 ·exact List.Perm.cons _ (List.Perm.cons _ U8)
 ·rintro v m' ag ⟨_,eM,rfl,rfl,n9,nZ,ui,ug,KY,KS,bA,ko,Ff,k,rfl,au,HJ,BG,SH,hQ,Mc,ax⟩
  refine⟨_,(au.append_right gC).trans (List.Perm.cons _ (List.Perm.cons _ U8)),rfl,?_⟩;rcases ax with⟨aw,rfl,rfl,rfl⟩|⟨aw,rfl,rfl,rfl,rfl⟩
  ·have e:eE p L seen σ=(σ,k):=by unfold eE;rw[aw]
   rw[e];exact⟨rfl,_,_,_,_,_,rfl,HJ,h.ik,⟨_,BG,SH⟩,h.n,⟨_,hQ,Mc⟩,h.sY⟩
  ·have e:eE p L seen σ=({σ with l:=gm σ.l 3,vs:=σ.vs++[⟨p.bQ,L,seen⟩],is:=σ.is++[(p.bQ,1+eg σ.l 3)]},σ.vs.length):=by unfold eE;rw[aw]
   rw[e];refine⟨rfl,_,_,_,_,_,rfl,HJ,by show gm σ.l 3=_;rw[h.ik,wN],⟨_,BG,SH⟩,h.n,⟨_,by rw[<-h.ik] at hQ;exact hQ,by rw[<-h.ik] at Mc;exact Mc⟩,fun x I=>?_⟩;rcases lL.1 I with q|q
   ·exact h.sY x q
   ·simp at q;subst q;exact t'
end
end
end Go.Opn
namespace Go.Opn
noncomputable section
def fM (seen:List (List Int))(σ:dX):dX:={kE seen σ with l:=gm σ.l 8}
open Classical in
def hc (p:ek)(L:Nat)(seen:List (List Int))(σ:dX):dX:=if p.bQ<0 then fM seen σ else(eE p L (e9 p seen) (fM seen σ)).1
open Classical in
def nY (p:ek)(L:Nat)(seen:List (List Int))(σ:dX):Nat:=if p.bQ<0 then 0 else(eE p L (e9 p seen) (fM seen σ)).2
open Classical in
def iz (p:ek)(L:Nat)(seen:List (List Int))(σ:dX):Int:=if p.bQ<0 then p.many else qQ (eE p L (e9 p seen) (fM seen σ)).2 (eE p L (e9 p seen) (fM seen σ)).1
def rF (p:ek)(L:Nat)(seen:List (List Int))(σ:dX)(af ws:List Int):cH:=if p.bQ<0 then⟨1,0,0,af,ws,[]⟩ else⟨2,p.bQ,(nY p L seen σ:Int),af,ws,[]⟩
open Classical in
theorem uW{most:Int}{pl:Nat}{p:ek}{lv:List ek}{L:Nat}{seen:List (List Int)}{σ:dX}:lq most pl (p::lv) L seen σ=
 if eg σ.l 8=1 then tB pl σ.ns.length (fM seen σ) else
 if most<(σ.ns.length:Int)+1+(hc p L seen σ).cz+iz p L seen σ then tB pl σ.ns.length (iK (nY p L seen σ) p.bQ (hc p L seen σ)) else
 let r:=kids (lq most pl lv (L+1)) p seen (iz p L seen σ).toNat 0 {hc p L seen σ with cz:=(hc p L seen σ).cz+iz p L seen σ} [] []
 {r.1 with ns:=r.1.ns.set σ.ns.length (rF p L seen σ r.2.1 r.2.2)}:=by
 show(if eg σ.l 8=1 then _ else if p.bQ<0 then _ else _)=_;by_cases aa:eg σ.l 8=1
 ·rw[aF aa,aF aa];rfl
 ·rw[aq aa,aq aa];by_cases ab:p.bQ<0
  ·rw[aF ab];have aD:hc p L seen σ=fM seen σ:=by unfold hc;rw[aF ab]
   have a5:iz p L seen σ=p.many:=by unfold iz;rw[aF ab]
   have cC:∀a b,rF p L seen σ a b=⟨1,0,0,a,b,[]⟩:=fun a b=>by unfold rF;rw[aF ab]
   have e0:iK (nY p L seen σ) p.bQ (fM seen σ)=fM seen σ:=by unfold iK;rw[aF (.inl ab)]
   rw[aD,a5,e0];simp only[cC];rfl
  ·rw[aq ab];have aD:hc p L seen σ=(eE p L (e9 p seen) (fM seen σ)).1:=by unfold hc;rw[aq ab]
   have a5:iz p L seen σ=qQ (eE p L (e9 p seen) (fM seen σ)).2 (eE p L (e9 p seen) (fM seen σ)).1:=by unfold iz;rw[aq ab]
   have ch:nY p L seen σ=(eE p L (e9 p seen) (fM seen σ)).2:=by unfold nY;rw[aq ab]
   have cC:∀a b,rF p L seen σ a b=⟨2,p.bQ,((eE p L (e9 p seen) (fM seen σ)).2:Int),a,b,[]⟩:=fun a b=>by unfold rF;rw[aq ab,ch]
   rw[aD,a5,ch];simp only[cC];rfl
open Classical in
theorem ajj{most:Int}{L:Nat}{σ:dX}{p:ek}{seen:List (List Int)}(e1:jq most L σ)(xm:2<=p.many)(EH:p.many<=3):
 (hc p L seen σ).ns=σ.ns++[qU]/\(hc p L seen σ).cz=σ.cz -1/\1<=iz p L seen σ/\iz p L seen σ<=3/\jq most (L+1) (hc p L seen σ)/\(¬most<(σ.ns.length:Int)+1+(hc p L seen σ).cz+iz p L seen σ->jq most (L+1) {hc p L seen σ with cz:=(hc p L seen σ).cz+iz p L seen σ})/\
 (0<=p.bQ->∃y,(hc p L seen σ).is[nY p L seen σ]?=some y/\y.2=iz p L seen σ):=by
 by_cases ab:p.bQ<0
 ·have aD:hc p L seen σ=fM seen σ:=by unfold hc;rw[aF ab]
  have a5:iz p L seen σ=p.many:=by unfold iz;rw[aF ab]
  rw[aD,a5];have al:=e1.sum;refine⟨rfl,rfl,by omega,by omega,z8 e1 rfl rfl (.inl ⟨rfl,rfl⟩) (by show _+(σ.cz -1)<=_;omega),fun q=>z8 e1 rfl rfl (.inl ⟨rfl,rfl⟩) (by show _+(σ.cz -1+p.many)<=_;have q:¬most<(σ.ns.length:Int)+1+(σ.cz -1)+p.many:=q;omega),fun q=>by omega⟩
 ·have aD:hc p L seen σ=(eE p L (e9 p seen) (fM seen σ)).1:=by unfold hc;rw[aq ab]
  have a5:iz p L seen σ=qQ (eE p L (e9 p seen) (fM seen σ)).2 (eE p L (e9 p seen) (fM seen σ)).1:=by unfold iz;rw[aq ab]
  have ch:nY p L seen σ=(eE p L (e9 p seen) (fM seen σ)).2:=by unfold nY;rw[aq ab]
  rw[aD,a5,ch];have al:=e1.sum
  obtain⟨v1,v2,jX,v4,oV,v6⟩:(eE p L (e9 p seen) (fM seen σ)).1.ns=σ.ns++[qU]/\(eE p L (e9 p seen) (fM seen σ)).1.a1=σ.a1++[seen]/\(eE p L (e9 p seen) (fM seen σ)).1.cz=σ.cz -1/\
   (((eE p L (e9 p seen) (fM seen σ)).1.vs=σ.vs/\(eE p L (e9 p seen) (fM seen σ)).1.is=σ.is)\/∃v y,(eE p L (e9 p seen) (fM seen σ)).1.vs=σ.vs++[v]/\(eE p L (e9 p seen) (fM seen σ)).1.is=σ.is++[y]/\v.level=L/\y.1=v.bQ/\1<=y.2/\y.2<=3)/\
   (∃v,(eE p L (e9 p seen) (fM seen σ)).1.vs[(eE p L (e9 p seen) (fM seen σ)).2]?=some v)/\
   ∃y,(eE p L (e9 p seen) (fM seen σ)).1.is[(eE p L (e9 p seen) (fM seen σ)).2]?=some y/\y.2=qQ (eE p L (e9 p seen) (fM seen σ)).2 (eE p L (e9 p seen) (fM seen σ)).1:=by
   unfold eE;cases aw:ka ⟨p.bQ,L,e9 p seen⟩ (fM seen σ).vs 0 with
   |some k=>
    simp only
    obtain⟨_,aR⟩:=DT aw;rw[yt] at aR;have aH:k<σ.is.length:=by rw[e1.is];exact hH aR
    have ah:=du aH;refine⟨rfl,rfl,rfl,.inl ⟨rfl,rfl⟩,⟨_,aR⟩,⟨_,ah,?_⟩⟩;unfold qQ;rw[show(fM seen σ).is[k]?=_ from ah]
   |none=>
    simp only
    have ax:=oJ (l:=(fM seen σ).l) (n:=3) (by omega);refine⟨rfl,rfl,rfl,.inr ⟨_,_,rfl,rfl,rfl,rfl,by show 1<=1+eg (fM seen σ).l 3;omega,by show 1+eg (fM seen σ).l 3<=3;omega⟩,⟨_,pd⟩,?_⟩;have ay:((fM seen σ).is++[(p.bQ,1+eg (fM seen σ).l 3)])[(fM seen σ).vs.length]?=some (p.bQ,1+eg (fM seen σ).l 3):=by
     rw[show(fM seen σ).vs.length=(fM seen σ).is.length from e1.is.symm,pd]
    refine⟨_,ay,?_⟩;unfold qQ;rw[ay]
  have c0:jq most (L+1) (eE p L (e9 p seen) (fM seen σ)).1:=z8 e1 v1 v2 v4 (by rw[jX];omega);obtain⟨v,ap⟩:=oV;obtain⟨y,ah,Im⟩:=v6;have g':=c0.ok _ v y ap ah;refine⟨v1,jX,by rw[<-Im];exact g'.2.1,by rw[<-Im];exact g'.2.2,c0,fun q=>?_,fun _=>⟨y,ah,Im⟩⟩;refine z8 e1 v1 v2 v4 ?_;show(σ.ns.length:Int)+1+((eE p L (e9 p seen) (fM seen σ)).1.cz+qQ _ _)<=most;omega
def pv (p:ek)(σ:dX):dX:=if p.bQ<0 then{σ with l:=gm σ.l 3} else σ
def pw (p:ek)(σ:dX)(ws:List Int):List Int:=if p.bQ<0 then ws++[1+eg σ.l 3] else ws
theorem afk{rec:List (List Int)->dX->dX}{p:ek}{seen:List (List Int)}{k i:Nat}{σ:dX}{af ws:List Int}:kids rec p seen (k+1) i σ af ws=kids rec p seen k (i+1) (rec (kj p i seen) (pv p σ)) (af++[(σ.ns.length:Int)]) (pw p σ ws):=by
 show(if p.bQ<0 then _ else _)=_;unfold pv pw;by_cases h:p.bQ<0
 ·rw[aF h,aF h,aF h]
 ·rw[aq h,aq h,aq h]
theorem afi{most:Int}{L:Nat}{σ:dX}{p:ek}(h:jq most L σ):jq most L (pv p σ)/\(pv p σ).cz=σ.cz/\(pv p σ).ns=σ.ns:=by
 unfold pv;split
 ·exact⟨h.l _,rfl,rfl⟩
 ·exact⟨h,rfl,rfl⟩
theorem agh{p:ek}{i q:Nat}{seen:List (List Int)}{s:List Int}(h:seen[q]?=some s):(kj p i seen).take (q+1)=(kj p i seen).take q++[s++[qq p i q]]:=by
 have:(kj p i seen)[q]?=some (s++[qq p i q]):=by unfold kj;rw[XI,h];rfl
 rw[pM,this];rfl
end
end Go.Opn
