/- A part of the proof of SampleParts. -/
import Derived.Test.YtdbhjgpppmkagaaGreatCaz
import Derived.Test.YtdbhjgpppmkagaaGreatCbh
import Derived.Test.YtdbhjgpppmkagaaGreatCbi
import Derived.Test.YtdbhjgpppmkagaaGreatCbe
import Derived.Test.YtdbhjgpppmkagaaGreatCbb
import Derived.Test.YtdbhjgpppmkagaaGreatCbg
set_option maxRecDepth 100000
set_option maxHeartbeats 8000000
set_option linter.unusedVariables false
set_option linter.unusedSimpArgs false
namespace Go.Opn
noncomputable section
open Go.Cre Go.RowKit Go.Proofs
theorem wrap_u64{n:Int}(aa:0<=n)(ab:n<=1000000000000):IntKind.u64.wrap n=n:=by
 unfold IntKind.wrap IntKind.signed IntKind.bits;simp only[Bool.false_and,yl,xA];omega
theorem acJ{i j:Nat}(h:i+j<=4000000):IntKind.i64.wrap (((i:Int)+(j:Int)).fdiv (2 ^ ((1:Int).toNat)))=(((i+j) / 2:Nat):Int):=by
 have e:((i:Int)+(j:Int)).fdiv (2 ^ ((1:Int).toNat))=(((i+j) / 2:Nat):Int):=by
  show((i:Int)+(j:Int)).fdiv 2=_;rw[Xz _ (by decide)];omega
 rw[e,wrap_i64 (by omega) (by omega)]
theorem aft{P:Nat->Bool}{N i:Nat}(aa:i<=N)(ab:∀k,k<i->P k=false)(aK:∀k,i<=k->k<N->P k=true):sH P N 0=i:=
 T' (dV _) (by omega) (fun j _ h=>ab j h) (fun h=>aK i (dH _) (by omega))
theorem afX{P:Nat->Bool}{N h:Nat}(H3:∀j k,j<=k->k<N->P j=true->P k=true)(jR:h<N)(aw:P h=false):∀k,k<h+1->P k=false:=fun k aH=>by
 cases cn:P k with
 |false=>rfl
 |true=>have:=H3 k h (by omega) jR cn;rw[aw] at this;cases this
section
variable {Q:db Tryz.prog}{g0:Nat}{J:aA}
theorem aiK{f:FuncId}{cap:Array Value}{N:Nat}{P:Nat->Bool}{a4:aI}(jR:N<=1000000)(aw:∀k:Nat,k<N->Fn (a2 Q g0) f (.int .i64 (k:Int)::cap.toList) a4 J (fun v m' ag=>v=.bool (P k)/\m'=a4/\J=ag))(H3:∀j k,j<=k->k<N->P j=true->P k=true):
 Fn (a2 Q g0) 61 [.int .i64 (N:Int),.func (.func f) #[] cap] a4 J (fun v m' ag=>v=.int .i64 ((sH P N 0:Nat):Int)/\m'=a4/\J=ag):=by
 refine Fn.dw (dB Tryz.func61) rfl rfl fun H=>?_;refine rg ?_;refine U V.a7 ?_;refine bP ?_;refine aV ?_;refine ns ?_;refine ae.block ?_;refine' ae.fy (l':=[(5,.int .i64 ((0):Int)),(6,.int .i64 ((N):Int)),(1,_)]) ⟨?wj,?O3,rfl,trivial⟩ (bV _) ?_;case wj=>exact ec
 case O3=>exact ec
 refine aJ ?_;refine' ae.cf (fun(cU:Nat×Nat)=>match cU with|(i,j)=>⟨[(5,.int .i64 (i:Int)),(6,.int .i64 (j:Int))],a4,J,i<=j/\j<=N/\(∀k,k<i->P k=false)/\(∀k,j<=k->k<N->P k=true),j -i⟩) ⟨0,N⟩ ?al ?cp
 case al=>exact⟨dV _,dH _,fun k h=>absurd h (Kd k),fun k aa ab=>by omega⟩
 case cp=>
  rintro⟨i,j⟩ hinv;try simp only at hinv
  obtain⟨Bh,adx,aa,ab⟩:=hinv;refine rg ?_;refine aV ?_;refine U V.bm ?_;refine ns ?_;refine If (fun YH=>?_) fun YH=>?_
  ·refine aJ ?_;refine ae.skip ?_;refine aJ ?_;refine ae.block ?_;refine rg ?_;refine aV ?_;refine U V.va ?_;refine' W.step rfl (Exec.val rfl rfl (OV rfl rfl (OM rfl rfl) ?hw) ?_);case hw=>exact wrap_u64 (by omega) (by omega)
   refine' W.step rfl (Exec.val rfl rfl (OU rfl rfl rfl rfl ?bt ?aa) ?_);case bt=>exact cQ
   case aa=>decide
   refine' W.step rfl (Exec.val rfl rfl (OV rfl rfl (OM rfl rfl) ?hw) ?_);case hw=>exact acJ (by omega)
   refine U V.a7 ?_;refine bP ?_;refine aV ?_;refine' W.step rfl (Exec.call rfl rfl rfl rfl rfl rfl rfl (a4:=a4) (b2:=[]) (by simp) trivial (aw ((i+j) / 2) (by omega)) ?_);rintro v m' ag hle ⟨rfl,rfl,rfl⟩;rw[fb];refine U V.oL ?_;refine ns ?_;refine If (fun KH=>?_) fun KH=>?_
   ·refine rg ?_;refine U V.az ?_;refine U V.va ?_;refine U V.a7 ?_;refine bu ?_;refine e2 ⟨(i+j) / 2+1,j⟩ ?_;exact⟨by omega,adx,afX H3 (by omega) (by simpa using KH),ab⟩
   ·refine rg ?_;refine aV ?_;refine bu ?_;refine e2 ⟨i,(i+j) / 2⟩ ?_;exact⟨by omega,by omega,aa,fun k aH oz=>H3 ((i+j) / 2) k aH oz (by simpa using KH)⟩
  ·refine aJ ?_;refine ae.exit ?_;refine rg ?_;refine aV ?_;refine ns ?_;refine ae.ret ?_;refine'⟨.inr rfl,rfl,_,_,.tmp rfl .nil,bV _,⟨by rw[aft (by omega) aa (fun k aZ aR=>ab k (by omega) aR)];rfl,rfl,rfl⟩⟩
end
theorem take_set{α:Type}{vs Z:List α}{i:Nat}{v:α}(ay:Z.length=vs.length)(ap:vs[i]?=some v):(vs.take i++Z.drop i).set i v=vs.take (i+1)++Z.drop (i+1):=by
 have ak:=(dv.1 ap).1;have e:Z.drop i=Z[i]::Z.drop (i+1):=od (by omega);rw[e,pM,ap,Gv _ _ (by rw[fc];omega),fc,show i -min i vs.length=0 by omega];rw[List.set_cons_zero,Option.toList_some,j0];rfl
section
variable {Q:db Tryz.prog}{g0:Nat}{J:aA}
theorem Qf{pR KN:Nat}{b:Option Addr}{c:Nat}{w O:List Int}{aY:aI}(cn:addrEq b b=true)(hw:iH aY J b w)(aM:w.length<=1000000)(za:O.length=w.length)(ai:∀k,k<=w.length->-1000000000000<=(w.take k).sum/\(w.take k).sum<=1000000000000):
 Fn (a2 Q g0) 54 [.slice (some ⟨pR,0,none⟩) w.length KN,.slice b w.length c] ((pR,.row (O.map (Value.int .i64)) 3)::aY) J (fun v m' ag=>m'=(pR,.row ((hF w).map (Value.int .i64)) 3)::aY/\J=ag):=by
 have jw:=tv (w:=w);refine Fn.dw (dB Tryz.func54) rfl rfl fun H=>?_;refine rg ?_;refine U V.a7 ?_;refine bP ?_;refine aV ?_;refine ns ?_;refine ae.block ?_;refine' ae.fy (l':=[(4,.int .i64 ((w.take (0)).sum)),(9,.int .i64 ((0):Int)),(0,_),(7,_),(8,_)]) ⟨?rQ,?F9,rfl,rfl,rfl,trivial⟩ (bV _) ?_;case rQ=>exact ec
 case F9=>exact ec
 refine aJ ?_;refine' ae.cf (fun(i:Nat)=>⟨[(4,.int .i64 ((w.take i).sum)),(9,.int .i64 (i:Int))],(pR,.row (((hF w).take i++O.drop i).map (Value.int .i64)) 3)::aY,J,i<=w.length,w.length -i⟩) (0) ?al ?cp;case al=>exact dV _
 case cp=>
  rintro i hinv;try simp only at hinv
  have ak:=hinv;refine rg ?_;refine U V.bm ?_;refine ns ?_;refine If (fun e5=>?_) fun e5=>?_
  ·obtain⟨a,off,cells,rfl,mq,fg⟩:=hw (by omega);obtain⟨x,I,gk⟩:=fg i (by omega) (by omega);rw[ea] at I;have c0:=OH I;have kT:=ai (i+1) (by omega);have p6:(hF w)[i]?=some ((w.take i).sum+x):=by rw[KX (by omega),c0]
   refine gn ?_;refine aJ ?_;refine ae.block ?_;refine rg ?_;refine U V.az ?_;refine U V.bf ?_;refine' W.step rfl (Exec.val rfl rfl (ix rfl rfl ?ax (iR (hh rfl) ?ap)) ?_);case ax=>exact mq.cons
   case ap=>first|rfl|assumption
   refine aV ?_;refine bP ?_;refine aV ?_;refine U V.va ?_;refine U V.a7 ?_;refine bP ?_;refine aV ?_;refine U V.bf ?_;refine' W.step rfl (.of (jY rfl rfl rfl rfl (h' rfl) rfl rfl rfl ?aa ?al ?au ?_));case au=>repeat first|exact .head _ _ _ _|apply dc.tail|apply dc.app
   case al=>exact pC i (by rw[er,fc,jJ];omega)
   case aa=>first|rfl|assumption
   refine bu ?_;rw[take_set (by omega) p6,<-c0];refine rg ?_;refine U V.va ?_;refine U V.az ?_;refine bu ?_;refine e2 (i+1) ?_;exact(by omega)
  ·obtain rfl:i=w.length:=by omega
   have vv:(hF w).take w.length++O.drop w.length=hF w:=by rw[fZ (by omega),wv (by omega),fb]
   refine aJ ?_;refine ae.exit ?_;refine'⟨.inl rfl,rfl,_,_,.nil,bV _,⟨by rw[vv],rfl⟩⟩
theorem Zf{c2 cX:Nat}{b:Option Addr}{c k:Nat}{n:Int}{w:List Int}{aY:aI}(hw:iH aY J b (hF w))(aH:k<w.length):
 Fn (a2 Q g0) 62 [.int .i64 (k:Int),.pointer (some ⟨c2,0,none⟩),.pointer (some ⟨cX,0,none⟩)] ((c2,.row [.slice b w.length c] 22)::(cX,.row [.int .i64 n] 3)::aY) J (fun v m' ag=>v=.bool (decide (n<(w.take (k+1)).sum))/\m'=(c2,.row [.slice b w.length c] 22)::(cX,.row [.int .i64 n] 3)::aY/\J=ag):=by
 have jw:=tv (w:=w);obtain⟨a,off,cells,rfl,mq,fg⟩:=hw (by omega);obtain⟨x,I,gk⟩:=fg k (by omega) (by omega);rw[ea,KX aH] at I;injection I with I
 subst I;refine Fn.dw (dB Tryz.func62) rfl rfl fun H=>?_;refine rg ?_;refine U V.a7 ?_;refine ns ?_;refine ae.draw rfl (by kernel_rfl) (a8:=[.val 0,.val 1,.val 2,.val 3,.val 4,.val 5,.val 6]) (by kernel_rfl) ?_;refine aB rfl V.a9 ?_;refine aB rfl V.az ?_;refine aB rfl V.bf ?_;refine' a3.val rfl rfl rfl rfl (ix rfl rfl ?ax (iR (hh rfl) ?ap)) ?_;case ax=>exact mq.cons.cons
 case ap=>first|rfl|assumption
 refine aB rfl V.a9 ?_;refine aB rfl V.bm ?_;refine aB rfl V.a7 ?_;refine a3.nil ?_;refine aJ ?_;refine ae.ret ?_;refine'⟨.inr rfl,rfl,_,_,.tmp rfl .nil,bV _,⟨rfl,rfl,rfl⟩⟩
end
end
end Go.Opn
set_option maxHeartbeats 4000000
namespace Go.Opn
noncomputable section
open Go.Cre Go.RowKit Go.Proofs
theorem iI.N6{J:aA}{a:Nat}{cells:List Value}(h:iI [] J a cells):∃e,J a=some (cells,e):=by
 cases h with
 |own h=>cases h
 |fj h=>exact⟨_,h⟩
 |opn h=>cases h
theorem Rw{x n:Int}(aM:1<=n):x % n=if x.tmod n<0 then x.tmod n+n else x.tmod n:=by
 have h:=Int.tmod_eq_emod (a:=x) (b:=n);have aa:=Int.emod_nonneg x (show n≠0 by omega);have ab:=Int.emod_lt_of_pos x (show 0<n by omega);by_cases q:0<=x\/n ∣ x
 ·rw[aF q] at h
  rw[aq (by omega)];omega
 ·rw[aq q] at h
  rw[aF (by omega)];omega
def ks(l:List Int)(a:Nat)(n:Int):Nat:=if a<l.length/\1<=n then a+1 else a
theorem wN{l:List Int}{a:Nat}{n:Int}:l.drop (ks l a n)=gm (l.drop a) n:=by
 unfold ks;by_cases h:a<l.length
 ·rw[od h]
  show _=if n<1 then _ else _;by_cases q:1<=n
  ·rw[aF ⟨h,q⟩,aq (by omega)]
  ·rw[aq (fun k=>q k.2),aF (by omega),<-od h]
 ·rw[aq (fun k=>h k.1),Ar (by omega)];rfl
theorem r4{l:List Int}{a:Nat}{n:Int}(h:a<=l.length):ks l a n<=l.length:=by
 unfold ks;split
 ·rename_i q;omega
 ·exact h
section
variable {Q:db Tryz.prog}{g0:Nat}{J:aA}
theorem B0{x n:Int}(aM:1<=n)(hm:n<=4611686018427387904):Fn (a2 Q g0) 6 [.int .i64 x,.int .i64 n] [] J (fun u m' ag=>u=.int .i64 (x % n)/\m'=[]/\J=ag):=by
 have cP:=JY x (show 0<n by omega);have tV:=Int.lt_tmod_of_pos x (show 0<n by omega);refine Fn.dw (dB Tryz.func6) rfl rfl fun H=>?_;refine rg ?_;refine U V.a7 ?_;refine bP ?_;refine aV ?_;refine U V.tz ?_;refine U V.a7 ?_;refine bP ?_;refine U V.az ?_;refine U V.bm ?_;refine ns ?_;refine If (fun jr=>?_) fun jr=>?_
 ·refine rg ?_;refine aV ?_;refine U V.va ?_;refine U V.a7 ?_;refine bP ?_;refine aV ?_;refine ns ?_;refine ae.ret ?_;refine hk ?_;refine⟨?_,rfl,rfl⟩;rw[Rw aM];first
   |(have c:=jr;rw[aF jr];rfl)
   |(rw[aq jr];rfl)
 ·refine aJ ?_;refine ae.skip ?_;refine rg ?_;refine aV ?_;refine ns ?_;refine ae.ret ?_;refine hk ?_;refine⟨?_,rfl,rfl⟩;rw[Rw aM];first
   |(have c:=jr;rw[aF jr];rfl)
   |(rw[aq jr];rfl)
abbrev jM(ad:Nat)(c5:Option Addr)(cl:Nat)(l:List Int)(a:Nat):Nat×cI:=(ad,.row [.slice c5 l.length cl,.int .i64 (a:Int)] 57)
theorem zN{ad:Nat}{c5:Option Addr}{cl:Nat}{l:List Int}{a:Nat}{n:Int}(ay:ew J (.slice c5 l.length cl) l)(im:l.length<=1000000)(aW:a<=l.length)(hm:n<=4611686018427387904):
 Fn (a2 Q g0) 16 [.pointer (some ⟨ad,0,none⟩),.int .i64 n] [jM ad c5 cl l a] J (fun u m' ag=>u=.int .i64 (eg (l.drop a) n)/\m'=[jM ad c5 cl l (ks l a n)]/\J=ag):=by
 have aif:addrEq c5 c5=true:=by obtain⟨e,h⟩:=ay;exact h.addr
 have zx:=ay.l6 [];refine Fn.dw (dB Tryz.func16) rfl rfl fun H=>?_;refine rg ?_;refine U V.a7 ?_;refine bu ?_;refine kq [0,1] ?_;refine aJ ?_;refine' ae.mi 0 [(18,.bool (decide ((l.length<=a\/n<1))))] ?qY ?sa;case qY=>
  refine ae.yP [] rfl (by kernel_rfl) (a8:=[.val 0,.val 1,.val 2,.val 3,.val 4,.val 5,.val 6,.val 7,.val 8,.val 9,.val 10,.val 11,.val 12,.val 13]) (by kernel_rfl) ?_;refine dJ rfl V.az ?_;refine dJ rfl V.l2 ?_;refine dJ rfl V.bU ?_;refine dJ rfl V.a9 ?_;refine dJ rfl V.az ?_;refine dJ rfl V.l2 ?_;refine dJ rfl V.bU ?_;refine dJ rfl V.a9 ?_;refine dJ rfl V.cr ?_;refine dJ rfl V.bm ?_;refine dJ rfl V.az ?_;refine te 15 (fun LF=>?_) fun LF=>?_
  ·refine cW rfl ?_;refine cW rfl ?_;refine dJ rfl V.bc ?_;refine eb.nil ?_;exact ce
  ·refine eG rfl V.az ?_;refine eG rfl V.bm ?_;refine dJ rfl V.bc ?_;refine eb.nil ?_;exact ce
 case sa=>
  refine aJ ?_;refine If (fun uX=>?_) fun uX=>?_
  ·refine rg ?_;refine U V.a7 ?_;refine ns ?_;refine ae.ret ?_;refine'⟨.inr rfl,rfl,_,_,.tmp rfl .nil,bV _,?_⟩;first
    |(have c:=HT
      refine⟨?_,?_,rfl⟩
      ·rw[HT];show _=Value.int .i64 (if n<1 then 0 else x % n);rw[aq (by omega)];rfl
      ·show[_]=[_];unfold ks;rw[aF ⟨by omega,by omega⟩];rfl)
    |(refine⟨?_,?_,rfl⟩
      ·rcases uX with q|q
       ·rw[Ar q];rfl
       ·cases cn:l.drop a with
        |nil=>rfl
        |cons y r=>show _=Value.int .i64 (if n<1 then 0 else y % n);rw[aF q];rfl
      ·unfold ks;rw[aq (by omega)])
  ·obtain⟨cq,ol,Zu,rfl,aeb,adp⟩:=zx (by omega);obtain⟨el,amX⟩:=aeb.N6;obtain⟨x,I,gk⟩:=adp a (by omega) (by omega);rw[ea] at I;have HT:l.drop a=x::l.drop (a+1):=by
    have cP:=(dv.1 I).1;rw[od cP];rw[du cP] at I;injection I with I;rw[I]
   have gk:nth Zu (ol+a*1)=some (.int .i64 x):=gk;refine n0 ?_;refine aV ?_;refine U V.a9 ?_;refine U V.va ?_;refine aV ?_;refine fF ?_;refine ns ?_;refine ae.draw rfl (by kernel_rfl) (a8:=[.val 0,.val 1,.val 2,.val 3,.val 4,.val 5,.val 6,.val 7,.val 8,.val 9,.val 10,.val 11,.cv 12,.val 13]) (by kernel_rfl) ?_;refine cm ?_;refine aB rfl V.a9 ?_;refine cm ?_;refine aB rfl V.a9 ?_;refine aB rfl V.va ?_;rw[show((a:Int)+1 -1)=(a:Int) by omega];refine aB rfl V.bf ?_;refine aB rfl V.a9 ?_;refine aB rfl V.az ?_;refine dl rfl (G:=B0 (by omega) hm) (h:=?_);rintro v m' ag hle ⟨rfl,rfl,rfl⟩;refine aB rfl V.a7 ?_;refine a3.nil ?_;refine aJ ?_;refine ae.ret ?_;refine'⟨.inr rfl,rfl,_,_,.tmp rfl .nil,bV _,?_⟩;first
    |(have c:=HT
      refine⟨?_,?_,rfl⟩
      ·rw[HT];show _=Value.int .i64 (if n<1 then 0 else x % n);rw[aq (by omega)];rfl
      ·show[_]=[_];unfold ks;rw[aF ⟨by omega,by omega⟩];rfl)
    |(refine⟨?_,?_,rfl⟩
      ·rcases uX with q|q
       ·rw[Ar q];rfl
       ·cases cn:l.drop a with
        |nil=>rfl
        |cons y r=>show _=Value.int .i64 (if n<1 then 0 else y % n);rw[aF q];rfl
      ·unfold ks;rw[aq (by omega)])
end
section
variable {Q:db Tryz.prog}{g0:Nat}{J:aA}
theorem T4{bE bS:Option Addr}{bx bT:Nat}{dZ eJ:List Int}(aa:ew J (.slice bE dZ.length bx) dZ)(ab:ew J (.slice bS eJ.length bT) eJ)(ay:dZ.length<=1000000):
 Fn (a2 Q g0) 44 [.slice bE dZ.length bx,.slice bS eJ.length bT] [] J (fun u m' ag=>u=.bool (decide (dZ=eJ))/\m'=[]/\J=ag):=by
 have cO:=aa.l6 [];have dI:=ab.l6 [];refine Fn.dw (dB Tryz.func44) rfl rfl fun H=>?_;refine rg ?_;refine U V.a7 ?_;refine bP ?_;refine aV ?_;refine U V.bm ?_;refine ns ?_;refine If (fun e5=>?_) fun e5=>?_
 ·refine rg ?_;refine U V.a7 ?_;refine ns ?_;refine ae.ret ?_;refine hk ?_;refine⟨fl Value.bool ?_,rfl,rfl⟩;first
   |(have c:=cA;symm;rw[mN]
     apply mb
     intro j;by_cases q:j<i
     ·exact cA j q
     ·rw[hg (by omega),hg (by omega)])
   |(symm;rw[nG];intro q;rw[q] at e5;exact e5 rfl)
 ·refine aJ ?_;refine ae.skip ?_;refine rg ?_;refine U V.a7 ?_;refine ns ?_;refine ae.block ?_;refine' ae.fy (l':=[(5,.int .i64 ((0):Int)),(0,_),(1,_)]) ⟨?wj,rfl,rfl,trivial⟩ (bV _) ?_;case wj=>exact ec
  refine aJ ?_;refine' ae.Fi (α:=(Nat)) (fun(i:Nat)=>[(5,.int .i64 (i:Int))]) (fun(i:Nat)=>i<=dZ.length/\∀j,j<i->dZ[j]?=eJ[j]?) (fun(i:Nat)=>dZ.length -i) (0) ?al ?cp;case al=>exact⟨dV _,fun j aU=>by omega⟩
  case cp=>
   rintro i hinv;try simp only at hinv
   obtain⟨ak,cA⟩:=hinv;refine rg ?_;refine aV ?_;refine U V.bm ?_;refine ns ?_;refine If (fun ng=>?_) fun ng=>?_
   ·obtain⟨bl,vU,Q9,rfl,ad',xi⟩:=cO (by omega);obtain⟨bF,vV,Q',rfl,aea,xj⟩:=dI (by omega);obtain⟨aD,Hy⟩:=ad'.N6;obtain⟨a5,Si⟩:=aea.N6;obtain⟨x,I,gk⟩:=xi i (by omega) (by omega);obtain⟨y,ah,sA⟩:=xj i (by omega) (by omega);rw[ea] at I ah;refine gn ?_;refine aJ ?_;refine ae.block ?_;refine aJ ?_;refine ae.draw rfl (by kernel_rfl) (a8:=[.val 0,.val 1,.val 2,.val 3,.val 4,.val 5,.val 6,.val 7,.val 8]) (by kernel_rfl) ?_;refine cm ?_;refine aB rfl V.bf ?_;refine aB rfl V.a9 ?_;refine cm ?_;refine aB rfl V.bf ?_;refine aB rfl V.a9 ?_;refine aB rfl V.bm ?_;refine a3.nil ?_;refine aJ ?_;refine If (fun wR=>?_) fun wR=>?_
    ·refine rg ?_;refine U V.a7 ?_;refine ns ?_;refine ae.ret ?_;refine hk ?_;refine⟨fl Value.bool ?_,rfl,rfl⟩;first
       |(have c:=wR;symm;rw[nG];intro q;subst q;rw[I] at ah;injection ah with ah;exact wR ah)
       |(have c:=cA;symm;rw[mN]
         apply mb
         intro j;by_cases q:j<i
         ·exact cA j q
         ·rw[hg (by omega),hg (by omega)])
       |(symm;rw[nG];intro q;rw[q] at e5;exact e5 rfl)
    ·refine aJ ?_;refine ae.skip ?_;refine rg ?_;refine U V.az ?_;refine U V.va ?_;refine U V.a7 ?_;refine bu ?_;refine'⟨(i+1),_,?hinv,?vB,rfl,⟨?sM,rfl,rfl,trivial⟩,bV _,rfl⟩;case sM=>exact ec
     case vB=>exact cQ
     case hinv=>refine⟨by omega,fun j aU=>?_⟩;by_cases q:j<i;(exact cA j q);(obtain rfl:j=i:=by omega);(rw[I,ah];exact fl some (uH.1 wR))
   ·refine aJ ?_;refine ae.exit ?_;refine rg ?_;refine U V.a7 ?_;refine ns ?_;refine ae.ret ?_;refine hk ?_;refine⟨fl Value.bool ?_,rfl,rfl⟩;first
     |(have c:=cA;symm;rw[mN]
       apply mb
       intro j;by_cases q:j<i
       ·exact cA j q
       ·rw[hg (by omega),hg (by omega)])
     |(symm;rw[nG];intro q;rw[q] at e5;exact e5 rfl)
theorem T9{bE bS:Option Addr}{bx bT:Nat}{dZ eJ:List (List Int)}(aa:fX J 22 1 (k3 J) (.slice bE dZ.length bx) dZ)(ab:fX J 22 1 (k3 J) (.slice bS eJ.length bT) eJ)(ay:dZ.length<=1000000)(ax:∀r∈dZ,r.length<=1000000):
 Fn (a2 Q g0) 22 [.slice bE dZ.length bx,.slice bS eJ.length bT] [] J (fun u m' ag=>u=.bool (decide (dZ=eJ))/\m'=[]/\J=ag):=by
 obtain⟨_,HM⟩:=aa.at;obtain⟨_,HN⟩:=ab.at;refine Fn.dw (dB Tryz.func22) rfl rfl fun H=>?_;refine rg ?_;refine U V.a7 ?_;refine bP ?_;refine aV ?_;refine U V.bm ?_;refine ns ?_;refine If (fun e5=>?_) fun e5=>?_
 ·refine rg ?_;refine U V.a7 ?_;refine ns ?_;refine ae.ret ?_;refine hk ?_;refine⟨fl Value.bool ?_,rfl,rfl⟩;first
   |(have c:=cA;symm;rw[mN]
     apply mb
     intro j;by_cases q:j<i
     ·exact cA j q
     ·rw[hg (by omega),hg (by omega)])
   |(symm;rw[nG];intro q;rw[q] at e5;exact e5 rfl)
 ·refine aJ ?_;refine ae.skip ?_;refine rg ?_;refine U V.a7 ?_;refine ns ?_;refine ae.block ?_;refine' ae.fy (l':=[(5,.int .i64 ((0):Int)),(0,_),(1,_)]) ⟨?wj,rfl,rfl,trivial⟩ (bV _) ?_;case wj=>exact ec
  refine aJ ?_;refine' ae.Fi (α:=(Nat)) (fun(i:Nat)=>[(5,.int .i64 (i:Int))]) (fun(i:Nat)=>i<=dZ.length/\∀j,j<i->dZ[j]?=eJ[j]?) (fun(i:Nat)=>dZ.length -i) (0) ?al ?cp;case al=>exact⟨dV _,fun j aU=>by omega⟩
  case cp=>
   rintro i hinv;try simp only at hinv
   obtain⟨ak,cA⟩:=hinv;refine rg ?_;refine aV ?_;refine U V.bm ?_;refine ns ?_;refine If (fun ng=>?_) fun ng=>?_
   ·obtain⟨bl,vU,Q9,aD,rfl,Hy,xi⟩:=HM (by omega);obtain⟨bF,vV,Q',a5,rfl,Si,xj⟩:=HN (by omega);obtain⟨x,cs,I,xg,EE,fG,lR,rfl,E2⟩:=xi i (by omega) (by omega);obtain⟨y,cs,ah,xh,adD,hZ,Rh,rfl,TI⟩:=xj i (by omega) (by omega);have anr:=EE 0 _ (by decide) rfl;have ans:=adD 0 _ (by decide) rfl;rw[ea] at I ah;have kU:=ax x (cV I);have nw:addrEq fG fG=true:=by obtain⟨e,h⟩:=E2;exact h.addr
    have FN:addrEq hZ hZ=true:=by obtain⟨e,h⟩:=TI;exact h.addr
    refine gn ?_;refine aJ ?_;refine ae.block ?_;refine aJ ?_;refine ae.draw rfl (by kernel_rfl) (a8:=[.val 0,.val 1,.val 2,.val 3,.val 4,.val 5,.val 6,.val 7,.cv 8,.val 9]) (by kernel_rfl) ?_;refine cm ?_;refine aB rfl V.bf ?_;refine aB rfl V.a9 ?_;refine cm ?_;refine aB rfl V.bf ?_;refine aB rfl V.a9 ?_;refine dl rfl (G:=T4 E2 TI kU) (h:=?_);rintro v m' ag hle ⟨rfl,rfl,rfl⟩;refine aB rfl V.oL ?_;refine a3.nil ?_;refine aJ ?_;refine If (fun r'=>?_) fun r'=>?_
    ·refine rg ?_;refine U V.a7 ?_;refine ns ?_;refine ae.ret ?_;refine hk ?_;refine⟨fl Value.bool ?_,rfl,rfl⟩;first
       |(have c:=r';symm;rw[nG];intro q;subst q;rw[I] at ah;injection ah with ah;exact absurd ah (by simpa using r'))
       |(have c:=cA;symm;rw[mN]
         apply mb
         intro j;by_cases q:j<i
         ·exact cA j q
         ·rw[hg (by omega),hg (by omega)])
       |(symm;rw[nG];intro q;rw[q] at e5;exact e5 rfl)
    ·refine aJ ?_;refine ae.skip ?_;refine rg ?_;refine U V.az ?_;refine U V.va ?_;refine U V.a7 ?_;refine bu ?_;refine'⟨(i+1),_,?hinv,?vB,rfl,⟨?sM,rfl,rfl,trivial⟩,bV _,rfl⟩;case sM=>exact ec
     case vB=>exact cQ
     case hinv=>refine⟨by omega,fun j aU=>?_⟩;by_cases q:j<i;(exact cA j q);(obtain rfl:j=i:=by omega);(rw[I,ah];exact fl some (by simpa using r'))
   ·refine aJ ?_;refine ae.exit ?_;refine rg ?_;refine U V.a7 ?_;refine ns ?_;refine ae.ret ?_;refine hk ?_;refine⟨fl Value.bool ?_,rfl,rfl⟩;first
     |(have c:=cA;symm;rw[mN]
       apply mb
       intro j;by_cases q:j<i
       ·exact cA j q
       ·rw[hg (by omega),hg (by omega)])
     |(symm;rw[nG];intro q;rw[q] at e5;exact e5 rfl)
end
def hi{α:Type}(aj:Nat)(R:Nat->α->List Value->Prop)(cells:List Value)(xs:List α):Prop:=cells.length=xs.length*aj/\∀i x,xs[i]?=some x->R i x ((cells.drop (i*aj)).take aj)
theorem hi.at{α:Type}{aj:Nat}{R:Nat->α->List Value->Prop}{cells full:List Value}{xs:List α}(h:hi aj R cells xs)(aw:full.take (xs.length*aj)=cells){i:Nat}(ak:i<xs.length):∃x cs,xs[i]?=some x/\takeN aj (nI (0+i*aj) full)=some cs/\(∀k v,k<aj->nth cs k=some v->nth full (0+i*aj+k)=some v)/\R i x cs:=by
 have aa:=h.2 i _ (du ak);have al:i*aj+aj<=xs.length*aj:=by rw[<-pN];exact mD _ ak
 have ay:xs.length*aj<=full.length:=by
  have:=h.1;rw[<-aw,fc] at this;omega
 refine⟨_,_,du ak,?_,fun k v aH ap=>?_,aa⟩
 ·rw[lN,vd,x7 (by rw[jJ];omega),<-aw,CS,uN,k4 (by omega)]
 ·rw[kk,kr,aF aH,o2,<-aw,kr,aF (by omega)] at ap
  rw[kk,lN];exact ap
theorem hi.take{α:Type}{aj:Nat}{R:Nat->α->List Value->Prop}{cells:List Value}{xs:List α}(h:hi aj R cells xs){k:Nat}(aH:k<=xs.length):hi aj R (cells.take (k*aj)) (xs.take k):=by
 have mU:k*aj<=xs.length*aj:=mD _ aH;refine⟨by rw[fc,fc,h.1,k4 mU,k4 aH],fun i x I=>?_⟩;rw[kr] at I;by_cases q:i<k
 ·rw[aF q] at I
  have al:i*aj+aj<=k*aj:=by rw[<-pN];exact mD _ q
  rw[CS,uN,k4 (by omega)];exact h.2 i x I
 ·rw[aq q] at I;cases I
theorem hi.app{α:Type}{aj:Nat}{R:Nat->α->List Value->Prop}{cells new:List Value}{xs:List α}{x:α}(h:hi aj R cells xs)(I:R xs.length x new)(aM:new.length=aj):hi aj R (cells++new) (xs++[x]):=by
 refine⟨by rw[er,er,h.1,aM,Gu,mC,Nat.one_mul],fun i y ah=>?_⟩;by_cases q:i<xs.length
 ·rw[og q] at ah
  have al:i*aj+aj<=xs.length*aj:=by rw[<-pN];exact mD _ q
  rw[XH (by rw[h.1];omega),PX (by rw[jJ,h.1];omega)];exact h.2 i y ah
 ·rw[rY (by omega)] at ah
  have bt:i=xs.length:=by
   have:=(dv.1 ah).1;rw[Gu] at this;omega
  subst bt;rw[ta] at ah;injection ah with ah;subst ah
  rw[List.drop_left' (by rw[h.1]),fZ (by omega)];exact I
abbrev uh(ad:Nat)(lv fs:Value)(aY h8:Int)(z s:Bool)(pl:Nat)(fB e8:Value):List Value:=[.pointer (some ⟨ad,0,none⟩),lv,fs,.int .i64 aY,.int .i64 h8,.bool z,.bool s,.int .i64 (pl:Int),fB,e8]
abbrev vW (a k:Nat):Value:=.slice (some ⟨a,0,none⟩) k cR
theorem JE{k:Int}{ns:List cH}:uB k ns=true↔∃(i:Nat) (x:cH),ns[i]?=some x/\x.k=2/\x.i=k:=by
 unfold uB;rw[J3];constructor
 ·rintro⟨x,I,h⟩
  obtain⟨i,ak⟩:=lM.1 I;exact⟨i,x,ak,by simpa using h⟩
 ·rintro⟨i,x,ak,h⟩
  exact⟨x,cV ak,by simpa using h⟩
section
variable {Q:db Tryz.prog}{g0:Nat}{J:aA}
theorem aah{am ad bK a1 j6:Nat}{lv:Value}{aY h8:Int}{z s:Bool}{pl:Nat}{ma:List cH}{is:List (Int×Int)}{fv fn w7:List Value}{rv rn l6:List Nat}{ef:Nat}{info bQ:Int}
 (aM:hi 6 (fun _=>mE J) (fn.take (ma.length*6)) ma)(bt:0<=info)(adC:ef=is.length)(HV:0<is.length)(df:ma.length<=100000)(vx:is.length<=100000):
 Fn (a2 Q g0) 34 [.pointer (some ⟨am,0,none⟩),.int .i64 info,.int .i64 bQ] [(am,.row (uh ad lv (vW bK ef) aY h8 z s pl (vW a1 ma.length) (vW j6 is.length)) 61),(bK,.opn fv 123 rv 0),(a1,.opn fn 92 rn 0),(j6,.opn w7 87 l6 0)] J
  (fun u m' ag=>J=ag/\∃k,m'=[(am,.row (uh ad lv (vW bK k) aY h8 z s pl (vW a1 ma.length) (vW j6 k)) 61),(bK,.opn fv 123 rv 0),(a1,.opn fn 92 rn 0),(j6,.opn w7 87 l6 0)]/\
     k=if bQ<0\/info≠(is.length:Int) -1 then is.length else if uB info ma=true then is.length else info.toNat):=by
 subst adC;have ju:=fun i ak=>aM.at rfl (i:=i) ak;refine Fn.dw (dB Tryz.func34) rfl rfl fun H=>?_;refine kq [2,0,1] ?_;refine aJ ?_;refine' ae.mi 1 [(19,.bool (decide ((bQ<0\/info≠(is.length:Int) -1))))] ?ZC ?Z3;case ZC=>
  refine ae.region ?_;refine U V.az ?_;refine U V.bm ?_;refine U V.az ?_;refine eu 9 (fun Lv=>?_) fun Lv=>?_
  ·refine a0 ?_;refine a0 ?_;refine a0 ?_;refine a0 ?_;refine a0 ?_;refine a0 ?_;refine a0 ?_;refine a0 ?_;refine a0 ?_;refine U V.bc ?_;refine bu ?_;exact ce
  ·refine bg V.az ?_;refine bg V.az ?_;refine bg V.l2 ?_;refine bg V.bU ?_;refine bg V.bU ?_;refine bg V.a9 ?_;refine bg V.cr ?_;refine bg V.va ?_;refine bg V.bm ?_;refine U V.bc ?_;refine bu ?_;exact ce
 case Z3=>
  refine aJ ?_;refine If (fun j7=>?_) fun j7=>?_
  ·refine aJ ?_;refine ae.ret ?_;refine'⟨.inr rfl,rfl,_,_,.nil,bV _,?_⟩;first
    |(refine⟨rfl,_,rfl,?_⟩;rw[aF j7])
    |(have cn:((is.length:Int) -1)=info:=by omega
      refine⟨rfl,info.toNat,by rw[cn],?_⟩;rw[aq j7,aq (fun q=>by
          obtain⟨j,y,ah,aZ⟩:=JE.1 q;exact cA j (by have:=(dv.1 ah).1;omega) y ah aZ)])
  ·refine aJ ?_;refine ae.skip ?_;refine rg ?_;refine U V.a7 ?_;refine ns ?_;refine ae.block ?_;refine' ae.fy (l':=[(6,.int .i64 ((0):Int)),(0,_),(1,_)]) ⟨?O3,rfl,rfl,trivial⟩ (bV _) ?_;case O3=>exact ec
   refine aJ ?_;refine' ae.Fi (α:=(Nat)) (fun(i:Nat)=>[(6,.int .i64 (i:Int))]) (fun(i:Nat)=>i<=ma.length/\∀j,j<i->∀x,ma[j]?=some x->¬(x.k=2/\x.i=info)) (fun(i:Nat)=>ma.length -i) (0) ?al ?cp;case al=>exact⟨dV _,fun j aU=>by omega⟩
   case cp=>
    rintro i hinv;try simp only at hinv
    obtain⟨ak,cA⟩:=hinv;refine rg ?_;refine aV ?_;refine U V.a9 ?_;refine U V.cr ?_;refine U V.bm ?_;refine ns ?_;refine If (fun j8=>?_) fun j8=>?_
    ·obtain⟨x,cs,I,xg,EE,bE,bx,bS,bT,cJ,dA,rfl,Eg,Eh,amU⟩:=ju i (by omega);have kP:=EE 0 _ (by decide) rfl;have a5:=EE 2 _ (by decide) rfl;refine gn ?_;refine aJ ?_;refine ae.block ?_;refine kq [0,1,6] ?_;refine aJ ?_;refine' ae.mi 0 [(52,.bool (decide ((x.k=2/\x.i=info))))] ?yJ ?yO;case yJ=>
      refine ae.region ?_;refine aV ?_;refine U V.a9 ?_;refine U V.az ?_;refine U V.bf ?_;refine U V.bU ?_;refine U V.a9 ?_;refine U V.bm ?_;refine U V.az ?_;refine eu 40 (fun abK=>?_) fun abK=>?_
      ·
        refine bg V.az ?_;refine bg V.l2 ?_;refine bg V.bU ?_;refine bg V.bU ?_;refine bg V.a9 ?_;refine bg V.az ?_;refine bg V.bf ?_;refine bg V.bU ?_;refine bg V.a9 ?_;refine bg V.az ?_;refine bg V.bm ?_;refine U V.bc ?_;refine bu ?_;exact ce
      ·
        refine a0 ?_;refine a0 ?_;refine a0 ?_;refine a0 ?_;refine a0 ?_;refine a0 ?_;refine a0 ?_;refine a0 ?_;refine a0 ?_;refine a0 ?_;refine a0 ?_;refine U V.bc ?_;refine bu ?_;exact ce
     case yO=>
      refine aJ ?_;refine If (fun yD=>?_) fun yD=>?_
      ·
        refine aJ ?_;refine ae.ret ?_;refine'⟨.inr rfl,rfl,_,_,.nil,bV _,?_⟩;first
         |(refine⟨rfl,_,rfl,?_⟩;rw[aF j7])
         |(have c:=yD;refine⟨rfl,_,rfl,?_⟩;rw[aq j7,aF (JE.2 ⟨_,_,I,yD⟩)])
         |(have cn:((is.length:Int) -1)=info:=by omega
           refine⟨rfl,info.toNat,by rw[cn],?_⟩;rw[aq j7,aq (fun q=>by
               obtain⟨j,y,ah,aZ⟩:=JE.1 q;exact cA j (by have:=(dv.1 ah).1;omega) y ah aZ)])
      ·
        refine aJ ?_;refine ae.skip ?_;refine rg ?_;refine U V.az ?_;refine U V.va ?_;refine U V.a7 ?_;refine bu ?_;refine'⟨(i+1),_,?hinv,?vB,rfl,⟨?BV,rfl,rfl,trivial⟩,bV _,rfl⟩;case BV=>exact ec
        case vB=>exact cQ
        case hinv=>refine⟨by omega,fun j aU y ah=>?_⟩;by_cases q:j<i;(exact cA j q y ah);(obtain rfl:j=i:=by omega);(rw[I] at ah;injection ah with ah;subst ah;exact yD)
    ·refine aJ ?_;refine ae.exit ?_;refine rg ?_;refine aV ?_;refine U V.a9 ?_;refine U V.az ?_;refine' W.step rfl (Exec.val rfl rfl (WR rfl rfl rfl (Oo Q g0) ?hm ?bt ?aa) ?_);case hm=>repeat first|exact .head _|refine .tail _ ?_|refine lm _ ?_
     case bt=>exact cQ
     case aa=>exact cQ
     refine aV ?_;refine fF ?_;refine ns ?_;refine ae.draw rfl (by kernel_rfl) (a8:=[.val 0,.val 1,.val 2,.val 3,.val 4,.val 5,.val 6,.val 7,.val 8,.val 9,.val 10,.val 11,.val 12,.val 13,.cv 14]) (by kernel_rfl) ?_;refine cm ?_;refine aB rfl V.a9 ?_;refine cm ?_;refine aB rfl V.a9 ?_;refine aB rfl V.cr ?_;refine aB rfl V.va ?_;refine' a3.val rfl rfl rfl rfl (WR rfl rfl rfl (Oq Q g0) ?hm ?bt ?aa) ?_;case hm=>repeat first|exact .head _|refine .tail _ ?_|refine lm _ ?_
     case bt=>exact cQ
     case aa=>exact cQ
     refine cm ?_;refine m6 rfl ?_;refine a3.nil ?_;refine'⟨.inl rfl,rfl,_,_,.nil,bV _,?_⟩;first
        |(refine⟨rfl,_,rfl,?_⟩;rw[aF j7])
        |(have cn:((is.length:Int) -1)=info:=by omega
          refine⟨rfl,info.toNat,by rw[cn],?_⟩;rw[aq j7,aq (fun q=>by
            obtain⟨j,y,ah,aZ⟩:=JE.1 q;exact cA j (by have:=(dv.1 ah).1;omega) y ah aZ)])
end
end
end Go.Opn
