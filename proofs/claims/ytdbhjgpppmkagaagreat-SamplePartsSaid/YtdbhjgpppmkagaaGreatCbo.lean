/- A part of the proof of SampleParts. -/
import Derived.Test.YtdbhjgpppmkagaaGreatCbn
import Derived.Test.YtdbhjgpppmkagaaGreatCbh
set_option maxRecDepth 100000
set_option maxHeartbeats 8000000
set_option linter.unusedVariables false
set_option linter.unusedSimpArgs false
namespace Go.Opn
noncomputable section
open Go.Cre Go.RowKit Go.Proofs
section
variable {Q:db Tryz.prog}{g0:Nat}{J:aA}
theorem ajH{ad off cap n:Nat}{e:TypeId}{pre post:List Value}{D:List Int}{vi:FuncId}{tr:Array Value}{f:Int->Int->Int}{ok:Int->Prop}{en:aI}{cN:aA}(ET:rU en J cN)(hI:D.length=n)(aM:n<20)(Bx:pre.length=off)(g':∀x∈D,ok x)
 (av:∀a b,ok a->ok b->Fn (a2 Q g0) vi (.int .i64 a::.int .i64 b::tr.toList) [] cN (fun v m' ag=>v=.int .i64 (f a b)/\m'=[]/\ag=cN)):
 Fn (a2 Q g0) 72 [.slice (some ⟨ad,off,none⟩) n cap,.int .i64 (n:Int),.func (.func vi) #[] tr] ((ad,.row (kh pre D post) e)::en) J (fun v m' ag=>m'=(ad,.row (kh pre (pq f (n -1) D) post) e)::en/\J=ag):=by
 refine Fn.dw (dB Tryz.func72) rfl rfl fun H=>?_;refine rg ?_;refine U V.a7 ?_;refine bP ?_;refine aV ?_;refine ns ?_;refine ae.block ?_;refine aJ ?_;refine ae.Uj ?_;refine rg ?_;refine aV ?_;refine U V.bm ?_;refine ns ?_;refine If (fun Dn=>?_) fun Dn=>?_
 ·exfalso;omega
 ·refine aJ ?_;refine ae.exit ?_;refine rg ?_;refine aV ?_;refine' W.step rfl (Exec.call rfl rfl rfl rfl rfl rfl rfl (a4:=(ad,.row (kh pre D post) e)::en) (b2:=[]) (by simp) trivial (afb ET hI (by omega) Bx g' av) ?_);rintro v m' ag hle ⟨rfl,rfl⟩;rw[fb];refine ns ?_;refine ae.block ?_;refine aJ ?_;refine ae.Uj ?_;refine rg ?_;refine aV ?_;refine U V.bm ?_;refine ns ?_;refine If (fun Dq=>?_) fun Dq=>?_
  ·exfalso;omega
  ·refine aJ ?_;refine ae.exit ?_;refine'⟨.inl rfl,rfl,_,_,.nil,bV _,⟨rfl,rfl⟩⟩
theorem aje{ad off cap n:Nat}{e:TypeId}{pre post:List Value}{D:List Int}{vi:FuncId}{tr:Array Value}{f:Int->Int->Int}{ok:Int->Prop}{en:aI}{cN:aA}(ET:rU en J cN)(hI:D.length=n)(aM:n<20)(Bx:pre.length=off)(g':∀x∈D,ok x)
 (av:∀a b,ok a->ok b->Fn (a2 Q g0) vi (.int .i64 a::.int .i64 b::tr.toList) [] cN (fun v m' ag=>v=.int .i64 (f a b)/\m'=[]/\ag=cN)):
 Fn (a2 Q g0) 56 [.slice (some ⟨ad,off,none⟩) n cap,.func (.func vi) #[] tr] ((ad,.row (kh pre D post) e)::en) J (fun v m' ag=>m'=(ad,.row (kh pre (pq f (n -1) D) post) e)::en/\J=ag):=by
 refine Fn.dw (dB Tryz.func56) rfl rfl fun H=>?_;refine rg ?_;refine aV ?_;refine' W.step rfl (Exec.call rfl rfl rfl rfl rfl rfl rfl (a4:=(ad,.row (kh pre D post) e)::en) (b2:=[]) (by simp) trivial (ajH ET hI aM Bx g' av) ?_);rintro v m' ag hle ⟨rfl,rfl⟩;rw[fb];refine bu ?_;refine'⟨.inl rfl,rfl,_,_,.nil,bV _,⟨rfl,rfl⟩⟩
theorem V'{b3 cX kN:Nat}{L:List Int}{lr:Nat}{i:Int}(ax:J kN=some (L.map (Value.int .i64),3))(bh:J b3=some ([.slice (some ⟨kN,0,none⟩) L.length lr],22))(gz:J cX=some ([.int .i64 (jF L)],3))(dK:0<jF L)(HV:0<=i)(SU:i<L.length)(ai:∀x∈L,-1000000000<=x/\x<=1000000000):
 Fn (a2 Q g0) 55 [.int .i64 i,.pointer (some ⟨b3,0,none⟩),.pointer (some ⟨cX,0,none⟩)] [] J (fun v m' ag=>v=.int .i64 (xW L i)/\m'=[]/\ag=J):=by
 obtain⟨x,I⟩:∃x,L[i.toNat]?=some x:=⟨_,du (by omega)⟩;have Nc:=ai x (cV I);have EU:xW L i=(65536*max x 0).tmod (jF L):=by unfold xW;rw[getD_some I]
 refine Fn.dw (dB Tryz.func55) rfl rfl fun H=>?_;refine rg ?_;refine U V.a7 ?_;refine ns ?_;refine ae.draw rfl (by kernel_rfl) (a8:=[.val 0,.val 1,.val 2,.val 3,.val 4,.val 5,.val 6,.val 7,.val 8]) (by kernel_rfl) ?_;refine aB rfl V.a9 ?_;refine aB rfl V.az ?_;refine aB rfl V.bf ?_;refine' a3.val rfl rfl rfl rfl (ix rfl rfl ?ax (iR (hh rfl) ?ap)) ?_;case ax=>exact .fj ax
 case ap=>exact n3 i.toNat (by rw[gG,I];rfl)
 refine' a3.val rfl rfl rfl rfl (JF rfl rfl rfl rfl rfl) ?_;refine aB rfl V.va ?_;refine aB rfl V.a9 ?_;refine aB rfl V.tz ?_;refine aB rfl V.a7 ?_;refine a3.nil ?_;refine aJ ?_;refine ae.ret ?_;refine'⟨.inr rfl,rfl,_,_,.tmp rfl .nil,bV _,⟨by rw[EU];rfl,rfl,rfl⟩⟩
theorem ai8{b3 cX o4 kN:Nat}{L:List Int}{lr:Nat}(ax:J kN=some (L.map (Value.int .i64),3))(bh:J b3=some ([.slice (some ⟨kN,0,none⟩) L.length lr],22))(gz:J cX=some ([.int .i64 (jF L)],3))(Sc:J o4=some ([.func (.func 55) #[] #[.pointer (some ⟨b3,0,none⟩),.pointer (some ⟨cX,0,none⟩)]],62))(dK:0<jF L)(am5:jF L<=4000000000)(ai:∀x∈L,-1000000000<=x/\x<=1000000000)(a b:Int)(aW:0<=a/\a<L.length)(HO:0<=b/\b<L.length):
 Fn (a2 Q g0) 57 [.int .i64 a,.int .i64 b,.pointer (some ⟨o4,0,none⟩)] [] J (fun v m' ag=>v=.int .i64 (Dz L a b)/\m'=[]/\ag=J):=by
 have EU:∀i,0<=xW L i/\xW L i<jF L:=fun i=>by
  unfold xW;exact⟨PA _ (by omega),JY _ dK⟩
 have cO:=EU a;have dI:=EU b;refine Fn.dw (dB Tryz.func57) rfl rfl fun H=>?_;refine rg ?_;refine U V.a7 ?_;refine bu ?_;have aeB:hA 8 (Value.func (.func 55) #[] #[.pointer (some ⟨b3,0,none⟩),.pointer (some ⟨cX,0,none⟩)]) (Value.func (.func 55) #[] #[.pointer (some ⟨b3,0,none⟩),.pointer (some ⟨cX,0,none⟩)])=true:=by simp[hA,addrEq,Lh,qS]
 refine aJ ?_;refine ae.draw rfl (by kernel_rfl) (a8:=[.val 0,.val 1,.val 3,.val 4,.cv 2,.c9 [4,3],.cv 5,.val 6,.val 7]) (by kernel_rfl) ?_;refine aB rfl V.a9 ?_;refine aB rfl V.az ?_;refine aB rfl V.a9 ?_;refine aB rfl V.az ?_;refine a3.IX ?_;refine' gT.call rfl rfl rfl rfl rfl rfl rfl rfl rfl (fun x I=>by cases I) (a4:=[]) (b2:=[]) (.refl _) trivial (V' ax bh gz dK HO.1 HO.2 ai) ?_;rintro v m' ag hle ⟨rfl,rfl,rfl⟩;refine gT.c9 g7 ?_;refine' gT.call rfl rfl rfl rfl rfl rfl rfl rfl rfl (fun x I _ ab=>by rcases ft.1 I with rfl|I;(have ab:[Value.int .i64 b,.pointer (some ⟨b3,0,none⟩),.pointer (some ⟨cX,0,none⟩)]=[Value.int .i64 a,.pointer (some ⟨b3,0,none⟩),.pointer (some ⟨cX,0,none⟩)]:=ab;injection ab with ab;injection ab with _ ab;subst ab;exact .inl ⟨rfl,rfl,rfl⟩);cases I) (a4:=[]) (b2:=[]) (.refl _) trivial (V' ax bh gz dK aW.1 aW.2 ai) ?_;rintro v m' ag hle ⟨rfl,rfl,rfl⟩;refine gT.IW (fun x I=>CW (f:=fun x=>(x.f,x.bJ)) I) ?_;refine aB rfl V.va ?_;refine aB rfl V.a7 ?_;refine a3.nil ?_;refine aJ ?_;refine ae.ret ?_;refine'⟨.inr rfl,rfl,_,_,.tmp rfl .nil,bV _,⟨rfl,rfl,rfl⟩⟩
end
theorem aj4{L:List Int}{i:Nat}{x:Int}(h:L[i]?=some x):((L.take (i+1)).map fun x=>max x 0).sum=((L.take i).map fun x=>max x 0).sum+max x 0:=by
 have:=OH (l:=L.map fun x=>max x 0) (k:=i) (x:=max x 0) (by rw[gG,h];rfl);rwa [<-PO,<-PO] at this
theorem OP:∀(L:List Int),(∀x∈L,-1000000000<=x/\x<=1000000000)->0<=(L.map fun x=>max x 0).sum/\(L.map fun x=>max x 0).sum<=1000000000*L.length
 |[],_=>by simp
 |x::L,h=>by
  obtain⟨aa,ab⟩:=OP L fun y ah=>h y (.tail _ ah);have:=h x (.head _);rw[k2,Av,j2];omega
theorem NU{L:List Int}{i:Nat}{x:Int}(h:L[i]?=some x):(iP L)[i]?=some (nJ L x):=by unfold iP;rw[gG,h];rfl
theorem ag2{L:List Int}:(iP L).length=L.length:=by unfold iP;rw[ig]
theorem Ab{α:Type}{vs Z:List α}{i:Nat}{v:α}(ak:i<Z.length)(ap:vs[i]?=some v):(vs.take i++Z.drop i).set i v=vs.take (i+1)++Z.drop (i+1):=by
 have hQ:=(dv.1 ap).1;have e:Z.drop i=Z[i]::Z.drop (i+1):=od ak;rw[e,pM,ap,Gv _ _ (by rw[fc];omega),fc,show i -min i vs.length=0 by omega];rw[List.set_cons_zero,Option.toList_some,j0];rfl
theorem Ut{pre:List Value}{A B:List Int}:kh pre (A++B) []=kh pre A (B.map (Value.int .i64)):=by unfold kh;simp
abbrev iv(a:Nat)(L:List Int)(r:List Nat):Nat×cI:=(a,.opn (L.map (Value.int .i64)) 3 r 0)
section
variable {Q:db Tryz.prog}{g0:Nat}{J:aA}
open Classical in
theorem ai9{ck kN pR lr KN n:Nat}{cw:List Nat}{pre:List Value}{cS L O:List Int}(Bx:pre.length=8)(am4:cS.length=10)(bB:L.length=n)(za:O.length=n)(zs:1<=n)(EK:n<=3)(ai:∀x∈L,-1000000000<=x/\x<=1000000000):
 Fn (a2 Q g0) 40 [.pointer (some ⟨ck,0,none⟩),.slice (some ⟨kN,0,none⟩) n lr,.slice (some ⟨pR,0,none⟩) n KN] [(ck,.row (kh pre cS []) 73),iv kN L cw,(pR,.row (O.map (Value.int .i64)) 3)] J (fun v m' ag=>J.le ag/\∃P0:List Int,P0.length=10/\m'=[(ck,.row (kh pre P0 []) 73),iv kN L cw,(pR,.row ((jW L).map (Value.int .i64)) 3)]):=by
 subst bB;have dK:=OP L ai;have acs:(L.map fun x=>max x 0).sum=jF L:=rfl;have anw:=Ub (l:=L) zs (by omega);have oC:=ag2 (L:=L);have nT:∀v∈iP L,0<=v:=fun v ap=>by obtain⟨x,_,rfl⟩:=m8.1 ap;exact RS
 have adF:rA L=65536 -(iP L).sum:=rfl;obtain⟨anJ,Tc⟩:=UW (l:=L) zs;refine Fn.dw (dB Tryz.func40) rfl rfl fun H=>?_;refine rg ?_;refine fG fun b3=>?_;refine ns ?_;refine ae.draw rfl (by kernel_rfl) (a8:=[.f' 6,.val 0,.val 1,.val 2,.val 3,.val 4,.val 5,.cv 7,.val 8,.val 9,.c9 [5,4,3,2,1,0]]) (by kernel_rfl) ?_;refine a3.alloc rfl rfl rfl rfl rfl (JN Q g0) rfl rfl rfl fun cX=>?_;refine cm ?_;refine aB rfl V.a9 ?_;refine aB rfl V.cr ?_;refine' a3.val rfl rfl rfl rfl (WQ rfl rfl (OL rfl) rfl ?bt ?aa (by decide) (by decide)) ?_;case bt=>exact cQ
 case aa=>exact cQ
 refine m6 rfl ?_;refine cm ?_;refine a3.c9 ⟨?gX,?a',?bd,?bz,?cM,?ha,trivial⟩ ?_;case gX=>
  refine' kH.val rfl rfl rfl (WQ rfl rfl (OL rfl) rfl ?bt ?aa (by decide) (by decide)) rfl ?he;case bt=>exact cQ
  case aa=>exact cQ
  case he=>exact s4
 case a'=>
  refine' kH.val rfl rfl rfl (WL rfl rfl rfl rfl (OO rfl)) rfl ?he;case he=>exact s4
 case bd=>
  refine' kH.val rfl rfl rfl (ix rfl rfl ?ax (iR (hh rfl) ?ap)) rfl ?he;case ax=>exact qr
  case ap=>first|rfl|assumption
  case he=>exact s4
 case bz=>
  refine' kH.val rfl rfl rfl (OW rfl rfl (ON rfl rfl)) rfl ?he;case he=>exact s4
 case cM=>
  refine' kH.val rfl rfl rfl (WN rfl rfl) rfl ?he;case he=>exact s4
 case ha=>
  refine' kH.val rfl rfl rfl (WM rfl rfl) rfl ?he;case he=>exact s4
 refine a3.nil ?_;refine rg ?_;refine U V.a9 ?_;refine aV ?_;refine ns ?_;refine ae.block ?_;refine' ae.fy (l':=[(24,.int .i64 ((0):Int)),(2,_),(4,_),(6,_),(7,_),(8,_),(22,_),(23,_)]) ⟨?akO,rfl,rfl,rfl,rfl,rfl,rfl,rfl,trivial⟩ (bV _) ?_;case akO=>exact ec
 refine aJ ?_;refine' ae.cf (fun(i:Nat)=>⟨[(24,.int .i64 (i:Int))],(cX,.row [.int .i64 ((L.take i).map fun x=>max x 0).sum] 3)::(b3,.row [.slice (some ⟨kN,0,none⟩) L.length lr] 22)::[(ck,.row (kh pre cS []) 73),iv kN L cw,(pR,.row (O.map (Value.int .i64)) 3)],J,i<=L.length,L.length -i⟩) (0) ?al ?cp;case al=>exact dV _
 case cp=>
  rintro i hinv;try simp only at hinv
  have ak:=hinv;refine rg ?_;refine U V.bm ?_;refine ns ?_;refine If (fun wR=>?_) fun wR=>?_
  ·obtain⟨x,I⟩:∃x,L[i]?=some x:=⟨_,du (by omega)⟩;have Nc:=ai x (cV I);have c0:=aj4 I;have aeu:=OP (L.take i) (fun y ah=>ai y (uM ah));rw[fc] at aeu;have gk:nth (L.map (Value.int .i64)) (0+((i:Nat):Int).toNat*1)=some (.int .i64 x):=n3 i (by rw[gG,I];rfl) (by simp);refine gn ?_;refine aJ ?_;refine ae.block ?_;refine rg ?_;refine U V.bf ?_;refine U V.a9 ?_;refine U V.a7 ?_;refine bP ?_;refine U V.a9 ?_;refine U V.az ?_;refine' W.step rfl (Exec.val rfl rfl (JF rfl rfl rfl rfl rfl) ?_);refine U V.va ?_;refine fF ?_;refine bu ?_;rw[<-c0];refine rg ?_;refine U V.va ?_;refine U V.az ?_;refine bu ?_;refine e2 (i+1) ?_;exact(by omega)
  ·obtain rfl:i=L.length:=by omega
   rw[Aw,acs];refine aJ ?_;refine ae.exit ?_;refine rg ?_;refine U V.a9 ?_;refine aV ?_;refine ns ?_;refine ae.block ?_;refine' ae.fy (l':=[(7,.int .i64 (65536 -((iP L).take (0)).sum)),(35,.int .i64 ((0):Int)),(2,_),(4,_),(6,_),(8,_),(33,_),(34,_)]) ⟨?W9,?O2,rfl,rfl,rfl,rfl,rfl,rfl,trivial⟩ (bV _) ?_;case W9=>exact ec
   case O2=>exact ec
   refine aJ ?_;refine' ae.cf (fun(i:Nat)=>⟨[(7,.int .i64 (65536 -((iP L).take i).sum)),(35,.int .i64 (i:Int))],(cX,.row [.int .i64 (jF L)] 3)::(b3,.row [.slice (some ⟨kN,0,none⟩) L.length lr] 22)::[(ck,.row (kh pre ((oF L.length).take i++cS.drop i) []) 73),iv kN L cw,(pR,.row (((iP L).take i++O.drop i).map (Value.int .i64)) 3)],J,i<=L.length,L.length -i⟩) (0) ?al ?cp;case al=>exact dV _
   case cp=>
    rintro i hinv;try simp only at hinv
    have ak:=hinv;have xm:=Jy (l:=iP L) nT i;refine rg ?_;refine U V.bm ?_;refine ns ?_;refine If (fun wS=>?_) fun wS=>?_
    ·obtain⟨x,I⟩:∃x,L[i]?=some x:=⟨_,du (by omega)⟩;have Nc:=ai x (cV I);have anK:=OH (NU I);have EH:=Jy (l:=iP L) nT (i+1);have gk:nth (L.map (Value.int .i64)) (0+((i:Nat):Int).toNat*1)=some (.int .i64 x):=n3 i (by rw[gG,I];rfl) (by simp);have TD:IntKind.i64.wrap (nJ L x)=nJ L x:=wrap_i64 (by omega) (by omega);have anI:nth (((iP L).take (i+1)++O.drop (i+1)).map (Value.int .i64)) (0+((i:Nat):Int).toNat*1)=some (.int .i64 (nJ L x)):=n3 i (by rw[gG,og (by rw[fc];omega),List.getElem?_take_of_lt (by omega),NU I];rfl) (by simp);have nn:=take_set (vs:=iP L) (Z:=O) (i:=i) (v:=nJ L x) (by omega) (NU I);have aev:=Ab (vs:=oF L.length) (Z:=cS) (i:=i) (v:=(i:Int)) (by omega) (ae6 (by omega));refine gn ?_;refine aJ ?_;refine ae.block ?_;refine rg ?_;refine U V.az ?_;refine U V.bf ?_;refine U V.a9 ?_;refine aV ?_;refine bP ?_;refine aV ?_;refine U V.a9 ?_;refine U V.cr ?_;refine U V.tz ?_;refine U V.az ?_;refine U V.bf ?_;refine' W.step rfl (.of (jY rfl rfl rfl rfl (h' rfl) rfl rfl rfl ?aa ?al ?au ?_));case au=>repeat first|exact .head _ _ _ _|apply dc.tail|apply dc.app
     case al=>exact pC i (by rw[er,fc,jJ];omega)
     case aa=>first|rfl|assumption
     refine U V.bf ?_;refine' W.step rfl (.of (jY rfl rfl rfl rfl (h' rfl) rfl rfl rfl ?aa ?al ?au ?_));case au=>repeat first|exact .head _ _ _ _|apply dc.tail|apply dc.app
     case al=>exact Oz (v:=(i:Int)) (j:=i) (by rw[er,fc,jJ,BN];omega) (by simp;omega)
     case aa=>first|rfl|assumption
     refine bu ?_;rw[aev];refine rg ?_;refine U V.a9 ?_;refine U V.bm ?_;refine ns ?_;refine If (fun KJ=>?_) fun KJ=>?_
     ·refine rg ?_;refine aV ?_;refine' W.step rfl (Exec.val rfl rfl (JF rfl rfl rfl rfl rfl) ?_);refine U V.va ?_;refine U V.a9 ?_;refine U V.tz ?_;refine U V.bf ?_;refine' W.step rfl (.of (jY rfl rfl rfl rfl (h' rfl) rfl rfl rfl ?aa ?al ?au ?_));case au=>repeat first|exact .head _ _ _ _|apply dc.tail|apply dc.app
      case al=>exact pC i (by rw[hW,er,fc,jJ];omega)
      case aa=>first|rfl|assumption
      refine bu ?_;rw[List.set_set,show(65536*max x 0).tdiv (jF L)=nJ L x from by unfold nJ;rw[aF KJ],TD,nn];refine rg ?_;refine aV ?_;refine U V.bf ?_;refine U V.a9 ?_;refine U V.va ?_;refine U V.a7 ?_;refine bP ?_;refine U V.va ?_;refine U V.az ?_;refine bu ?_;refine e2 (i+1) ?_;exact(by omega)
     ·rw[show(65536:Int).tdiv (L.length:Int)=nJ L x from by unfold nJ;rw[aq KJ],TD,nn];refine n0 ?_;refine aV ?_;refine U V.bf ?_;refine U V.a9 ?_;refine U V.va ?_;refine U V.a7 ?_;refine bP ?_;refine U V.va ?_;refine U V.az ?_;refine bu ?_;refine e2 (i+1) ?_;exact(by omega)
    ·obtain rfl:i=L.length:=by omega
     refine aJ ?_;refine ae.exit ?_;have aD:(oF L.length).take L.length=oF L.length:=fZ (by rw[BN];omega);have a5:(iP L).take L.length=iP L:=fZ (by omega);have cC:O.drop L.length=[]:=wv (by omega);rw[aD,a5,cC,fb,<-adF];refine kq [2,4,6,7,8] ?_;refine aJ ?_;refine' ae.mi 0 [(72,.bool (decide ((0<jF L/\0<rA L))))] ?ZF ?Z6;case ZF=>
      refine ae.region ?_;refine U V.a9 ?_;refine U V.bm ?_;refine U V.az ?_;refine eu 69 (fun abF=>?_) fun abF=>?_
      ·
        refine bg V.az ?_;refine bg V.bm ?_;refine U V.bc ?_;refine bu ?_;refine'⟨⟨_,rfl,⟨?ND,rfl,rfl,rfl,rfl,rfl,trivial⟩⟩,bV _,rfl⟩;case ND=>first|exact u9 rfl (by omega)|exact u6 rfl (by omega)|exact u7 rfl (by omega)|exact u5 rfl (by omega)
      ·
        refine a0 ?_;refine a0 ?_;refine U V.bc ?_;refine bu ?_;refine'⟨⟨_,rfl,⟨?ND,rfl,rfl,rfl,rfl,rfl,trivial⟩⟩,bV _,rfl⟩;case ND=>first|exact u9 rfl (by omega)|exact u6 rfl (by omega)|exact u7 rfl (by omega)|exact u5 rfl (by omega)
     case Z6=>
      refine kq [4,6,72,2,7,8] ?_;refine aJ ?_;refine' ae.DE (α:=(aA)×(List Int)) 3 (fun(cU:(aA)×(List Int))=>match cU with|(yq,D)=>[]) (fun(cU:(aA)×(List Int))=>match cU with|(yq,D)=>[(ck,.row (kh pre (D++cS.drop L.length) []) 73),iv kN L cw,(pR,.row ((iP L).map (Value.int .i64)) 3)]) (fun(cU:(aA)×(List Int))=>match cU with|(yq,D)=>yq) (fun(cU:(aA)×(List Int))=>match cU with|(yq,D)=>J.le yq/\D=nt L) ?Zo ?Z2
      case Zo=>
        refine If (fun G2=>?_) fun G2=>?_
        ·refine rg ?_;refine U V.fn ?_;refine' W.step rfl (.of (ic rfl rfl rfl (alA Q g0) rfl rfl rfl fun o4=>?_));refine fF ?_;refine bu ?_;rw[Ut];refine ae.lH rfl fun zp=>?_;refine ae.lH rfl fun oA=>?_;refine ae.lH rfl fun xk=>?_;have Sc:=xk _ _ (oA _ _ (aA.mf J o4 ([.func (.func 55) #[] #[.pointer (some ⟨b3,0,none⟩),.pointer (some ⟨cX,0,none⟩)]],62)));have gz:=xk _ _ (aA.mf (J.add o4 ([.func (.func 55) #[] #[.pointer (some ⟨b3,0,none⟩),.pointer (some ⟨cX,0,none⟩)]],62)) cX ([.int .i64 (jF L)],3));have bh:=aA.mf ((J.add o4 ([.func (.func 55) #[] #[.pointer (some ⟨b3,0,none⟩),.pointer (some ⟨cX,0,none⟩)]],62)).add cX ([.int .i64 (jF L)],3)) b3 ([.slice (some ⟨kN,0,none⟩) L.length lr],22);refine ae.ag3 fun Bu=>?_;have gO:=aA.Qg (x:=(L.map (Value.int .i64),3)) (Bu kN _ (.tail _ (.head _)));refine rg ?_;refine aV ?_;refine' W.step rfl (Exec.call rfl rfl rfl rfl rfl rfl rfl (a4:=[(ck,.row (kh pre (oF L.length) ((cS.drop L.length).map (Value.int .i64))) 73),iv kN L cw]) (b2:=[(pR,.row ((iP L).map (Value.int .i64)) 3)]) (.refl _) trivial (aje (f:=Dz L) (ok:=fun x=>0<=x/\x<L.length) (rU.opn (.head _)) BN (by omega) Bx Nl (fun a b aW HO=>ai8 (aA.mf _ _ _) (gO _ _ bh) (gO _ _ gz) (gO _ _ Sc) G2.1 (by omega) ai a b aW HO)) ?_);rintro v m' ag hle ⟨rfl,rfl⟩;refine bu ?_;rw[<-Ut];refine'⟨⟨_,pq (Dz L) (L.length -1) (oF L.length)⟩,_,?hinv,rfl,⟨rfl,rfl,rfl,trivial⟩,BU,rfl⟩;case hinv=>exact⟨(zp.trans oA).trans xk,by unfold nt;rw[aF G2]⟩
        ·refine aJ ?_;refine ae.skip ?_;refine'⟨⟨_,oF L.length⟩,_,?hinv,rfl,⟨rfl,rfl,rfl,trivial⟩,⟨[_,_],jn (l₁:=[_,_,_]) (l₂:=[_,_])⟩,rfl⟩;case hinv=>exact⟨aA.le.refl _,by unfold nt;rw[aq G2]⟩
      case Z2=>
        rintro⟨yq,D⟩ hinv;try simp only at hinv
        obtain⟨Ej,rfl⟩:=hinv;refine rg ?_;refine aV ?_;refine' W.step rfl (Exec.val rfl rfl (akv rfl rfl (hL Q g0) rfl ?bt ?aa ?ab ?aK) ?_);case bt=>exact cQ
        case aa=>exact cQ
        case ab=>exact(by decide)
        case aK=>exact(by decide)
        refine aV ?_;refine ns ?_;refine ae.block ?_;refine' ae.fy (l':=[(81,.int .i64 ((0):Int)),(2,_),(79,_),(80,_)]) ⟨?ak0,rfl,rfl,rfl,trivial⟩ (bV _) ?_;case ak0=>exact ec
        refine aJ ?_;refine' ae.cf (fun(k:Nat)=>⟨[(81,.int .i64 (k:Int))],[(ck,.row (kh pre (nt L++cS.drop L.length) []) 73),iv kN L cw,(pR,.row ((((nt L).take k).foldl qj (iP L)).map (Value.int .i64)) 3)],yq,k<=(rA L).toNat,(rA L).toNat -k⟩) (0) ?al ?cp;case al=>exact dV _
        case cp=>
         rintro k hinv;try simp only at hinv
         have aH:=hinv;obtain⟨i1,i2,i3⟩:=Nh (n:=L.length) ((nt L).take k) (iP L) oC (fun x I=>Tc x (uM I)) nT;rw[fc] at i2;refine rg ?_;refine U V.bm ?_;refine ns ?_;refine If (fun YT=>?_) fun YT=>?_
         ·obtain⟨v,ap⟩:∃v,(nt L)[k]?=some v:=⟨_,du (by omega)⟩;have xx:=Tc v (cV ap);obtain⟨w0,zA⟩:∃w,(((nt L).take k).foldl qj (iP L))[v.toNat]?=some w:=⟨_,du (by omega)⟩;have Ty:=i3 w0 (cV zA);have Tz:=Wp i3 zA;have cp:((nt L).take (k+1)).foldl qj (iP L)=(((nt L).take k).foldl qj (iP L)).set v.toNat (w0+1):=by
           rw[pM,ap,PH];show(((nt L).take k).foldl qj (iP L)).set v.toNat ((((nt L).take k).foldl qj (iP L)).getD v.toNat 0+1)=_;rw[getD_some zA]
          refine gn ?_;refine aJ ?_;refine ae.block ?_;refine rg ?_;refine U V.bf ?_;refine' W.step rfl (Exec.val rfl rfl (ix rfl rfl ?ax (iR (hh rfl) ?ap)) ?_);case ax=>exact qr
          case ap=>exact Fz (j:=k) (x:=v) (by rw[og (by omega)];exact ap) (by omega)
          refine U V.a7 ?_;refine bP ?_;refine aV ?_;refine U V.bf ?_;refine' W.step rfl (Exec.val rfl rfl (ix rfl rfl ?ax (iR (hh rfl) ?ap)) ?_);case ax=>exact qr
          case ap=>exact n3 v.toNat (by rw[gG,zA];rfl) (by omega)
          refine U V.va ?_;refine U V.bf ?_;refine' W.step rfl (.of (jY rfl rfl rfl rfl (h' rfl) rfl rfl rfl ?aa ?al ?au ?_));case au=>repeat first|exact .head _ _ _ _|apply dc.tail|apply dc.app
          case al=>exact pC v.toNat (by omega)
          case aa=>first|rfl|assumption
          refine bu ?_;rw[<-cp];refine rg ?_;refine U V.va ?_;refine U V.az ?_;refine bu ?_;refine e2 (k+1) ?_;exact(by omega)
         ·obtain rfl:k=(rA L).toNat:=by omega
          refine aJ ?_;refine ae.exit ?_;refine'⟨.inl rfl,rfl,_,_,.nil,bV _,⟨Ej,_,by rw[er,jJ];omega,rfl⟩⟩
end
section
variable {Q:db Tryz.prog}{g0:Nat}{J:aA}
end
theorem JO{k:Nat}:gp [.bool false] k=(List.replicate k false).map Value.bool:=by rw[yj,List.map_replicate]
section
variable {Q:db Tryz.prog}{g0:Nat}{B:dO}{o:Oper}{n:Nat}{ds:eQ}{l:List (Nat×Value)}{m:aI}{J:aA}
theorem VK{a:Nat}{cells:List Value}(h:iI m J a cells:=by first|exact .fj (by assumption)|exact .own (by repeat first|exact .head _|refine .tail _ ?_|refine lm _ ?_)|exact .opn (by repeat first|exact .head _|refine .tail _ ?_|refine lm _ ?_)):iI m J a cells:=h
theorem V.bL{t:TypeId}{x:Operand}{a off:Nat}{cells:List Value}{v:Value}(an:o.op=.load t x:=by exact rfl) (I:bW l x=some (.pointer (some ⟨a,off,none⟩)):=by exact rfl) (ax:iI m J a cells:=by exact VK) (ap:lS (a2 Q g0).P t cells off=some v:=by exact iR (hh rfl) (by first|rfl|assumption)):c1 (a2 Q g0) B o n ds l m J (v):=ix an I ax ap
theorem V.qk{t:TypeId}{x:Operand}{a off:Nat}{cells:List Value}{v:Value}(an:o.op=.load t x:=by exact rfl) (I:bW l x=some (.pointer (some ⟨a,off,none⟩)):=by exact rfl) (ax:iI m J a cells:=by exact VK) (ap:lS (a2 Q g0).P t cells off=some v:=by exact v5 (hh rfl) (by first|rfl|assumption)):c1 (a2 Q g0) B o n ds l m J (v):=ix an I ax ap
end
theorem Oh{J:aA}{e n c:Nat}{b:Option Addr}{cr:List (List Int)}(h:fX J e 1 (k3 J) (.slice b n c) cr){i:Int}(bt:0<=i)(ak:i<cr.length):∃a off cells bn r r7 pV,b=some ⟨a,off,none⟩/\J a=some (cells,bn)/\cr[i.toNat]?=some r/\nth cells (off+i.toNat*1)=some (.slice r7 r.length pV)/\ew J (.slice r7 r.length pV) r:=by
 obtain⟨_,h⟩:=h.at;obtain⟨a,off,cells,bn,aa,ab,aK⟩:=h (by omega);obtain⟨r,cs,bh,ff,gz,r7,pV,rfl,ml⟩:=aK i bt ak;exact⟨a,off,cells,bn,r,r7,pV,aa,ab,bh,gz 0 _ (by decide) rfl,ml⟩
theorem ew.rd{g0:Nat}{B:dO}{J:aA}{m:aI}{v:Value}{l:List Int}(h:ew J v l):nb g0 B J m 1 v l.length (l.map (Value.int .i64)):=by
 obtain⟨e,h⟩:=h;exact h.rd
theorem fk.len{hN:List Int->Value->Nat×cI->Prop}{J:aA}{e:TypeId}{v:Value}{cr:List (List Int)}{bs:aI}(h:fk hN J e v cr bs):∃b n c,v=.slice b n c/\n=cr.length:=by
 obtain⟨b,c,h,_⟩:=h.at;exact⟨b,_,c,h,rfl⟩
section
variable {Q:db Tryz.prog}{g0:Nat}{J:aA}
end
theorem ht.check{g:bp}{t:kM}{n:Nat}(h:ht g t.sum t.pl n)(au:rK g=0)(aM:n<=60000)(aa:0<=t.r)(ab:t.r<=1000000)(aK:0<=t.s)(bh:t.s<=2147483646):wW g t=0:=by
 unfold wW;rw[aq (by simp[au])];exact h.valid aM aa ab aK bh
section
variable {Q:db Tryz.prog}{g0:Nat}{J:aA}
end
open Classical in
theorem iu{α:Type}{l r:List α}(h:l.Perm r:=by rw[CY];intro z;simp only[CP,CQ,CR,mB,fb];omega):l.Perm r:=h
def lJ(hN:List Int->Value->Nat×cI->Prop)(cr:List (List Int))(cells:List Value)(bs:aI):Prop:=cells.length=cr.length/\bs.length=cr.length/\∀(j:Nat) l w x,cr[j]?=some l->cells[j]?=some w->bs[j]?=some x->hN l w x
theorem lJ.nil{hN:List Int->Value->Nat×cI->Prop}:lJ hN [] [] []:=⟨rfl,rfl,fun j l w x h=>by cases h⟩
theorem lJ.app{hN:List Int->Value->Nat×cI->Prop}{cr:List (List Int)}{cells:List Value}{bs:aI}{l:List Int}{w:Value}{x:Nat×cI}(h:lJ hN cr cells bs)(I:hN l w x):lJ hN (cr++[l]) (cells++[w]) (bs++[x]):=by
 obtain⟨aa,ab,aK⟩:=h;refine⟨by simp[aa],by simp[ab],fun j l' bb dD b4 bX cg=>?_⟩;rcases Ht b4 with p|⟨dS,ho⟩
 ·have aU:=hH p
  rw[og (by omega)] at bX cg;exact aK j l' bb dD p bX cg
 ·rw[dS,<-aa,pd] at bX
  rw[dS,<-ab,pd] at cg;injection bX with bX;injection cg with cg
  rw[ho,<-bX,<-cg];exact I
theorem lJ.take{hN:List Int->Value->Nat×cI->Prop}{cr:List (List Int)}{cells:List Value}{bs:aI}{i:Nat}{l:List Int}{w:Value}{x:Nat×cI}(h:lJ hN (cr.take i) cells bs)(ay:cr[i]?=some l)(I:hN l w x):lJ hN (cr.take (i+1)) (cells++[w]) (bs++[x]):=by
 rw[pM,ay];exact h.app I
theorem lJ.d2{hN:List Int->Value->Nat×cI->Prop}{cr:List (List Int)}{cells:List Value}{bs:aI}{J:aA}{e:TypeId}{v:Value}(h:lJ hN cr cells bs)(ap:hl J e 1 v cr.length cells):fk hN J e v cr bs:=fk.snoc ap h.2.2 h.2.1
theorem Acc.aeT{w:Value}{k:Nat}{cells:List Value}{aY:aI}{r:List Int}(h:Acc 3 1 w k cells aY)(bC:lI aY)(aM:cE aY)(aH:k=r.length)(av:cells=r.map (Value.int .i64))(aa:1<=r.length):∃x,aY=[x]/\nA r w x:=by
 cases h with
 |nil=>omega
 |lu a=>omega
 |@opn a k cells rest z ay BJ=>
  have:z=0:=bC _ _ _ _ _ (.head _);subst this;subst aH;subst av;exact⟨_,rfl,a,rest,rfl,rfl⟩
 |cap=>exact absurd (List.Mem.head _) (aM _ _ _)
theorem alq:lI []:=fun a c e r z h=>by cases h
theorem afZ:cE []:=fun a c e h=>by cases h
section
variable {Q:db Tryz.prog}{g0:Nat}{J:aA}
end
abbrev c6(g:bp)(aT:Option Addr)(aP:Nat)(bi:Option Addr)(ci:Nat)(dy:Value)(p:Int)(cj cE di a1 c7 dh:Nat)(vs:Value):List Value:=w9 g aT aP bi ci++[dy,.int .i64 p,.slice (some ⟨cj,0,none⟩) cE di,.slice (some ⟨a1,0,none⟩) c7 dh,vs]
theorem ajY{w:List Int}(h:∀v∈w,0<=v){j k:Nat}(SZ:j<=k):(w.take j).sum<=(w.take k).sum:=by
 have e:w.take j=(w.take k).take j:=by rw[uN,k4 SZ]
 rw[e];exact(Jy (l:=w.take k) (fun v ap=>h v (uM ap)) j).2
section
variable {Q:db Tryz.prog}{g0:Nat}{J:aA}
variable {g:bp}{aT bi:Option Addr}{aP ci ac cj cE di a1 c7 dh:Nat}{dy vs:Value}{p:Int}{cells:List Value}{e:TypeId}
theorem ajN{b:Option Addr}{c i:Nat}{w:List Int}{aY:aI}(jP:J cj=some (cells,e))(ak:i<cE)(av:nth cells i=some (.slice b w.length c))(cn:addrEq b b=true)(hw:iH aY J b (hF w))(aa:1<=w.length)(ab:w.length<=1000):
 Fn (a2 Q g0) 25 [.pointer (some ⟨ac,0,none⟩),.int .i64 (i:Int)] ((ac,.row (c6 g aT aP bi ci dy p cj cE di a1 c7 dh vs) 80)::aY) J (fun v m' ag=>v=.int .i64 w.sum/\m'=(ac,.row (c6 g aT aP bi ci dy p cj cE di a1 c7 dh vs) 80)::aY/\ag=J):=by
 have jw:=tv (w:=w);obtain⟨a,off,cl,rfl,mq,fg⟩:=hw (by omega);obtain⟨x,I,gk⟩:=fg ((w.length:Int) -1) (by omega) (by omega);rw[show((w.length:Int) -1).toNat=w.length -1 by omega,KX (by omega),Nat.sub_add_cancel aa,Aw] at I;injection I with I
 subst I;have xg:nth cells (0+((i:Nat):Int).toNat*1)=some (.slice (some ⟨a,off,none⟩) w.length c):=by rw[show 0+((i:Nat):Int).toNat*1=i by omega];exact av
 refine Fn.dw (dB Tryz.func25) rfl rfl fun H=>?_;refine rg ?_;refine U V.a7 ?_;refine bP ?_;refine aV ?_;refine U V.a9 ?_;refine U V.az ?_;refine U V.bf ?_;refine U V.a9 ?_;refine U V.a7 ?_;refine bP ?_;refine aV ?_;refine U V.va ?_;refine U V.bf ?_;refine' W.step rfl (Exec.val rfl rfl (ix rfl rfl ?ax (iR (hh rfl) ?ap)) ?_);case ax=>exact mq.cons
 case ap=>first|rfl|assumption
 refine U V.a7 ?_;refine ns ?_;refine ae.ret ?_;refine'⟨.inr rfl,rfl,_,_,.tmp rfl .nil,bV _,⟨rfl,rfl,rfl⟩⟩
open Classical in
theorem Q6{b:Option Addr}{c i:Nat}{w fA:List Int}{m2:Int}{aY:aI}(jP:J cj=some (cells,e))(ak:i<cE)(pn:i<c7)(av:nth cells i=some (.slice b w.length c))(cn:addrEq b b=true)(hw:iH aY J b (hF w))(aa:1<=w.length)(ab:w.length<=1000)(nT:∀v∈w,0<=v)(zu:fA[i]?=some m2):
 Fn (a2 Q g0) 47 [.pointer (some ⟨ac,0,none⟩),.int .i64 (i:Int)] ((ac,.row (c6 g aT aP bi ci dy p cj cE di a1 c7 dh vs) 80)::(a1,.row (fA.map (Value.int .i64)) 3)::aY) J (fun v m' ag=>v=.int .i64 ((rJ w m2:Nat):Int)/\m'=(ac,.row (c6 g aT aP bi ci dy p cj cE di a1 c7 dh vs) 80)::(a1,.row (fA.map (Value.int .i64)) 3)::aY/\J=ag):=by
 have jw:=tv (w:=w);have xg:nth cells (0+((i:Nat):Int).toNat*1)=some (.slice b w.length c):=by rw[show 0+((i:Nat):Int).toNat*1=i by omega];exact av
 have gk:nth (fA.map (Value.int .i64)) (0+((i:Nat):Int).toNat*1)=some (.int .i64 m2):=n3 i (by rw[gG,zu];rfl) (by omega);refine Fn.dw (dB Tryz.func47) rfl rfl fun H=>?_;refine rg ?_;refine U V.a7 ?_;refine ns ?_;refine ae.draw rfl (by kernel_rfl) (a8:=[.f' 14,.f' 15,.val 0,.val 1,.val 2,.val 3,.val 4,.val 5,.val 6,.val 7,.val 8,.val 9,.val 10,.val 11,.val 12,.val 13,.cv 16,.c9 [13,12,11,10,9,8,7],.cv 17]) (by kernel_rfl) ?_;refine a3.alloc rfl rfl rfl rfl rfl (aly Q g0) rfl rfl rfl fun c2=>?_;refine a3.alloc rfl rfl rfl rfl rfl (JN Q g0) rfl rfl rfl fun cX=>?_;refine cm ?_;refine aB rfl V.a9 ?_;refine aB rfl V.az ?_;refine aB rfl V.bf ?_;refine aB rfl V.a9 ?_;refine cm ?_;refine aB rfl V.a9 ?_;refine aB rfl V.az ?_;refine aB rfl V.bf ?_;refine aB rfl V.a9 ?_;refine m6 rfl ?_;refine a3.c9 g7 ?_;refine m6 rfl ?_;refine a3.nil ?_;refine rg ?_;refine U V.a9 ?_;refine U V.cr ?_;refine U V.va ?_;rw[show(w.length:Int) -1=((w.length -1:Nat):Int) by omega];refine U V.fn ?_;refine' W.step rfl (Exec.call rfl rfl rfl rfl rfl rfl rfl (a4:=(c2,.row [.slice b w.length c] 22)::(cX,.row [.int .i64 m2] 3)::aY) (b2:=[(ac,.row (c6 g aT aP bi ci dy p cj cE di a1 c7 dh vs) 80),(a1,.row (fA.map (Value.int .i64)) 3)]) (iu (r:=(cX,.row [.int .i64 m2] 3)::(c2,.row [.slice b w.length c] 22)::(ac,.row (c6 g aT aP bi ci dy p cj cE di a1 c7 dh vs) 80)::(a1,.row (fA.map (Value.int .i64)) 3)::aY)) trivial (aiK (P:=fun k=>decide (m2<(w.take (k+1)).sum)) (by omega) (fun k aH=>Zf hw (by omega)) (fun j k SZ aH au=>by have:=ajY nT (j:=j+1) (k:=k+1) (by omega);have au:=B7 au;exact o8 (by omega))) ?_);rintro v m' ag hle ⟨rfl,rfl,rfl⟩
 refine U V.a7 ?_;refine bu ?_;refine ae.gZ (m':=[(ac,.row (c6 g aT aP bi ci dy p cj cE di a1 c7 dh vs) 80),(a1,.row (fA.map (Value.int .i64)) 3)]++(aY++[(c2,.row [.slice b w.length c] 22),(cX,.row [.int .i64 m2] 3)])) (iu (r:=((c2,.row [.slice b w.length c] 22)::(cX,.row [.int .i64 m2] 3)::aY)++[(ac,.row (c6 g aT aP bi ci dy p cj cE di a1 c7 dh vs) 80),(a1,.row (fA.map (Value.int .i64)) 3)])) ?_;refine aJ ?_;refine ae.ret ?_;refine'⟨.inr rfl,rfl,_,_,.tmp rfl .nil,(show((ac,.row (c6 g aT aP bi ci dy p cj cE di a1 c7 dh vs) 80)::(a1,.row (fA.map (Value.int .i64)) 3)::aY:aI).Sublist _ from .cons_cons _ (.cons_cons _ (oh _ _))),⟨rfl,rfl,rfl⟩⟩
open Classical in
theorem ak8{ad ja G5 ca i:Nat}{W O:List Int}(jP:J cj=some (cells,e))(ak:g.ns.length+i<cE)(av:nth cells (g.ns.length+i)=some (.slice (some ⟨ad,0,none⟩) W.length G5))(za:O.length=W.length)(aM:W.length<=1000)(BF:∀k,k<=W.length->-1000000000000<=(W.take k).sum/\(W.take k).sum<=1000000000000)(lj:addrEq aT aT=true)(Bs:g.ns.length<=1000000)(SV:i<=1000000):
 Fn (a2 Q g0) 41 [.pointer (some ⟨ac,0,none⟩),.int .i64 (i:Int),.slice (some ⟨ja,0,none⟩) W.length ca] [(ac,.row (c6 g aT aP bi ci dy p cj cE di a1 c7 dh vs) 80),(ad,.row (O.map (Value.int .i64)) 3),(ja,.row (W.map (Value.int .i64)) 3)] J (fun v m' ag=>m'=[(ad,.row ((hF W).map (Value.int .i64)) 3),(ja,.row (W.map (Value.int .i64)) 3),(ac,.row (c6 g aT aP bi ci dy p cj cE di a1 c7 dh vs) 80)]/\J=ag):=by
 have xg:nth cells (0+((g.ns.length:Int)+(i:Int)).toNat*1)=some (.slice (some ⟨ad,0,none⟩) W.length G5):=by rw[show 0+((g.ns.length:Int)+(i:Int)).toNat*1=g.ns.length+i by omega];exact av
 refine Fn.dw (dB Tryz.func41) rfl rfl fun H=>?_;refine aJ ?_;refine ae.draw rfl (by kernel_rfl) (a8:=[.val 0,.val 1,.val 2,.val 3,.val 4,.val 5,.val 6,.val 7,.val 8,.val 9,.val 10,.val 11,.val 12,.val 13,.val 14,.cv 15]) (by kernel_rfl) ?_;refine cm ?_;refine aB rfl V.a9 ?_;refine cm ?_;refine aB rfl V.a9 ?_;refine cm ?_;refine aB rfl V.va ?_;refine aB rfl V.bf ?_;refine aB rfl V.a9 ?_;refine aB rfl V.az ?_;refine' a3.call rfl rfl rfl rfl rfl rfl rfl rfl rfl rfl (a4:=[(ad,.row (O.map (Value.int .i64)) 3),(ja,.row (W.map (Value.int .i64)) 3)]) (b2:=[(ac,.row (c6 g aT aP bi ci dy p cj cE di a1 c7 dh vs) 80)]) (iu (r:=[(ac,.row (c6 g aT aP bi ci dy p cj cE di a1 c7 dh vs) 80),(ad,.row (O.map (Value.int .i64)) 3),(ja,.row (W.map (Value.int .i64)) 3)])) trivial (Qf (by simp[addrEq]) (iH.own (.head _)) (by omega) za BF) ?_;rintro v m' ag hle ⟨rfl,rfl⟩;refine a3.nil ?_;refine'⟨.inl rfl,rfl,_,_,.nil,bV _,⟨rfl,rfl⟩⟩
end
end
end Go.Opn
