/- A part of the proof of ResumeBack. -/
import Derived.Test.YtiemfjdacfioeaaGreatDoorCbt
import Derived.Test.YtiemfjdacfioeaaGreatDoorCbm
import Derived.Test.YtiemfjdacfioeaaGreatDoorCbg
set_option maxRecDepth 100000
set_option maxHeartbeats 8000000
set_option linter.unusedVariables false
set_option linter.unusedSimpArgs false
namespace Go.Opn
noncomputable section
open Go.Cre Go.RowKit Go.Proofs
theorem take_set{α:Type}{vs Z:List α}{i:Nat}{v:α}(av:Z.length=vs.length)(az:vs[i]?=some v):(vs.take i++Z.drop i).set i v=vs.take (i+1)++Z.drop (i+1):=by
 have ao:=(dX.1 az).1;have e:Z.drop i=Z[i]::Z.drop (i+1):=mO (by omega);rw[e,nS,az,aaK _ _ (by rw[h1];omega),h1,show i -min i vs.length=0 by omega];rw[List.set_cons_zero,Sv,gH];rfl
theorem amr{α:Type}{d:List α}{x w:α}{i n:Nat}(aZ:d.length=i)(ao:i<n):(d++List.replicate (n -i) x).set i w=(d++[w])++List.replicate (n -(i+1)) x:=by
 rw[show n -i=(n -(i+1))+1 by omega,List.replicate_succ,aaK _ _ (by omega),aZ,tb];simp
theorem amq{α:Type}{d:List α}{x:α}{i n:Nat}(aZ:d.length=i):(d++List.replicate (n -i) x).length=i+(n -i):=by rw[dv,qU,aZ]
theorem XG{l:List Int}{i:Nat}:fS l=fS (l.take i)++fS (l.drop i):=by
 conv=>lhs;rw[<-Mu i l]
 unfold fS;rw[Jm]
theorem adU{l:List Int}{i:Nat}{v:Int}(h:l[i]?=some v):l.drop i=v::l.drop (i+1):=by
 have ao:=(dX.1 h).1;rw[mO ao];rw[de ao] at h;injection h with h;rw[h]
section
variable {Q:dI Tryz.prog}{g0:Nat}{J:aI}
open Classical in
theorem ak3{ac cg a:Nat}{s r:List UInt8}{vs Z:List Int}{lw dE:Int}(h:s.drop a=fS vs++10::r)(a':a<=s.length)(af:s.length<=100000)(Ot:Z.length=vs.length)(az:∀v∈vs,lw<=v/\v<=dE)(av:-70368744177664<=lw)(VE:dE<=70368744177664)(hlen:vs.length<=1000):Fn (bb Q g0) 46 [fi ac,.slice (some ⟨cg,0,none⟩) vs.length vs.length,.int .i64 lw,.int .i64 dE] [eI ac s a,(cg,.row (Z.map (Value.int .i64)) 3)] J (fun u m' ag=>m'=[eI ac s (a+(fS vs).length+1),(cg,.row (vs.map (Value.int .i64)) 3)]/\J=ag):=by
 have vE:=J1 h a';rw[iQ] at vE;refine Fn.cH (cQ Tryz.func46) rfl rfl fun H=>?_;refine rg ?_;refine aM ?_;refine ns ?_;refine ab.block ?_;refine' ab.c2 (l':=[(11,.int .i64 ((0):Int)),(0,_),(1,_),(2,_),(3,_),(10,_)]) ⟨?yb,rfl,rfl,rfl,rfl,rfl,trivial⟩ (bA _) ?_;case yb=>exact bS
 refine aj ?_;refine' ab.dF (fun(i:Nat)=>⟨[(11,.int .i64 (i:Int))],[eI ac s (a+(fS (vs.take i)).length),(cg,.row ((vs.take i++Z.drop i).map (Value.int .i64)) 3)],J,i<=vs.length,vs.length -i⟩) (0) ?af ?bE;case af=>exact cB _
 case bE=>
  rintro i hinv;try simp only at hinv
  have ao:=hinv;have lb:=XG (l:=vs) (i:=i);have HG:=cC List.length lb;rw[dv] at HG;have bD:=oH (w:=fS (vs.take i)) (r:=fS (vs.drop i)++10::r) (by rw[h,lb,gH]);refine rg ?_;refine I V.a1 ?_;refine ns ?_;refine If (fun F5=>?_) fun F5=>?_
  ·obtain⟨v,lF⟩:∃v,vs[i]?=some v:=⟨_,de (by omega)⟩;have zm:=az v (cd lF);rw[adU lF,ak2,gH] at bD;have aa:=oH (w:=[32]) (r:=Lib.itoa v++(fS (vs.drop (i+1))++10::r)) bD;have e0:=cC List.length (XE lF);rw[dv,iQ] at e0;have ai':=cC List.length (XG (l:=vs) (i:=i+1));rw[dv] at ai';refine c5 ?_;refine aj ?_;refine ab.block ?_;refine rg ?_;refine aM ?_;refine bj ?_;refine I V.ah ?_;refine' W.step rfl (Exec.call rfl rfl rfl rfl rfl rfl rfl (bh:=[eI ac s (a+(fS (vs.take i)).length)]) (bW:=[(cg,_)]) (.refl _) trivial (NF (w:=[32]) bD (by omega) af) ?_);rintro v' m' ag hle ⟨rfl,rfl⟩;refine bj ?_;refine aM ?_;refine' W.step rfl (Exec.call rfl rfl rfl rfl rfl rfl rfl (bh:=[eI ac s (a+(fS (vs.take i)).length+[(32:UInt8)].length)]) (bW:=[(cg,_)]) (.refl _) trivial (XH aa (by simp;omega) af akU zm.1 zm.2 (by omega)) ?_);rintro v' m' ag hle ⟨rfl,rfl,rfl⟩;refine I V.aX ?_;refine' W.step rfl (.of (hz rfl rfl rfl rfl (fY rfl) rfl rfl rfl ?aa ?af ?aw ?_));case aw=>repeat first|exact .head _ _ _ _|apply cR.tail|apply cR.app
   case af=>exact jo i (by simp;omega)
   case aa=>first|rfl|assumption
   refine a8 ?_;rw[take_set Ot lF,show a+(fS (vs.take i)).length+[(32:UInt8)].length+(Lib.itoa v).length=a+(fS (vs.take (i+1))).length by rw[e0];simp;omega];refine rg ?_;refine I V.bx ?_;refine I V.ah ?_;refine a8 ?_;refine cA (i+1) ?_;exact(by omega)
  ·obtain rfl:i=vs.length:=by omega
   rw[List.drop_length,qV] at bD;rw[qV,wm (by omega),gg];refine aj ?_;refine ab.exit ?_;refine rg ?_;refine I V.ah ?_;refine' W.step rfl (Exec.call rfl rfl rfl rfl rfl rfl rfl (bh:=[eI ac s (a+(fS vs).length)]) (bW:=[(cg,_)]) (.refl _) trivial (NF (w:=[10]) (r:=r) bD (by omega) af) ?_);rintro v' m' ag hle ⟨rfl,rfl⟩;refine a8 ?_;refine'⟨.inl rfl,rfl,_,_,.nil,bA _,⟨rfl,rfl⟩⟩
open Classical in
theorem S9{g:bz}{aT aL:Option Addr}{aQ ci:Nat}(hw:iP g)(aq:fG J g aT aQ aL ci):
 Fn (bb Q g0) 43 [hc g aT aQ aL ci] [] J (fun u m' ag=>J.le ag/\∃bo bs,m'=dm bo g aT aQ aL ci::bs/\eK h0 ag 22 u (jb g) bs):=by
 have fW:addrEq aL aL=true:=aq.i.addr;have gn:addrEq aT aT=true:=aq.n.addr;obtain⟨_,kt⟩:=aq.i.at;have sA:=hw.i2;refine Fn.cH (cQ Tryz.func43) rfl rfl fun H=>?_;refine rg ?_;refine dJ fun bo=>?_;refine I V.aA ?_;refine bj ?_;refine I V.bc ?_;refine I V.bO ?_;refine I V.bP ?_;refine' W.step rfl (.of (pT rfl rfl rfl rfl rfl (nl Q g0) ?bD ?aa ?ae fun a9=>?_));case bD=>exact cf
 case aa=>exact cf
 case ae=>exact cf
 refine I V.aA ?_;refine a8 ?_;rw[CB,cy];refine rg ?_;refine I V.bc ?_;refine I V.bO ?_;refine aM ?_;refine ns ?_;refine ab.block ?_;refine' ab.c2 (l':=[(13,.int .i64 ((0):Int)),(3,_),(11,_),(12,_)]) ⟨?rY,rfl,rfl,rfl,trivial⟩ (bA _) ?_;case rY=>exact bS
 refine aj ?_;refine' ab.dF (fun(bH:Nat×(List Value)×aO)=>match bH with|(i,d,bs)=>⟨[(13,.int .i64 (i:Int))],(a9,.row (d++List.replicate (g.is.length -i) (.slice none 0 0)) 22)::(bs++[dm bo g aT aQ aL ci]),J,i<=g.is.length/\oo h0 ((jb g).take i) d bs,g.is.length -i⟩) ⟨0,[],[]⟩ ?af ?bE
 case af=>exact⟨cB _,oo.nil⟩
 case bE=>
  rintro⟨i,d,bs⟩ hinv;try simp only at hinv
  obtain⟨ao,cY⟩:=hinv;refine rg ?_;refine I V.a1 ?_;refine ns ?_;refine If (fun ly=>?_) fun ly=>?_
  ·obtain⟨ha,jk,vf,vm,rfl,mu,lZ⟩:=kt (by omega);obtain⟨y,wT,ai,tU,l1,rfl⟩:=lZ i (by omega) (by omega);rw[cy] at ai;have ajx:=hw.yC y (cd ai);have vE:d.length=i:=by rw[cY.1,h1,wc];omega
   refine c5 ?_;refine aj ?_;refine ab.block ?_;refine rg ?_;refine I V.ah ?_;refine I V.aX ?_;refine I V.gW ?_;refine' W.step rfl (.of (e4 rfl rfl rfl (aai Q g0) rfl rfl rfl fun a5=>?_));refine I V.aA ?_;refine dN ?_;refine bj ?_;refine aM ?_;refine I V.bO ?_;refine' W.step rfl (.of (pT rfl rfl rfl rfl rfl (eX Q g0) ?bD ?aa ?ae fun a22=>?_));case bD=>exact cf
   case aa=>exact cf
   case ae=>exact cf
   refine I V.aX ?_;refine' W.step rfl (.of (hz rfl rfl rfl rfl (fY rfl) rfl rfl rfl ?aa ?af ?aw ?_));case aw=>repeat first|exact .head _ _ _ _|apply cR.tail|apply cR.app
   case af=>exact Y' i (by rw[amq vE];omega)
   case aa=>first|rfl|assumption
   refine a8 ?_;rw[yi,amr vE (by omega)];refine ab.eF (m':=(a9,.row ((d++[.slice (some ⟨a22,0,none⟩) y.2.toNat y.2.toNat])++List.replicate (g.is.length -(i+1)) (.slice none 0 0)) 22)::((bs++[(a22,.row ((List.replicate y.2.toNat 0).map (Value.int .i64)) 3)])++[dm bo g aT aQ (some ⟨ha,jk,none⟩) ci])) (iy:=[(a5,.row [.int .i64 y.1,.int .i64 y.2] 77)]) jm ?_;refine rg ?_;refine I V.bx ?_;refine I V.ah ?_;refine a8 ?_;refine cA ⟨i+1,d++[.slice (some ⟨a22,0,none⟩) y.2.toNat y.2.toNat],bs++[(a22,.row ((List.replicate y.2.toNat 0).map (Value.int .i64)) 3)]⟩ ?_;exact⟨by omega,cY.take (RM ai) ⟨a22,by rw[qU],by rw[qU];exact wu (show y.2.toNat<=100 by omega) (by decide),rfl⟩⟩
  ·refine aj ?_;refine ab.exit ?_;obtain rfl:i=g.is.length:=by omega
   have j8:=wc (g:=g);refine ab.gB (m':=(a9,.row d 22)::(bs++[dm bo g aT aQ aL ci])) (by show List.Perm _ ((a9,.row (d++List.replicate (g.is.length -g.is.length) (.slice none 0 0)) 22)::(bs++[dm bo g aT aQ aL ci]));rw[tb,List.replicate_zero,gg]) ?_;rw[et (by omega)] at cY;refine ab.mD rfl fun cE=>?_;refine ab.gB (m':=dm bo g aT aQ aL ci::bs) Ya ?_;refine rg ?_;refine aM ?_;refine ns ?_;refine ab.ret ?_;refine'⟨.inr rfl,rfl,_,_,.tmp rfl .nil,bA _,?_⟩;refine⟨cE,bo,bs,rfl,cY.d2 ?_⟩;have vE:d.length=g.is.length:=by rw[cY.1,wc]
   rw[wc];exact .row (aI.oy J a9 (d,22)) (by rw[mP,et (by omega)]) (by omega) (fun _=>⟨cZ _,wu sA (by decide)⟩) (fun _=>rfl)
open Classical in
theorem aog{g:bz}{aT aL:Option Addr}{aQ ci:Nat}(hw:iP g)(aq:fG J g aT aQ aL ci)(aw:kc g=0):
 Fn (bb Q g0) 23 [hc g aT aQ aL ci] [] J (fun u m' ag=>J.le ag/\∃bm fA bt bl z2 bw s1 s2,fA=g.is.length/\z2=g.is.length/\u=.tuple #[.agg #[.int .i64 0,.int .i64 0,.slice bm fA bt,.slice bl z2 bw],.int .i64 0]/\m'=s1++s2/\eK h0 ag 22 (.slice bm fA bt) (jb g) s1/\eK h0 ag 22 (.slice bl z2 bw) (jb g) s2):=by
 have fW:addrEq aL aL=true:=aq.i.addr;have gn:addrEq aT aT=true:=aq.n.addr;refine Fn.cH (cQ Tryz.func23) rfl rfl fun H=>?_;refine rg ?_;refine dJ fun bo=>?_;refine' W.step rfl (.of (e4 rfl rfl rfl (ln Q g0) rfl rfl rfl fun a2=>?_));refine I V.aA ?_;refine bj ?_;refine I V.c8 ?_;refine cl (G:=Yi aq) (h:=?_);rintro v m' dQ ck ⟨rfl,rfl,_⟩;refine I V.aA ?_;refine bj ?_;refine I V.ah ?_;refine I V.a1 ?_;refine ns ?_;refine If (fun mj=>?_) fun mj=>?_
 ·exfalso;exact mj aw
 ·refine aj ?_;refine ab.skip ?_;refine aj ?_;refine ab.draw rfl (by kernel_rfl) (bf:=[.val 0,.val 2,.bV 1,.cF [2],.bV 3,.val 4,.bV 5,.val 6]) (by kernel_rfl) ?_;refine an rfl V.c8 ?_;refine an rfl V.c8 ?_;refine a7.Is ?_;refine' f'.yQ rfl rfl rfl rfl rfl rfl rfl rfl rfl (fun x U=>by cases U) Al (S9 hw (aq.mono ck)) ?_;rintro v m' eZ cE ⟨_,hj,s1,rfl,gU⟩;obtain⟨bm,fA,bt,rfl,zq⟩:=gU.len;refine f'.cF fC ?_;refine' f'.yQ rfl rfl rfl rfl rfl rfl rfl rfl rfl (fun x U=>by rcases fg.1 U with rfl|U;rfl;cases U) Al (S9 hw ((aq.mono ck).mono cE)) ?_;rintro v m' kh dV ⟨_,ig,s2,rfl,jh⟩;obtain⟨bl,z2,bw,rfl,lc⟩:=jh.len;rw[wc] at zq lc;refine f'.Ir (fun x U=>Jp (f:=fun x=>(x.f,x.b6)) U) ?_;refine an rfl V.jL ?_;refine kW rfl ?_;refine an rfl V.aA ?_;refine a7.nil ?_;refine ab.eF (m':=(s1++s2)++[(a2,.row [.int .i64 0,.int .i64 0,.slice bm fA bt,.slice bl z2 bw] 30),dm bo g aT aQ aL ci]) (iy:=[dm ig g aT aQ aL ci,dm hj g aT aQ aL ci]) (jm (r:=(dm ig g aT aQ aL ci::s2)++((dm hj g aT aQ aL ci::s1)++[(a2,.row [.int .i64 0,.int .i64 0,.slice bm fA bt,.slice bl z2 bw] 30),dm bo g aT aQ aL ci]))) ?_;refine aj ?_;refine ab.ret ?_;refine'⟨.inr rfl,rfl,_,_,.cell rfl (by repeat first|exact .head _|refine .tail _ ?_|refine h2 _ ?_) (l8 (eV rfl) rfl) (.tmp rfl .nil),pZ _ _,⟨ck.trans (cE.trans dV),bm,fA,bt,bl,z2,bw,s1,s2,zq,lc,rfl,rfl,gU.mono dV,jh⟩⟩
end
end
end Go.Opn
set_option maxHeartbeats 4000000
namespace Go.Opn
noncomputable section
open Go.Cre Go.RowKit Go.Proofs
section
variable {Q:dI Tryz.prog}{g0:Nat}{J:aI}
end
abbrev qC(df:Nat)(p:Option Addr)(w:Value):Nat×cK:=(df,.row [.pointer p,w] 60)
def nU(df:Nat)(bs:List UInt8)(m:aO):Prop:=∃p w aY,m=qC df p w::aY/\(p=none\/p=some ⟨df,0,none⟩)/\Acc 5 1 w bs.length (bs.map tm) aY/\my aY
theorem abE(s:List UInt8):(s.map tm).all eQ=true:=by
 induction s with
 |nil=>rfl
 |cons x r aK=>simp only[nR,r1,aK,wh];rfl
theorem abD(s:List UInt8):(s.map tm).length=s.length*1:=by simp
section
variable {Q:dI Tryz.prog}{g0:Nat}{J:aI}
theorem acL{df:Nat}{w:Value}(hw:eQ w=true):
 Fn (bb Q g0) 65 [.pointer (some ⟨df,0,none⟩)] [qC df none w] J (fun _ m' ag=>J=ag/\m'=[qC df (some ⟨df,0,none⟩) w]):=by
 refine Fn.cH (cQ Tryz.func65) rfl rfl fun H=>?_;refine rg ?_;refine aM ?_;refine I V.aF ?_;refine' W.step rfl (Exec.val rfl rfl (ZL rfl rfl rfl (by kernel_rfl) (.inl ⟨rfl,rfl⟩)) ?_);refine ns ?_;refine If (fun p4=>?_) fun p4=>?_
 ·refine rg ?_;refine aM ?_;refine' W.step rfl (Exec.val rfl rfl (aoR rfl rfl (by kernel_rfl) ?ay ?av) ?_);case ay=>exact qr
  case av=>rfl
  refine cl (G:=Fn.same (cQ Tryz.func86) rfl rfl rfl rfl) (h:=?_);rintro v m' ag hle ⟨rfl,rfl,rfl⟩;refine' W.step rfl (Exec.val rfl rfl (aoM rfl rfl ?ay (by kernel_rfl)) ?_);case ay=>repeat first|exact .head _|refine .tail _ ?_|refine h2 _ ?_
  refine aM ?_;refine dN ?_;refine a8 ?_;refine'⟨.inl rfl,rfl,_,_,.nil,bA _,⟨rfl,rfl⟩⟩
 ·exfalso;simp at p4
theorem acM{df:Nat}{w:Value}(hw:eQ w=true):
 Fn (bb Q g0) 65 [.pointer (some ⟨df,0,none⟩)] [qC df (some ⟨df,0,none⟩) w] J (fun _ m' ag=>J=ag/\m'=[qC df (some ⟨df,0,none⟩) w]):=by
 refine Fn.cH (cQ Tryz.func65) rfl rfl fun H=>?_;refine rg ?_;refine aM ?_;refine I V.aF ?_;refine' W.step rfl (Exec.val rfl rfl (ZL rfl rfl rfl (by kernel_rfl) (.inl ⟨rfl,rfl⟩)) ?_);refine ns ?_;refine If (fun p4=>?_) fun p4=>?_
 ·exfalso;simp at p4
 ·refine rg ?_;refine aM ?_;refine I V.aF ?_;refine I V.ah ?_;refine' W.step rfl (Exec.val rfl rfl (aoO rfl rfl rfl (by kernel_rfl) (.inr ⟨rfl,rfl⟩)) ?_);refine ns ?_;refine If (fun hB=>?_) fun hB=>?_
  ·exfalso;simp at hB
  ·refine aj ?_;refine ab.skip ?_;refine'⟨.inl rfl,rfl,_,_,.nil,bA _,⟨rfl,rfl⟩⟩
theorem TS{df:Nat}{p:Option Addr}{w:Value}(aw:p=none\/p=some ⟨df,0,none⟩)(hw:eQ w=true):
 Fn (bb Q g0) 65 [.pointer (some ⟨df,0,none⟩)] [qC df p w] J (fun _ m' ag=>J=ag/\m'=[qC df (some ⟨df,0,none⟩) w]):=by
 rcases aw with rfl|rfl
 ·exact acL hw
 ·exact acM hw
theorem aac{df:Nat}{bs s:List UInt8}{m:aO}(uc:nU df bs m)(av:bs.length+s.length<=1000000):
 Fn (bb Q g0) 40 [.pointer (some ⟨df,0,none⟩),.string ⟨⟨s⟩⟩] m J (fun _ m' ag=>J=ag/\nU df (bs++s) m'):=by
 obtain⟨p,w,aY,rfl,aw,cw,aP⟩:=uc;obtain⟨b,c,rfl⟩:=cw.form;refine Fn.cH (cQ Tryz.func40) rfl rfl fun H=>?_;refine rg ?_;refine aM ?_;refine bj ?_;refine I V.ah ?_;refine' W.step rfl (Exec.call rfl rfl rfl rfl rfl rfl rfl (bh:=[qC df _ _]) (bW:=aY) (.refl _) trivial (TS aw rfl) ?_);rintro v m' ag hle ⟨rfl,rfl⟩;refine bj ?_;refine aM ?_;refine I V.aF ?_;refine I V.ah ?_;refine' W.step rfl (.of (Ai rfl rfl rfl rfl rfl rfl (Q6 Q g0) (aor Q g0) (fun i q=>by cases q) ?cw ?hm ?U ?cr ?cc ?av fun Cw Xh G5 PV=>?_));case cw=>assumption
 case hm=>exact hR (l₁:=[_])
 case U=>exact hP
 case cr=>exact abD _
 case cc=>exact abE _
 case av=>exact cf
 obtain⟨abj,ly,rfl⟩:=G5.form;refine aM ?_;refine dN ?_;refine a8 ?_;refine ab.gB (hR (l₁:=[_])) ?_;refine rg ?_;refine aM ?_;refine ns ?_;refine ab.ret ?_;refine'⟨.inr rfl,rfl,_,_,.tmp rfl (.tmp rfl .nil),bA _,⟨rfl,_,_,_,rfl,.inr rfl,by rw[dv,Ms];exact G5,PV.2 aP⟩⟩
theorem aaa{df:Nat}{bs:List UInt8}{x:UInt8}{m:aO}(uc:nU df bs m)(av:bs.length+1<=1000000):
 Fn (bb Q g0) 41 [.pointer (some ⟨df,0,none⟩),.int .u8 x.toNat] m J (fun _ m' ag=>J=ag/\nU df (bs++[x]) m'):=by
 obtain⟨p,w,aY,rfl,aw,cw,aP⟩:=uc;obtain⟨b,c,rfl⟩:=cw.form;refine Fn.cH (cQ Tryz.func41) rfl rfl fun H=>?_;refine rg ?_;refine I V.aA ?_;refine bj ?_;refine I V.ah ?_;refine' W.step rfl (Exec.call rfl rfl rfl rfl rfl rfl rfl (bh:=[qC df _ _]) (bW:=aY) (.refl _) trivial (TS aw rfl) ?_);rintro v m' ag hle ⟨rfl,rfl⟩;refine bj ?_;refine aM ?_;refine I V.aF ?_;refine I V.ah ?_;refine jw (Q6 Q g0) fun yA=>?_;refine' W.step rfl (.of (Ai rfl rfl rfl rfl rfl rfl (Q6 Q g0) (aoo Q g0) (fun i q=>by cases q) ?cw ?hm ?U ?cr ?cc ?av fun Cw Xh G5 PV=>?_));case cw=>assumption
 case hm=>exact hR (l₁:=[_,_])
 case U=>exact hP
 case cr=>first|rfl|(simp;done)|(simp;omega)
 case cc=>first|rfl|exact hg _
 case av=>exact cf
 obtain⟨abj,ly,rfl⟩:=G5.form;refine aM ?_;refine dN ?_;refine a8 ?_;refine ab.gB (m':=qC df _ _::(_,_)::Xh) ((List.Perm.swap _ _ _).trans (hR (l₁:=[_,_]))) ?_;refine rg ?_;refine I V.aA ?_;refine ns ?_;refine ab.ret ?_;refine'⟨.inr rfl,rfl,_,qC df _ _::_,.tmp rfl .nil,.cons_cons _ (.cons _ (.refl _)),⟨rfl,_,_,_,rfl,.inr rfl,by rw[dv,Ms];exact G5,PV.2 aP⟩⟩
theorem Cy{df:Nat}{bs s:List UInt8}{m:aO}(uc:nU df bs m)(av:bs.length+s.length<=1000000):
 Fn (bb Q g0) 19 [.pointer (some ⟨df,0,none⟩),.string ⟨⟨s⟩⟩] m J (fun u m' ag=>u=.pointer (some ⟨df,0,none⟩)/\J=ag/\nU df (bs++s) m'):=by
 refine Fn.cH (cQ Tryz.func19) rfl rfl fun H=>?_;refine rg ?_;refine I V.aA ?_;refine bj ?_;refine aM ?_;refine' W.step rfl (Exec.call rfl rfl rfl rfl rfl rfl rfl (bh:=m) (bW:=[]) (by rw[gg]) trivial (aac uc av) ?_);rintro v m1 ag hle ⟨rfl,Bu⟩;rw[gg];refine bj ?_;refine aM ?_;refine ns ?_;refine ab.ret ?_;refine'⟨.inr rfl,rfl,_,m1,.tmp rfl .nil,bA _,⟨rfl,rfl,Bu⟩⟩
theorem Du{df:Nat}{bs:List UInt8}{m:aO}(uc:nU df bs m)(av:bs.length+1<=1000000):
 Fn (bb Q g0) 20 [.pointer (some ⟨df,0,none⟩)] m J (fun _ m' ag=>J=ag/\nU df (bs++[10]) m'):=by
 refine Fn.cH (cQ Tryz.func20) rfl rfl fun H=>?_;refine rg ?_;refine aM ?_;refine' W.step rfl (Exec.call rfl rfl rfl rfl rfl rfl rfl (bh:=m) (bW:=[]) (by rw[gg]) trivial (aaa (x:=10) uc av) ?_);rintro v m1 ag hle ⟨rfl,Bu⟩;rw[gg];refine a8 ?_;refine'⟨.inl rfl,rfl,_,m1,.nil,bA _,⟨rfl,Bu⟩⟩
end
def Jj(Q:dI Tryz.prog)(g0:Nat):Prop:=∀(n:Int) (J:aI),-9223372036854775808<=n->n<=9223372036854775807->Fn (bb Q g0) 42 [.int .i64 n] [] J (Mz (.string ⟨⟨Lib.itoa n⟩⟩) J)
section
variable {Q:dI Tryz.prog}{g0:Nat}{J:aI}
theorem EN(t':Jj Q g0){df:Nat}{bs:List UInt8}{m aY:aO}{b:Option Addr}{c:Nat}{l:List Int}(uc:nU df bs m)(av:jJ aY J b l)(aP:l.length<=1000)(U:∀x∈l,-9223372036854775808<=x/\x<=9223372036854775807)(au:bs.length+22*l.length<=1000000):
 Fn (bb Q g0) 21 [.pointer (some ⟨df,0,none⟩),.slice b l.length c] (m++aY) J (fun u m' ag=>u=.pointer (some ⟨df,0,none⟩)/\J=ag/\nU df (bs++fS l) m'):=by
 refine Fn.cH (cQ Tryz.func21) rfl rfl fun H=>?_;refine rg ?_;refine I V.aA ?_;refine bj ?_;refine aM ?_;refine ns ?_;refine ab.block ?_;refine' ab.c2 (l':=[(9,.int .i64 ((0):Int)),(0,_),(7,_),(8,_)]) ⟨?pS,rfl,rfl,rfl,trivial⟩ (bA _) ?_;case pS=>exact bS
 refine aj ?_;refine' ab.dF (fun(bH:Nat×aO)=>match bH with|(i,bh)=>⟨[(9,.int .i64 (i:Int))],bh++aY,J,i<=l.length/\nU df (bs++fS (l.take i)) bh,l.length -i⟩) ⟨0,m⟩ ?af ?bE
 case af=>exact⟨cB _,by simpa[fS] using uc⟩
 case bE=>
  rintro⟨i,bh⟩ hinv;try simp only at hinv
  obtain⟨ao,Pw⟩:=hinv;refine rg ?_;refine I V.a1 ?_;refine ns ?_;refine If (fun eE=>?_) fun eE=>?_
  ·obtain⟨a,off,cells,rfl,k9,ec⟩:=av (by omega);obtain⟨x,iw,e0⟩:=ec i (by omega) (by omega);rw[cy] at iw;have HP:=U x (cd iw);have kP:=Lib.itoa_length_le x HP.1 HP.2;have hlen:(fS (l.take i)).length<=22*i:=by
    have:=XD (l:=l.take i) fun x h=>U x (Sk h);rw[h1] at this;omega
   refine c5 ?_;refine aj ?_;refine ab.block ?_;refine rg ?_;refine I V.aX ?_;refine' W.step rfl (Exec.val rfl rfl (gY rfl rfl ?ay (hp (eV rfl) ?az)) ?_);case ay=>exact k9.sub (fun _ q=>h2 _ q)
   case az=>first|rfl|assumption
   refine I V.aA ?_;refine bj ?_;refine aM ?_;refine' W.step rfl (Exec.call rfl rfl rfl rfl rfl rfl rfl (bh:=bh) (bW:=aY) (.refl _) trivial (aaa (x:=32) Pw (by rw[dv];omega)) ?_);rintro v m1 ag hle ⟨rfl,Bu⟩;refine ns ?_;refine ab.draw rfl (by kernel_rfl) (bf:=[.val 0,.val 1,.val 2,.val 3,.bV 4,.cF [2,1,0],.bV 5]) (by kernel_rfl) ?_;refine cq ?_;refine dl rfl (G:=t' x _ HP.1 HP.2) (h:=?_);rintro v m' ag hle ⟨rfl,rfl,rfl⟩;refine a7.cF fC ?_;refine' a7.call rfl rfl rfl rfl rfl rfl rfl rfl rfl rfl (bh:=m1) (bW:=aY) (.refl _) trivial (aac Bu (by rw[dv,dv,s'];omega)) ?_;rintro v m2 ag hle ⟨rfl,Pu⟩;refine a7.nil ?_;refine rg ?_;refine I V.bx ?_;refine I V.ah ?_;refine a8 ?_;refine cA ⟨i+1,m2⟩ ?_;exact⟨by omega,by rw[XE iw];simpa using Pu⟩
  ·refine aj ?_;refine ab.exit ?_;rw[et (by omega)] at Pw;refine rg ?_;refine aM ?_;refine ns ?_;refine ab.ret ?_;refine'⟨.inr rfl,rfl,_,bh,.tmp rfl .nil,pZ _ _,⟨rfl,rfl,Pw⟩⟩
theorem Acc.ama{e:TypeId}{sz k:Nat}{v:Value}{cells:List Value}{aY:aO}(h:Acc e sz v k cells aY)(aP:my aY)(aU:0<k):∃a rest z,v=.slice (some ⟨a,0,none⟩) k c9/\aY=[(a,.opn cells e rest z)]/\z<=cells.length/\cells.length=k*sz:=by
 cases h with
 |nil=>omega
 |kp a=>omega
 |opn aa ae=>exact⟨_,_,_,rfl,rfl,ae,aa⟩
 |cap=>exact absurd (.head _) (aP _ _ _)
theorem Tg{df:Nat}{bs:List UInt8}{m:aO}(uc:nU df bs m)(bD:0<bs.length)(aa:bs.length<=1000000):
 Fn (bb Q g0) 22 [.pointer (some ⟨df,0,none⟩)] m J (fun u m' ag=>u=.string ⟨⟨bs⟩⟩/\J=ag/\nU df bs m'):=by
 obtain⟨p,w,aY,rfl,aw,cw,aP⟩:=uc;obtain⟨a,rest,z,rfl,rfl,bN,av⟩:=cw.ama aP bD;refine Fn.cH (cQ Tryz.func22) rfl rfl fun H=>?_;refine rg ?_;refine I V.aA ?_;refine ns ?_;refine ab.draw rfl (by kernel_rfl) (bf:=[.val 0,.val 1,.val 2,.val 3,.val 5,.val 6,.val 7,.val 8,.val 9,.bV 4,.cF [9,8,7,6,5],.bV 10,.val 11]) (by kernel_rfl) ?_;refine cq ?_;refine an rfl V.aF ?_;refine cq ?_;refine an rfl V.aF ?_;refine an rfl V.bP ?_;refine' a7.TM rfl rfl rfl rfl (aoP rfl rfl rfl ?bD ?aa) ?_;case bD=>exact bD
 case aa=>(unfold c9;omega)
 refine a7.cF fC ?_;refine' a7.fO rfl rfl (apw rfl rfl rfl rfl rfl rfl (by kernel_rfl) (by kernel_rfl) ?hm ?aU ?bD ?aa ?_);case hm=>exact List.Perm.swap _ _ _
 case aU=>rfl
 case bD=>exact bD
 case aa=>exact aa
 refine an rfl V.aA ?_;refine a7.nil ?_;refine ab.gB (List.Perm.swap _ _ _) ?_;refine aj ?_;refine ab.ret ?_;refine'⟨.inr rfl,rfl,_,[qC df _ _,(a,_)],.tmp rfl .nil,bA _,⟨rfl,rfl,_,_,_,rfl,aw,.opn av (Nat.max_le.2 ⟨bN,by rw[av];omega⟩),xS⟩⟩
end
def Fc:List UInt8:=[112,97,114,108,111,117,114,32,114,117,110,32,49]
def I7:List UInt8:=[103,97,109,101]
def Fb:List UInt8:=[114,111,117,110,100]
def Fe:List UInt8:=[32,115,101,101,100]
def Cx:List UInt8:=[115,117,109]
def Af:List UInt8:=[112,108,97,121,115]
def I6:List UInt8:=[101,110,100]
def sw(g:bz)(t:gI):List UInt8:=Fc++[10]++I7++fS [p5 g]++[10]++Fb++fS [t.r]++Fe++fS [t.s]++[10]
def Cg(x:List Int×List Int):List UInt8:=Cx++fS x.1++[10]++Af++fS x.2++[10]
def kU(t:gI)(k:Nat):List UInt8:=((t.sum.zip t.pl).take k).flatMap Cg
def iG(g:bz)(t:gI):List UInt8:=sw g t++kU t t.sum.length
def z7(g:bz)(t:gI):List UInt8:=iG g t++I6++fS [tt (iG g t)]++[10]
theorem Q0{t:gI}{k:Nat}{a b:List Int}(aa:t.sum[k]?=some a)(ae:t.pl[k]?=some b):kU t (k+1)=kU t k++Cg (a,b):=by
 unfold kU;have:(t.sum.zip t.pl)[k]?=some (a,b):=by rw[Si];exact⟨aa,ae⟩
 rw[nS,this];simp
theorem T0:∀(l:List Int) (d:Int),-2147483647<d/\d<2147483647->-2147483647<dg d l/\dg d l<2147483647:=by
 intro l;induction l with
 |nil=>intro d h;exact h
 |cons x r aK=>
  intro d h;refine aK _ ?_;unfold No;generalize IntKind.i64.wrap _+1000001=y at*;have aa:=Mq (IntKind.i64.wrap y) (show(0:Int)<2147483647 by decide);have ae:=Mo (IntKind.i64.wrap y) (show(0:Int)<2147483647 by decide);omega
theorem Np(g:bz):-9223372036854775808<=p5 g/\p5 g<=9223372036854775807:=by
 have:=T0 (Ip g) 1 (by decide);unfold p5;omega
structure CK (l:List (List Int)):Prop where
 n:l.length<=60
 r:∀r∈l,r.length<=20
def Fk(l:List (List Int)):Prop:=∀r∈l,∀x∈r,-9223372036854775808<=x/\x<=9223372036854775807
theorem ana{cm:Int}:∀{l:List (List Int)} {ys:List (Int×Int)},rQ cm l ys=0->l.length<=ys.length->∀r∈l,∀x∈r,cm<=x/\x<=70368744177664:=by
 intro l;induction l with
 |nil=>intro ys _ _ r ay;cases ay
 |cons a l aK=>
  intro ys h av r ay;cases ys with
  |nil=>simp at av
  |cons y ys=>
   have h:(if(a.length:Int)≠y.2 then 3 else if a.any (hG cm 70368744177664)=true then 2 else rQ cm l ys)=0:=h;split at h
   ·omega
   ·split at h
    ·omega
    ·rename_i aP
     rcases fg.1 ay with q|q
     ·subst q
      intro x U;apply qN
      intro c;apply aP
      rw[Jl];exact⟨x,U,by simp[hG];omega⟩
     ·exact aK h (by simpa using av) r q
theorem W4{g:bz}{l:List (List Int)}{cm:Int}(h:ng g l cm=0)(j9:-9223372036854775808<=cm):l.length=g.is.length/\Fk l:=by
 unfold ng at h;split at h
 ·omega
 ·rename_i q
  have q:l.length=g.is.length:=gP.1 q;exact⟨q,fun r ay x U=>by have:=ana h (by omega) r ay x U;omega⟩
structure RX (g:bz) (t:gI):Prop where
 f:h6 g=0
 r:-9223372036854775808<=t.r/\t.r<=9223372036854775807
 s:-9223372036854775808<=t.s/\t.s<=9223372036854775807
 l:t.pl.length=t.sum.length
 bs:Fk t.sum
 cu:Fk t.pl
theorem TJ{g:bz}{t:gI}(h:nA g t=0):RX g t:=by
 unfold nA at h;split at h
 ·omega
 rename_i aa;have aa:kc g=0:=gP.1 aa;have aC:h6 g=0:=by
  unfold kc at aa;split at aa
  ·omega
  ·rename_i q;exact gP.1 q
 unfold rX at h;split at h
 ·omega
 split at h
 ·omega
 rename_i ae aG;obtain⟨bo,a2⟩:=W4 (gP.1 aG) (by omega);obtain⟨bm,bl⟩:=W4 h (by omega);exact⟨aC,by omega,by omega,by omega,a2,bl⟩
theorem sQ{l:List Int}(h:∀x∈l,-9223372036854775808<=x/\x<=9223372036854775807){n:Nat}(aP:l.length<=n):(fS l).length<=22*n:=p0 (XD h) (Nat.mul_le_mul_left _ aP)
theorem sR{d:Int}(h:-9223372036854775808<=d/\d<=9223372036854775807):∀x∈[d],-9223372036854775808<=x/\x<=9223372036854775807:=fun x U=>by simp at U;subst U;exact h
theorem VA{g:bz}{t:gI}(h:RX g t):(sw g t).length<=200:=by
 have aa:=sQ (sR (Np g)) (cZ 1);have ae:=sQ (sR h.r) (cZ 1);have aG:=sQ (sR h.s) (cZ 1);unfold sw;simp only[dv,s'];have aN:Fc.length=13:=rfl;have bn:I7.length=4:=rfl;have cP:Fb.length=5:=rfl;have eW:Fe.length=5:=rfl;omega
theorem YI{t:gI}(aa:CK t.sum)(ae:CK t.pl)(av:t.pl.length=t.sum.length)(bm:Fk t.sum)(bl:Fk t.pl):∀k,k<=t.sum.length->(kU t k).length<=1000*k:=by
 intro k;induction k with
 |zero=>intro _;simp[kU]
 |succ k aK=>
  intro aU;have bd:=de (l:=t.sum) (i:=k) (by omega);have a6:=de (l:=t.pl) (i:=k) (by omega);have m1:=cd bd;have m2:=cd a6;have cU:=sQ (bm _ m1) (aa.r _ m1);have ee:=sQ (bl _ m2) (ae.r _ m2);rw[Q0 bd a6,dv];have:=aK (by omega);unfold Cg;simp only[dv,s'];have aN:Cx.length=3:=rfl;have bn:Af.length=5:=rfl;omega
theorem Yd{α:Type}{m r:List α}{x:α}:((m++[x])++r).Perm (x::(m++r)):=by rw[gH];exact wq
theorem al9{α:Type}{m r:List α}{x y:α}:(m++x::y::r).Perm (x::y::(m++r)):=List.perm_middle.trans (List.Perm.cons _ wq)
theorem al'{α:Type}{m r:List α}{x y:α}:((m++[y])++x::r).Perm (m++x::y::r):=by rw[gH];exact Aq _ (List.Perm.swap _ _ _)
def Ci (g:bz)(t:gI):Value:=.tuple #[.string ⟨⟨if nA g t=0 then z7 g t else[]⟩⟩,.int .i64 (nA g t)]
section
variable {Q:dI Tryz.prog}{g0:Nat}{J:aI}
theorem YO(t':Jj Q g0){g:bz}{aT aL:Option Addr}{aQ ci:Nat}{t:gI}{bs cu:Option Addr}{cs cD:Nat}(aq:fG J g aT aQ aL ci)(aD:iS J t bs cs cu cD)(aa:CK t.sum)(ae:CK t.pl):
 Fn (bb Q g0) 6 [hc g aT aQ aL ci,mG t bs cs cu cD] [] J (tg (Ci g t) J):=by
 have fW:addrEq aL aL=true:=aq.i.addr;have gn:addrEq aT aT=true:=aq.n.addr;have sV:addrEq bs bs=true:=aD.s.addr;have zP:addrEq cu cu=true:=aD.p.addr;refine Fn.cH (cQ Tryz.func6) rfl rfl fun H=>?_;refine rg ?_;refine dJ fun a2=>?_;refine dJ fun a3=>?_;refine aM ?_;refine bj ?_;refine I V.c8 ?_;refine I V.c8 ?_;refine cl (G:=ack aq aD (by have:=aa.n;omega) (fun r ay=>by have:=aa.r r ay;omega) (by have:=ae.n;omega) (fun r ay=>by have:=ae.r r ay;omega)) (h:=?_);rintro v m' dQ ck ⟨rfl,rfl,_⟩;refine I V.aA ?_;refine bj ?_;refine I V.ah ?_;refine I V.a1 ?_;refine ns ?_;refine If (fun kL=>?_) fun kL=>?_
 ·refine rg ?_;refine aM ?_;refine ns ?_;refine ab.ret ?_;refine c' ?_;first
   |(have c:=V9
     refine⟨?_,rfl,ck.trans cE⟩;unfold Ci;rw[aE ho,ho];rfl)
   |(refine⟨?_,rfl,ck⟩
     unfold Ci;rw[ap kL];rfl)
 ·have ho:=gP.1 kL;have k7:=TJ ho;have pt:=aq.mono ck;have Wk:=aD.mono ck;have asf:=VA k7;have Ea:=YI aa ae k7.l k7.bs k7.cu;have kN:=aa.n;have aF:=sQ (sR (Np g)) (cZ 1);have atd:=sQ (sR k7.r) (cZ 1);have ate:=sQ (sR k7.s) (cZ 1);have ake:=fun x=>sQ (sR (RE x)) (cZ 1);have aN:Fc.length=13:=rfl;have bn:I7.length=4:=rfl;have cP:Fb.length=5:=rfl;have eW:Fe.length=5:=rfl;have cv:Cx.length=3:=rfl;have im:Af.length=5:=rfl;have w3:I6.length=3:=rfl;refine nf ?_;refine I V.c8 ?_;refine cl (G:=T1 (fun ag hle=>NN (pt.mono hle)) pt) (h:=?_);rintro v m' eZ cE ⟨rfl,rfl,_⟩;refine aM ?_;refine bj ?_;refine I V.ah ?_;refine I V.a1 ?_;refine ns ?_;refine If (fun nY=>?_) fun nY=>?_
  ·exfalso;exact nY k7.f
  ·refine aj ?_;refine ab.skip ?_;refine rg ?_;refine' W.step rfl (.of (e4 rfl rfl rfl (apN Q g0) rfl rfl rfl fun a9=>?_));refine bj ?_;have aip:nU a9 [] [qC a9 none (.slice none 0 0)]:=⟨none,_,[],rfl,.inl rfl,.nil,Ey⟩;refine' W.step rfl (Exec.call rfl rfl rfl rfl rfl rfl rfl (bh:=[qC a9 none _]) (bW:=_) (.refl _) trivial (Cy (s:=Fc) aip (by simp;omega)) ?_);rintro v m1 ag hle ⟨rfl,rfl,Bu⟩;refine' W.step rfl (Exec.call rfl rfl rfl rfl rfl rfl rfl (bh:=m1) (bW:=_) (.refl _) trivial (Du Bu (by simp;omega)) ?_);rintro v m2 ag hle ⟨rfl,Pu⟩;refine bj ?_;refine' W.step rfl (Exec.call rfl rfl rfl rfl rfl rfl rfl (bh:=m2) (bW:=_) (.refl _) trivial (Cy (s:=I7) Pu (by simp;omega)) ?_);rintro v m3 ag hle ⟨rfl,rfl,aiB⟩;refine I V.ah ?_;refine jw (eX Q g0) fun FG=>?_;rw[aE k7.f];refine' W.step rfl (Exec.call rfl rfl rfl rfl rfl rfl rfl (bh:=m3++[(FG,_)]) (bW:=_) Yd trivial (EN t' aiB (l:=[p5 g]) (jJ.own (.head _)) (by simp) (sR (Np g)) (by simp;omega)) ?_);rintro v m4 ag hle ⟨rfl,rfl,aiC⟩;refine' W.step rfl (Exec.call rfl rfl rfl rfl rfl rfl rfl (bh:=m4) (bW:=_) (.refl _) trivial (Du aiC (by simp;omega)) ?_);rintro v m5 ag hle ⟨rfl,aiD⟩;refine ns ?_;refine ab.draw rfl (by kernel_rfl) (bf:=[.val 1,.val 2,.gh 3,.val 6,.val 7,.gh 8,.cF [7,6,2,1],.bV 0,.cF [7,6,2,1],.bV 4,.cF [7,6],.bV 5,.cF [7,6],.bV 9,.bV 10]) (by kernel_rfl) ?_;refine an rfl V.bc ?_;refine an rfl V.aF ?_;refine a7.buildSlice rfl rfl rfl rfl rfl rfl (eX Q g0) rfl rfl rfl fun Ax=>?_;refine an rfl V.bc ?_;refine an rfl V.aF ?_;refine a7.buildSlice rfl rfl rfl rfl rfl rfl (eX Q g0) rfl rfl rfl fun SC=>?_;refine a7.akM (a:=SC) (b:=Ax) (.refl _) fun cc=>?_
   refine a7.cF fC ?_;refine' a7.call rfl rfl rfl rfl rfl rfl rfl rfl rfl rfl (bh:=m5) (bW:=_) al9 trivial (Cy (s:=Fb) aiD (by simp;omega)) ?_;rintro v m6 ag hle ⟨rfl,rfl,aiE⟩;refine a7.cF fC ?_;refine' a7.call rfl rfl rfl rfl rfl rfl rfl rfl rfl rfl (bh:=m6++[(Ax,_)]) (bW:=_) al' trivial (EN t' aiE (l:=[t.r]) (jJ.own (.head _)) (by simp) (sR k7.r) (by simp;omega)) ?_;rintro v m7 ag hle ⟨rfl,rfl,aiF⟩;refine a7.cF fC ?_;refine' a7.JT rfl rfl rfl rfl rfl rfl rfl rfl rfl (by simp[Fb,Fe]) (bh:=m7) (bW:=_) (.refl _) trivial (Cy (s:=Fe) aiF (by simp;omega)) ?_;rintro v m8 ag hle ⟨rfl,rfl,aiG⟩;refine a7.cF fC ?_;refine' a7.JT rfl rfl rfl rfl rfl rfl rfl rfl rfl (fun q=>cc (by simp at q;first|done|exact q)) (bh:=m8++[(SC,_)]) (bW:=_) (by rw[gH];exact .refl _) trivial (EN t' aiG (l:=[t.s]) (jJ.own (.head _)) (by simp) (sR k7.s) (by simp;omega)) ?_;rintro v m9 ag hle ⟨rfl,rfl,aiH⟩;refine' a7.call rfl rfl rfl rfl rfl rfl rfl rfl rfl rfl (bh:=m9) (bW:=_) (.refl _) trivial (Du aiH (by simp;omega)) ?_;rintro v m10 ag hle ⟨rfl,aiq⟩;refine a7.nil ?_;obtain⟨_,DX⟩:=(Wk.mono cE).s.at;obtain⟨_,ahu⟩:=(Wk.mono cE).p.at;have sy:nU a9 (sw g t++kU t 0) m10:=by simpa[sw,kU] using aiq
   refine rg ?_;refine I V.bc ?_;refine I V.aF ?_;refine aM ?_;refine ns ?_;refine ab.block ?_;refine' ab.c2 (l':=[(47,.int .i64 ((0):Int)),(3,_),(9,_),(46,_)]) ⟨?ao',rfl,rfl,rfl,trivial⟩ (bA _) ?_;case ao'=>exact bS
   refine aj ?_;refine' ab.dF (fun(bH:Nat×aO)=>match bH with|(k,mk)=>⟨[(47,.int .i64 (k:Int))],mk++[(a3,.row (hI t bs cs cu cD) 30),(a2,.row (iq g aT aQ aL ci) 27)],eZ,k<=t.sum.length/\nU a9 (sw g t++kU t k) mk,t.sum.length -k⟩) ⟨0,m10⟩ ?af ?bE
   case af=>exact⟨cB _,sy⟩
   case bE=>
    rintro⟨k,mk⟩ hinv;try simp only at hinv
    obtain⟨aU,V'⟩:=hinv;have asR:=Ea k aU;refine rg ?_;refine I V.a1 ?_;refine ns ?_;refine If (fun M0=>?_) fun M0=>?_
    ·obtain⟨FJ,Iq,Gd,Gn,rfl,lU,tY⟩:=DX (by omega);obtain⟨uD,vh,qm,vC,l2,jd,ko,rfl,n9⟩:=tY k (by omega) (by omega);have sC:=l2 0 _ (by decide) rfl;have dO:=k7.l;obtain⟨aqh,ats,aqV,ars,rfl,arM,ahG⟩:=ahu (by omega);obtain⟨uE,aq5,qn,asa,ahT,Te,aq0,rfl,Wc⟩:=ahG k (by omega) (by omega);have asn:=ahT 0 _ (by decide) rfl;rw[cy] at qm qn;have Lc:=cd qm;have Ld:=cd qn;have la:=sQ (k7.bs _ Lc) (aa.r _ Lc);have atb:=sQ (k7.cu _ Ld) (ae.r _ Ld);have as':=aa.r _ Lc;have ata:=ae.r _ Ld;have atV:addrEq jd jd=true:=by obtain⟨e,h⟩:=n9;exact h.addr
     have atW:addrEq Te Te=true:=by obtain⟨e,h⟩:=Wc;exact h.addr
     refine c5 ?_;refine aj ?_;refine ab.block ?_;refine rg ?_;refine aM ?_;refine ns ?_;refine ab.draw rfl (by kernel_rfl) (bf:=[.val 1,.val 2,.val 3,.val 4,.val 5,.bV 0,.cF [5,4,3,2,1],.bV 6,.bV 7]) (by kernel_rfl) ?_;refine an rfl V.bc ?_;refine an rfl V.aF ?_;refine an rfl V.ah ?_;refine an rfl V.aX ?_;refine an rfl V.aF ?_;refine' a7.call rfl rfl rfl rfl rfl rfl rfl rfl rfl rfl (bh:=mk) (bW:=_) (.refl _) trivial (Cy (s:=Cx) V' (by simp;omega)) ?_;rintro v m11 ag hle ⟨rfl,rfl,air⟩;refine a7.cF fC ?_;refine' a7.call rfl rfl rfl rfl rfl rfl rfl rfl rfl rfl (bh:=m11++[]) (bW:=[_,_]) (by rw[gg]) trivial (EN t' air (n9.iB []) (by omega) (k7.bs _ Lc) (by simp;omega)) ?_;rintro v m12 ag hle ⟨rfl,rfl,ais⟩;refine' a7.call rfl rfl rfl rfl rfl rfl rfl rfl rfl rfl (bh:=m12) (bW:=_) (.refl _) trivial (Du ais (by simp;omega)) ?_;rintro v m13 ag hle ⟨rfl,ait⟩;refine a7.nil ?_;refine aj ?_;refine ab.draw rfl (by kernel_rfl) (bf:=[.val 1,.val 2,.val 3,.val 4,.val 5,.bV 0,.cF [5,4,3,2,1],.bV 6,.bV 7]) (by kernel_rfl) ?_;refine an rfl V.bc ?_;refine an rfl V.aF ?_;refine an rfl V.ah ?_;refine an rfl V.aX ?_;refine an rfl V.aF ?_;refine' a7.call rfl rfl rfl rfl rfl rfl rfl rfl rfl rfl (bh:=m13) (bW:=_) (.refl _) trivial (Cy (s:=Af) ait (by simp;omega)) ?_;rintro v m14 ag hle ⟨rfl,rfl,aiu⟩;refine a7.cF fC ?_;refine' a7.call rfl rfl rfl rfl rfl rfl rfl rfl rfl rfl (bh:=m14++[]) (bW:=[_,_]) (by rw[gg]) trivial (EN t' aiu (Wc.iB []) (by omega) (k7.cu _ Ld) (by simp;omega)) ?_;rintro v m15 ag hle ⟨rfl,rfl,aiv⟩;refine' a7.call rfl rfl rfl rfl rfl rfl rfl rfl rfl rfl (bh:=m15) (bW:=_) (.refl _) trivial (Du aiv (by simp;omega)) ?_
     rintro v m16 ag hle ⟨rfl,aiw⟩;refine a7.nil ?_;refine rg ?_;refine I V.bx ?_;refine I V.ah ?_;refine a8 ?_;refine cA ⟨k+1,m16⟩ ?_;exact⟨by omega,by rw[Q0 qm qn];simpa[Cg] using aiw⟩
    ·obtain rfl:k=t.sum.length:=by omega
     have au:nU a9 (iG g t) mk:=V';have su:(iG g t).length<=70000:=by unfold iG;rw[dv];omega
     have j6:0<(iG g t).length:=by unfold iG sw;simp[Fc]
     have akf:=ake (IntKind.i64.wrap (65536*(ml 1 0 (iG g t)).2)+(ml 1 0 (iG g t)).1);rw[show IntKind.i64.wrap (IntKind.i64.wrap (65536*(ml 1 0 (iG g t)).2)+(ml 1 0 (iG g t)).1)=tt (iG g t) from rfl] at akf;refine aj ?_;refine ab.exit ?_;refine rg ?_;refine I V.bc ?_;refine' W.step rfl (Exec.call rfl rfl rfl rfl rfl rfl rfl (bh:=mk) (bW:=_) (.refl _) trivial (Tg au j6 (by omega)) ?_);rintro v m17 ag hle ⟨rfl,rfl,aix⟩;refine cl (G:=TL (by omega)) (h:=?_);rintro v m' ag hle ⟨rfl,rfl,rfl⟩;refine I V.aA ?_;refine bj ?_;refine' W.step rfl (Exec.call rfl rfl rfl rfl rfl rfl rfl (bh:=m17) (bW:=_) (.refl _) trivial (Cy (s:=I6) aix (by omega)) ?_);rintro v m18 ag hle ⟨rfl,rfl,aiy⟩;refine I V.ah ?_;refine jw (eX Q g0) fun a72=>?_;refine' W.step rfl (Exec.call rfl rfl rfl rfl rfl rfl rfl (bh:=m18++[(a72,_)]) (bW:=_) Yd trivial (EN t' aiy (l:=[tt (iG g t)]) (jJ.own (.head _)) (by simp) (sR (RE _)) (by simp;omega)) ?_);rintro v m19 ag hle ⟨rfl,rfl,aiz⟩;refine' W.step rfl (Exec.call rfl rfl rfl rfl rfl rfl rfl (bh:=m19) (bW:=_) (.refl _) trivial (Du aiz (by simp;omega)) ?_);rintro v m20 ag hle ⟨rfl,aiA⟩;refine bj ?_;refine I V.bc ?_;refine' W.step rfl (Exec.call rfl rfl rfl rfl rfl rfl rfl (bh:=m20) (bW:=_) (.refl _) trivial (Tg aiA (by simp;omega) (by simp;omega)) ?_);rintro v m21 ag hle ⟨rfl,rfl,V9⟩;refine aM ?_;refine ns ?_;refine ab.ret ?_;refine c' ?_;first
        |(have c:=V9
          refine⟨?_,rfl,ck.trans cE⟩;unfold Ci;rw[aE ho,ho];rfl)
        |(refine⟨?_,rfl,ck⟩
          unfold Ci;rw[ap kL];rfl)
end
end
end Go.Opn
