/- A part of the proof of TableMetric. -/
import Derived.Test.YtmmfodofkbmfnaaGreatDoorCbj
set_option maxRecDepth 100000
set_option maxHeartbeats 8000000
set_option linter.unusedVariables false
set_option linter.unusedSimpArgs false
namespace Go.Opn
noncomputable section
open Go.Cre Go.RowKit Go.Proofs
theorem Jm{x n:Int}(aE:1<=n):x % n=if x.tmod n<0 then x.tmod n+n else x.tmod n:=by
 have h:=Int.tmod_eq_emod (a:=x) (b:=n);have U:=Int.emod_nonneg x (show n≠0 by omega);have ab:=Int.emod_lt_of_pos x (show 0<n by omega);by_cases q:0<=x\/n ∣ x
 ·rw[bs q] at h
  rw[a1 (by omega)];omega
 ·rw[a1 q] at h
  rw[bs (by omega)];omega
theorem Lz{n c:Nat}{out:List Nat}(aF:c≠0)(h:out++aj c=aj n):(out++[c % 1000000000])++aj (c / 1000000000)=aj n:=by
 rw[<-h,pJ aF,xu];rfl
section
variable {Q:eF Tryz.prog}{g0:Nat}{J:an}
theorem LX{x n:Int}(aE:1<=n)(hm:n<=4611686018427387904):Fn (aS Q g0) 4 [.int .i64 x,.int .i64 n] [] J (fun u m' ai=>u=.int .i64 (x % n)/\m'=[]/\J=ai):=by
 have cx:=Int.tmod_lt_of_pos x (show 0<n by omega);have kN:=Int.lt_tmod_of_pos x (show 0<n by omega);refine Fn.cH (cK Tryz.func4) rfl rfl fun H=>?_;refine rg ?_;refine I V.aI ?_;refine bg ?_;refine aH ?_;refine I V.hU ?_;refine I V.aI ?_;refine bg ?_;refine I V.aT ?_;refine I V.bk ?_;refine aJ ?_;refine If (fun gQ=>?_) fun gQ=>?_
 ·refine rg ?_;refine aH ?_;refine I V.bX ?_;refine I V.aI ?_;refine bg ?_;refine aH ?_;refine aJ ?_;refine ad.ret ?_;refine m2 ?_;refine⟨?_,rfl,rfl⟩;rw[Jm aE];first
   |(have c:=gQ;rw[bs gQ];rfl)
   |(rw[a1 gQ];rfl)
 ·refine aM ?_;refine ad.skip ?_;refine rg ?_;refine aH ?_;refine aJ ?_;refine ad.ret ?_;refine m2 ?_;refine⟨?_,rfl,rfl⟩;rw[Jm aE];first
   |(have c:=gQ;rw[bs gQ];rfl)
   |(rw[a1 gQ];rfl)
theorem Sp{x y:Nat}(j:x<1000000000)(aC:y<1000000000):Fn (aS Q g0) 58 [.int .i64 (x:Int),.int .i64 (y:Int)] [] J (fun u m' ai=>u=.int .i64 (Nat.gcd x y:Int)/\m'=[]/\J=ai):=by
 refine Fn.cH (cK Tryz.func58) rfl rfl fun H=>?_;refine rg ?_;refine I V.aI ?_;refine aJ ?_;refine ad.block ?_;refine' ad.eZ (l':=[(0,.int .i64 ((x):Int)),(1,.int .i64 ((y):Int))]) ⟨?w0,?bc,trivial⟩ (cl _) ?_;case w0=>first|exact cu|exact ak some (ak (Value.int .u64) (by omega))|exact ak some (ak (Value.int .i64) (by omega))
 case bc=>first|exact cu|exact ak some (ak (Value.int .u64) (by omega))|exact ak some (ak (Value.int .i64) (by omega))
 refine aM ?_;refine' ad.l2 (α:=(Nat)×(Nat)) (fun(cT:(Nat)×(Nat))=>match cT with|(a,b)=>[(0,.int .i64 (a:Int)),(1,.int .i64 (b:Int))]) (fun(cT:(Nat)×(Nat))=>match cT with|(a,b)=>a<1000000000/\b<1000000000/\Nat.gcd a b=Nat.gcd x y) (fun(cT:(Nat)×(Nat))=>match cT with|(a,b)=>b) ⟨x,y⟩ ?ag ?b2
 case ag=>exact⟨j,aC,rfl⟩
 case b2=>
  rintro⟨a,b⟩ hinv;try simp only at hinv
  obtain⟨aK,af,ar⟩:=hinv;refine rg ?_;refine I V.aT ?_;refine I V.bk ?_;refine aJ ?_;refine If (fun e1=>?_) fun e1=>?_
  ·have KC:a % b<b:=qd _ (by omega);have ua:(a:Int).tmod (b:Int)=((a % b:Nat):Int):=(xo a b).symm;refine fJ ?_;refine aM ?_;refine ad.block ?_;refine aM ?_;refine ad.draw rfl (by kernel_rfl) (a6:=[.val 0,.val 1,.val 2,.val 3,.bZ 4,.cq [3,2],.bZ 5]) (by kernel_rfl) ?_;refine fX ?_;refine bd rfl V.hU ?_;refine rv rfl V.aI ?_;refine bR.cq eV ?_;refine rv rfl V.aI ?_;refine bR.nil ?_;rw[ua];refine'⟨⟨b,a % b⟩,_,?hinv,?g5,rfl,⟨?dK,?cM,trivial⟩,cl _,rfl⟩;case dK=>first|exact cu|exact ak some (ak (Value.int .u64) (by omega))|exact ak some (ak (Value.int .i64) (by omega))
   case cM=>first|exact cu|exact ak some (ak (Value.int .u64) (by omega))|exact ak some (ak (Value.int .i64) (by omega))
   case g5=>exact cQ
   case hinv=>exact⟨af,by omega,by rw[<-ar,o4 a b,Ay b a,o4 (a % b) b]⟩
  ·obtain rfl:b=0:=by omega
   rw[tf] at ar;have se:max (a:Int) (-(a:Int))=(Nat.gcd x y:Int):=by rw[<-ar];omega
   refine aM ?_;refine ad.exit ?_;refine rg ?_;refine aH ?_;refine' W.step rfl (Exec.val rfl rfl (CQ rfl rfl ?hw) ?_);case hw=>first|exact wrap_i64 (by omega) (by omega)|exact wrap_u8 (by omega) (by omega)|exact wrap_u64 (by omega) (by omega)|exact wrap_u32 (by omega) (by omega)|rfl
   refine' W.step rfl (Exec.val rfl rfl (Ha rfl rfl rfl rfl rfl) ?_);refine I V.aI ?_;refine aJ ?_;refine ad.ret ?_;refine'⟨.inr rfl,rfl,_,[],.tmp rfl .nil,b1 _,⟨ak (Value.int .i64) se,rfl,rfl⟩⟩
theorem L4{n:Nat}(aE:n<1000000000000000000):Fn (aS Q g0) 59 [.int .i64 (n:Int)] [] J (m7 J n):=by
 have aw:(aj n).length<=2:=nB (jZ aE (by decide));refine Fn.cH (cK Tryz.func59) rfl rfl fun H=>?_;refine rg ?_;refine I V.aI ?_;refine bg ?_;refine I V.aI ?_;refine aJ ?_;refine ad.block ?_;refine' ad.eZ (l':=[(0,.int .i64 ((n):Int)),(3,(.slice none 0 0))]) ⟨?w0,?dX,trivial⟩ (cl _) ?_;case w0=>first|exact cu|exact ak some (ak (Value.int .u64) (by omega))|exact ak some (ak (Value.int .i64) (by omega))
 case dX=>first|exact cu|exact ak some (ak (Value.int .u64) (by omega))|exact ak some (ak (Value.int .i64) (by omega))
 refine aM ?_;refine' ad.hN (fun(cT:Nat×(List Nat)×Value×aU)=>match cT with|(c,out,dX,bq)=>⟨[(0,.int .i64 (c:Int)),(3,dX)],bq,J,c<=n/\out++aj c=aj n/\Acc 61 1 dX out.length (cj .u32 out) bq,c⟩) ⟨n,[],.slice none 0 0,[]⟩ ?ag ?b2
 case ag=>exact⟨c9 _,rfl,.nil⟩
 case b2=>
  rintro⟨c,out,dX,bq⟩ hinv;try simp only at hinv
  obtain⟨aF,ae,ez⟩:=hinv;refine rg ?_;refine I V.aT ?_;refine I V.bk ?_;refine aJ ?_;refine If (fun hb=>?_) fun hb=>?_
  ·have j6:c≠0:=by omega
   have la:out.length<=2:=by
    have:=ak List.length ae;rw[hP] at this;omega
   have ua:(c:Int).tmod 1000000000=((c % 1000000000:Nat):Int):=(xo c 1000000000).symm;have yF:(c:Int).tdiv 1000000000=((c / 1000000000:Nat):Int):=(rz c 1000000000).symm;have hw:IntKind.u32.wrap ((c % 1000000000:Nat):Int)=((c % 1000000000:Nat):Int):=wrap_u32 (by omega) (by omega);have uj:IntKind.i64.wrap ((c / 1000000000:Nat):Int)=((c / 1000000000:Nat):Int):=wrap_i64 (by omega) (by omega);refine fJ ?_;refine aM ?_;refine ad.block ?_;refine rg ?_;refine aH ?_;refine I V.hU ?_;rw[ua];refine I V.gb ?_;refine jA (iQ Q g0) fun vg=>?_;refine' W.step rfl (.of (rr rfl rfl rfl rfl rfl rfl (iQ Q g0) (uT Q g0) (fun i q=>by cases q) ?ez ?hm ?j ?dQ ?dV ?aw fun xe LR Te ab8=>?_));case ez=>exact ez
   case hm=>exact(Aw _ bq).symm
   case j=>exact wW
   case dQ=>first|rfl|(simp;done)|(simp;omega)
   case dV=>first|rfl|exact zf _
   case aw=>exact(show out.length+1<=1000000 by omega)
   refine I V.aI ?_;refine bg ?_;refine I V.aT ?_;refine I V.hU ?_;refine I V.aI ?_;refine bU ?_;rw[yF,uj];have b2:c / 1000000000<=n/\(out++[c % 1000000000])++aj (c / 1000000000)=aj n/\Acc 61 1 xe (out++[c % 1000000000]).length (cj .u32 (out++[c % 1000000000])) LR:=⟨by omega,Lz j6 ae,by rw[zC,hP];exact Te⟩;refine hO ⟨c / 1000000000,out++[c % 1000000000],xe,LR⟩ ?_ (hm:=vd _ _);exact b2
  ·obtain rfl:c=0:=by omega
   rw[ks,kW] at ae;refine Acc.pU ez (.of_eq (kW bq).symm) fun bO a' al=>?_;rw[ae] at al;refine aM ?_;refine ad.exit ?_;refine rg ?_;refine aH ?_;refine aJ ?_;refine ad.ret ?_;refine'⟨.inr rfl,rfl,_,[],.tmp rfl .nil,b1 _,⟨a',rfl,al⟩⟩
theorem Yr{n:Nat}(aE:n<1000000000000000000):Fn (aS Q g0) 25 [.int .i64 (n:Int)] [] J (m7 J n):=by
 have aw:(aj n).length<=2:=nB (jZ aE (by decide));refine Fn.cH (cK Tryz.func25) rfl rfl fun H=>?_;refine rg ?_;refine I V.aI ?_;refine bg ?_;refine I V.aI ?_;refine aJ ?_;refine ad.block ?_;refine' ad.eZ (l':=[(0,.int .i64 ((n):Int)),(3,(.slice none 0 0))]) ⟨?w0,?dX,trivial⟩ (cl _) ?_;case w0=>first|exact cu|exact ak some (ak (Value.int .u64) (by omega))|exact ak some (ak (Value.int .i64) (by omega))
 case dX=>first|exact cu|exact ak some (ak (Value.int .u64) (by omega))|exact ak some (ak (Value.int .i64) (by omega))
 refine aM ?_;refine' ad.hN (fun(cT:Nat×(List Nat)×Value×aU)=>match cT with|(c,out,dX,bq)=>⟨[(0,.int .i64 (c:Int)),(3,dX)],bq,J,c<=n/\out++aj c=aj n/\Acc 61 1 dX out.length (cj .u32 out) bq,c⟩) ⟨n,[],.slice none 0 0,[]⟩ ?ag ?b2
 case ag=>exact⟨c9 _,rfl,.nil⟩
 case b2=>
  rintro⟨c,out,dX,bq⟩ hinv;try simp only at hinv
  obtain⟨aF,ae,ez⟩:=hinv;refine rg ?_;refine I V.aT ?_;refine I V.bk ?_;refine aJ ?_;refine If (fun e1=>?_) fun e1=>?_
  ·have j6:c≠0:=by omega
   have la:out.length<=2:=by
    have:=ak List.length ae;rw[hP] at this;omega
   have ua:(c:Int).tmod 1000000000=((c % 1000000000:Nat):Int):=(xo c 1000000000).symm;have yF:(c:Int).tdiv 1000000000=((c / 1000000000:Nat):Int):=(rz c 1000000000).symm;have se:max ((c % 1000000000:Nat):Int) (-((c % 1000000000:Nat):Int))=((c % 1000000000:Nat):Int):=by omega
   have hw:IntKind.u32.wrap ((c % 1000000000:Nat):Int)=((c % 1000000000:Nat):Int):=wrap_u32 (by omega) (by omega);have uj:IntKind.i64.wrap ((c / 1000000000:Nat):Int)=((c / 1000000000:Nat):Int):=wrap_i64 (by omega) (by omega);refine fJ ?_;refine aM ?_;refine ad.block ?_;refine rg ?_;refine I V.aT ?_;refine I V.hU ?_;refine I V.aI ?_;refine bU ?_;rw[ua];refine rg ?_;refine aH ?_;refine' W.step rfl (Exec.val rfl rfl (CQ rfl rfl ?hw) ?_);case hw=>first|exact wrap_i64 (by omega) (by omega)|exact wrap_u8 (by omega) (by omega)|exact wrap_u64 (by omega) (by omega)|exact wrap_u32 (by omega) (by omega)|rfl
   refine' W.step rfl (Exec.val rfl rfl (Ha rfl rfl rfl rfl rfl) ?_);rw[se];refine I V.gb ?_;refine jA (iQ Q g0) fun O'=>?_;refine' W.step rfl (.of (rr rfl rfl rfl rfl rfl rfl (iQ Q g0) (uT Q g0) (fun i q=>by cases q) ?ez ?hm ?j ?dQ ?dV ?aw fun N8 LU Tf ab9=>?_));case ez=>exact ez
   case hm=>exact(Aw _ bq).symm
   case j=>exact wW
   case dQ=>first|rfl|(simp;done)|(simp;omega)
   case dV=>first|rfl|exact zf _
   case aw=>exact(show out.length+1<=1000000 by omega)
   refine I V.aI ?_;refine bg ?_;refine I V.aT ?_;refine I V.hU ?_;refine I V.aI ?_;refine bU ?_;rw[yF,uj];have b2:c / 1000000000<=n/\(out++[c % 1000000000])++aj (c / 1000000000)=aj n/\Acc 61 1 N8 (out++[c % 1000000000]).length (cj .u32 (out++[c % 1000000000])) LU:=⟨by omega,Lz j6 ae,by rw[zC,hP];exact Tf⟩;refine hO ⟨c / 1000000000,out++[c % 1000000000],N8,LU⟩ ?_ (hm:=vd _ _);exact b2
  ·obtain rfl:c=0:=by omega
   rw[ks,kW] at ae;refine Acc.pU ez (.of_eq (kW bq).symm) fun bO a' al=>?_;rw[ae] at al;refine aM ?_;refine ad.exit ?_;refine rg ?_;refine aH ?_;refine aJ ?_;refine ad.ret ?_;refine'⟨.inr rfl,rfl,_,[],.tmp rfl .nil,b1 _,⟨a',rfl,al⟩⟩
theorem aae{n:Nat}(aE:n<1000000000000000000):Fn (aS Q g0) 9 [.int .i64 (n:Int)] [] J (AG J (⟨n,1⟩:cv)):=by
 have aw:(aj n).length<=2:=nB (jZ aE (by decide));have U:(aj 1).length<=100:=ej (nB (k:=1) (by decide)) (by decide);have yS:a9 (n:Int) 1=(⟨n,1⟩:cv):=Ck (r:=⟨n,1⟩) ⟨Nat.one_pos,Nat.coprime_one_right _⟩;have KJ:¬((n:Int)<0):=by omega
 refine Fn.cH (cK Tryz.func9) rfl rfl fun H=>?_;refine rg ?_;refine' W.step rfl (.of (gN rfl rfl rfl (kT Q g0) rfl rfl rfl fun bS=>?_));refine bg ?_;refine I V.aT ?_;refine I V.bk ?_;refine I V.aT ?_;refine cm (G:=Yr aE) (h:=?_);rintro v' m' bO hle ⟨a',rfl,e3⟩;refine jA (iQ Q g0) fun gE=>?_;refine W.dv rfl fun bW vN=>?_;refine cm (G:=B5 (z:=(n:Int)) Nat.one_pos rfl (fun _=>rfl) (e3.gJ.mono bW) (F5 vN) (by show(aj n).length<=100;omega) U) (h:=?_);rintro v' m' eL hle ⟨dc,rfl,fa,fh,rfl,cg⟩;rw[yS] at cg ⊢;have da:=cg;obtain⟨m9,gQ,rfl,sO⟩:=cg.n.dJ;obtain⟨qk,dP,rfl,sN⟩:=cg.d.dJ;refine fM ?_;refine aJ ?_;refine ad.ret ?_;refine'⟨.inr rfl,rfl,_,[],.cell rfl (by repeat first|exact .head _|refine .tail _ ?_|refine eU _ ?_) (gh (fs rfl) rfl) (.nil),b1 _,⟨a'.trans (bW.trans dc),rfl,_,_,rfl,da⟩⟩
theorem X2{n d:Nat}(aE:n<1000000000)(ax:d<1000000000)(h':0<d):Fn (aS Q g0) 34 [.int .i64 (n:Int),.int .i64 (d:Int)] [] J (AG J (a9 (n:Int) d)):=by
 obtain⟨g,ar⟩:∃g,g=Nat.gcd n d:=⟨_,rfl⟩;have EV:0<g:=by rw[ar];exact rF _ h'
 have se:max (n:Int) (-(n:Int))=(n:Int):=by omega
 obtain⟨p,ao⟩:∃p,p=n / g:=⟨_,rfl⟩;obtain⟨q,bY⟩:∃q,q=d / g:=⟨_,rfl⟩;have ue:p<1000000000:=by rw[ao];exact hn (ve _ _) aE
 have KS:q<1000000000:=by rw[bY];exact hn (ve _ _) ax
 have T':(n:Int).tdiv (g:Int)=(p:Int):=by rw[ao];exact(rz n g).symm
 have Ub:(d:Int).tdiv (g:Int)=(q:Int):=by rw[bY];exact(rz d g).symm
 obtain⟨yQ,yO⟩:=Mc (z:=(n:Int)) h';have yQ:(a9 (n:Int) d).z.natAbs=p:=by rw[yQ,ao,ar];rfl
 have yO:(a9 (n:Int) d).d=q:=by rw[yO,bY,ar];rfl
 have nr:=pM (X:=n) h';refine Fn.cH (cK Tryz.func34) rfl rfl fun H=>?_;refine rg ?_;refine' W.step rfl (.of (gN rfl rfl rfl (kT Q g0) rfl rfl rfl fun c4=>?_));refine bg ?_;refine aH ?_;refine' W.step rfl (Exec.val rfl rfl (CQ rfl rfl ?hw) ?_);case hw=>first|exact wrap_i64 (by omega) (by omega)|exact wrap_u8 (by omega) (by omega)|exact wrap_u64 (by omega) (by omega)|exact wrap_u32 (by omega) (by omega)|rfl
 refine' W.step rfl (Exec.val rfl rfl (Ha rfl rfl rfl rfl rfl) ?_);refine I V.aT ?_;rw[se];refine cm (G:=Sp aE ax) (h:=?_);rintro v' m' ai hle ⟨rfl,rfl,rfl⟩;rw[<-ar];refine I V.aI ?_;refine aJ ?_;refine ad.draw rfl (by kernel_rfl) (a6:=[.val 0,.val 1,.val 2,.val 3,.val 4,.val 5,.bZ 6,.cq [5,4,3],.bZ 7]) (by kernel_rfl) ?_;refine fX ?_;refine bd rfl V.hU ?_;refine fX ?_;refine bd rfl V.hU ?_;refine rv rfl V.aI ?_;refine bR.cq eV ?_;refine rv rfl V.aI ?_;refine bR.nil ?_;rw[T',Ub,show IntKind.i64.wrap (p:Int)=(p:Int) from wrap_i64 (by omega) (by omega),show IntKind.i64.wrap (q:Int)=(q:Int) from wrap_i64 (by omega) (by omega)];refine rg ?_;refine I V.aT ?_;refine I V.bk ?_;refine aJ ?_;refine If (fun qo=>?_) fun qo=>?_
 ·exfalso;omega
 ·refine aM ?_;refine ad.skip ?_;refine rg ?_;refine I V.aT ?_;refine cm (G:=L4 (n:=p) (by omega)) (h:=?_);rintro v' m' bO hle ⟨a',rfl,e3⟩;have jk:=e3.gJ;obtain⟨fF,hb,rfl,gi⟩:=jk.dJ;refine I V.aT ?_;refine cm (G:=L4 (n:=q) (by omega)) (h:=?_);rintro v' m' eL hle ⟨bW,rfl,fm⟩;have k4:=fm.gJ;obtain⟨gp,e1,rfl,iO⟩:=k4.dJ;refine I V.kH ?_;refine fM ?_;refine aJ ?_;refine ad.ret ?_;refine'⟨.inr rfl,rfl,_,[],.cell rfl (by repeat first|exact .head _|refine .tail _ ?_|refine eU _ ?_) (gh (fs rfl) rfl) (.nil),b1 _,⟨a'.trans bW,rfl,.slice fF _ hb,.slice gp _ e1,by rw[<-gd nr];rfl,by rw[yQ];exact jk.mono bW,by rw[yO];exact k4⟩⟩
end
theorem CL{α:Type}{l m:List α}{i:Nat}{x y:α}(h:l.take i=m.take i)(j:l[i]?=some x)(aC:m[i]?=some y):x=y↔l.take (i+1)=m.take (i+1):=by
 rw[xA,xA,j,aC,h];exact⟨fun q=>by rw[q],fun q=>by
  have:=List.append_cancel_left q;injection this⟩
theorem zU{α:Type}{l m:List α}(aw:l.length=m.length)(h:l.take l.length=m.take l.length):l=m:=by
 rw[tb,aw,tb] at h;exact h
theorem Nv{α:Type}{l m:List α}{i:Nat}(h:¬l.take i=m.take i):¬l=m:=fun q=>h (by rw[q])
theorem F0{x y:Nat}(h:aj x=aj y):x=y:=by rw[<-gj x,<-gj y,h]
theorem rh{r s:cv}:r=s↔((r.z<0↔s.z<0)/\r.z.natAbs=s.z.natAbs/\r.d=s.d):=
 ⟨fun h=>by rw[h];exact⟨Iff.rfl,rfl,rfl⟩,fun⟨U,ab,aV⟩=>cv.D9 (by omega) aV⟩
section
variable {Q:eF Tryz.prog}{g0:Nat}{J:an}
theorem IA{v w:Value}{x y:Nat}(U:dE J v x)(ab:dE J w y)(aw:(aj x).length<=100):Fn (aS Q g0) 26 [v,w] [] J (fun u m' ai=>m'=[]/\J=ai/\∃b,u=.bool b/\(b=true↔x=y)):=by
 have gS:dx .u32 J v (aj x):=U;have g1:dx .u32 J w (aj y):=ab;obtain⟨bV,bE,rfl⟩:=gS.form;obtain⟨b7,b8,rfl⟩:=g1.form;refine Fn.cH (cK Tryz.func26) rfl rfl fun H=>?_;refine rg ?_;refine I V.aI ?_;refine bg ?_;refine aH ?_;refine I V.bk ?_;refine aJ ?_;refine If (fun dP=>?_) fun dP=>?_
 ·refine rg ?_;refine I V.aI ?_;refine aJ ?_;refine ad.ret ?_;refine'⟨.inr rfl,rfl,_,[],.tmp rfl .nil,b1 _,?_⟩;first
   |(have c:=dP;exact⟨rfl,rfl,false,rfl,(fun h=>by cases h),fun h=>by rw[h] at c;exact absurd rfl c⟩)
   |exact⟨rfl,rfl,true,rfl,(fun _=>F0 (zU (by omega) (by rw[show(aj x).length=i by omega];exact aG))),fun _=>rfl⟩
 ·refine aM ?_;refine ad.skip ?_;refine rg ?_;refine I V.aI ?_;refine aJ ?_;refine ad.block ?_;refine' ad.eZ (l':=[(5,.int .i64 ((0):Int)),(0,_),(1,_)]) ⟨?fu,rfl,rfl,trivial⟩ (cl _) ?_;case fu=>first|exact cu|exact ak some (ak (Value.int .u64) (by omega))|exact ak some (ak (Value.int .i64) (by omega))
  refine aM ?_;refine' ad.l2 (α:=(Nat)) (fun(i:Nat)=>[(5,.int .i64 (i:Int))]) (fun(i:Nat)=>i<=(aj x).length/\(aj x).take i=(aj y).take i) (fun(i:Nat)=>(aj x).length -i) (0) ?ag ?b2;case ag=>exact⟨fj _,by rw[kD,kD]⟩
  case b2=>
   rintro i hinv;try simp only at hinv
   obtain⟨aq,aG⟩:=hinv;refine rg ?_;refine aH ?_;refine I V.bk ?_;refine aJ ?_;refine If (fun iF=>?_) fun iF=>?_
   ·obtain⟨a,o,vp,e,rfl,gT,aD⟩:=gS.at (by omega);obtain⟨bA,o',QE,bl,rfl,yt,qR⟩:=g1.at (by omega);obtain⟨p,ao,hf⟩:=aD i (by omega);obtain⟨q,bY,v8⟩:=qR i (by omega);have hf:nth vp (o+((i:Int)).toNat*1)=some (.int .u32 (p:Int)):=hf;have v8:nth QE (o'+((i:Int)).toNat*1)=some (.int .u32 (q:Int)):=v8;refine fJ ?_;refine aM ?_;refine ad.block ?_;refine aM ?_;refine ad.draw rfl (by kernel_rfl) (a6:=[.val 0,.val 1,.val 2,.val 3,.val 4,.val 5,.val 6,.val 7,.val 8]) (by kernel_rfl) ?_;refine fX ?_;refine bd rfl V.bw ?_;refine bd rfl V.ec ?_;refine fX ?_;refine bd rfl V.bw ?_;refine bd rfl V.ec ?_;refine bd rfl V.bk ?_;refine bR.nil ?_;refine aM ?_;refine If (fun qq=>?_) fun qq=>?_
    ·refine rg ?_;refine I V.aI ?_;refine aJ ?_;refine ad.ret ?_;refine'⟨.inr rfl,rfl,_,[],.tmp rfl .nil,b1 _,?_⟩;first
       |(have c:=dP;exact⟨rfl,rfl,false,rfl,(fun h=>by cases h),fun h=>by rw[h] at c;exact absurd rfl c⟩)
       |(have c:=qq;exact⟨rfl,rfl,false,rfl,(fun h=>by cases h),fun h=>by
            have k:=mt (CL aG ao bY).2 (by omega);exact absurd (ak aj h) (Nv k)⟩)
       |exact⟨rfl,rfl,true,rfl,(fun _=>F0 (zU (by omega) (by rw[show(aj x).length=i by omega];exact aG))),fun _=>rfl⟩
    ·refine aM ?_;refine ad.skip ?_;refine rg ?_;refine I V.aT ?_;refine I V.bX ?_;refine I V.aI ?_;refine bU ?_;refine'⟨(i+1),_,?hinv,?g5,rfl,⟨?mO,rfl,rfl,trivial⟩,cl _,rfl⟩;case mO=>first|exact cu|exact ak some (ak (Value.int .u64) (by omega))|exact ak some (ak (Value.int .i64) (by omega))
     case g5=>exact cQ
     case hinv=>exact⟨by omega,(CL aG ao bY).1 (by omega)⟩
   ·refine aM ?_;refine ad.exit ?_;refine rg ?_;refine I V.aI ?_;refine aJ ?_;refine ad.ret ?_;refine'⟨.inr rfl,rfl,_,[],.tmp rfl .nil,b1 _,?_⟩;first
     |(have c:=dP;exact⟨rfl,rfl,false,rfl,(fun h=>by cases h),fun h=>by rw[h] at c;exact absurd rfl c⟩)
     |exact⟨rfl,rfl,true,rfl,(fun _=>F0 (zU (by omega) (by rw[show(aj x).length=i by omega];exact aG))),fun _=>rfl⟩
theorem M3{r s:cv}{v1 v2 bc b6:Value}(ap:ho J r v1 v2)(ag:ho J s bc b6)(eJ:(aj r.z.natAbs).length<=100)(ei:(aj r.d).length<=100):Fn (aS Q g0) 10 [dF r v1 v2,dF s bc b6] [] J (fun u m' ai=>m'=[]/\J=ai/\∃b,u=.bool b/\(b=true↔r=s)):=by
 have dR:=ap;have gg:=ag;obtain⟨bV,bE,rfl,aQ⟩:=ap.n.dJ;obtain⟨b7,b8,rfl,aP⟩:=ap.d.dJ;obtain⟨c5,dj,rfl,bC⟩:=ag.n.dJ;obtain⟨dM,eg,rfl,dp⟩:=ag.d.dJ;refine Fn.cH (cK Tryz.func10) rfl rfl fun H=>?_;refine rg ?_;refine fl fun bS=>?_;refine fl fun cE=>?_;refine I V.aI ?_;refine bg ?_;refine I V.cN ?_;refine I V.cP ?_;refine I V.cN ?_;refine I V.cP ?_;refine' W.step rfl (Exec.val rfl rfl (z1 rfl rfl rfl (.inl ⟨rfl,rfl⟩) (by kernel_rfl)) ?_);refine I V.aT ?_;refine gP 10 (fun Sv=>?_) fun Sv=>?_
 ·refine bF V.cN ?_;refine bF V.cP ?_;refine bF V.cN ?_;refine bF V.cP ?_;refine to (G:=IA dR.n gg.n eJ) (h:=?_);rintro v' m' ai hle ⟨rfl,rfl,Dz,rfl,yC⟩;refine I V.bx ?_;refine I V.aT ?_;refine gP 17 (fun Ss=>?_) fun Ss=>?_
  ·refine bF V.cN ?_;refine bF V.cP ?_;refine bF V.cN ?_;refine bF V.cP ?_;refine to (G:=IA dR.d gg.d ei) (h:=?_);rintro v' m' ai hle ⟨rfl,rfl,kH,rfl,np⟩;refine I V.bx ?_;refine I V.aI ?_;refine aJ ?_;refine ad.ret ?_;refine'⟨.inr rfl,rfl,_,[],.tmp rfl .nil,b1 _,?_⟩;first
    |(have c:=np;exact⟨rfl,rfl,kH,rfl,by rw[np,rh];simp_all⟩)
    |(have c:=yC;exact⟨rfl,rfl,Dz,rfl,by rw[rh];simp_all⟩)
    |exact⟨rfl,rfl,_,rfl,by rw[rh];simp_all⟩
  ·refine cz ?_;refine cz ?_;refine cz ?_;refine cz ?_;refine W.yk rfl rfl rfl rfl rfl ?_;refine I V.bx ?_;refine I V.aI ?_;refine aJ ?_;refine ad.ret ?_;refine'⟨.inr rfl,rfl,_,[],.tmp rfl .nil,b1 _,?_⟩;first
    |(have c:=np;exact⟨rfl,rfl,kH,rfl,by rw[np,rh];simp_all⟩)
    |(have c:=yC;exact⟨rfl,rfl,Dz,rfl,by rw[rh];simp_all⟩)
    |exact⟨rfl,rfl,_,rfl,by rw[rh];simp_all⟩
 ·refine cz ?_;refine cz ?_;refine cz ?_;refine cz ?_;refine W.yk rfl rfl rfl rfl rfl ?_;refine I V.bx ?_;refine I V.aT ?_;refine cz ?_;refine cz ?_;refine cz ?_;refine cz ?_;refine W.yk rfl rfl rfl rfl rfl ?_;refine I V.bx ?_;refine I V.aI ?_;refine aJ ?_;refine ad.ret ?_;refine'⟨.inr rfl,rfl,_,[],.tmp rfl .nil,b1 _,?_⟩;first
   |(have c:=np;exact⟨rfl,rfl,kH,rfl,by rw[np,rh];simp_all⟩)
   |(have c:=yC;exact⟨rfl,rfl,Dz,rfl,by rw[rh];simp_all⟩)
   |exact⟨rfl,rfl,_,rfl,by rw[rh];simp_all⟩
theorem Yk{rs CK:List cv}{n:Nat}{b b':Option Addr}{c bo:Nat}(h:eO J 32 3 (gn J) (.slice b n c) rs)(fO:eO J 32 3 (gn J) (.slice b' n bo) CK)(aE:rs.length=n)(qK:CK.length=n)(aw:n<=1000)(af:∀r∈rs,(aj r.z.natAbs).length<=100/\(aj r.d).length<=100):Fn (aS Q g0) 12 [.slice b n c,.slice b' n bo] [] J (fun u m' ai=>m'=[]/\J=ai/\∃b,u=.bool b/\(b=true↔rs=CK)):=by
 obtain⟨_,iW⟩:=h.at;obtain⟨_,Bp⟩:=fO.at;refine Fn.cH (cK Tryz.func12) rfl rfl fun H=>?_;refine rg ?_;refine I V.aI ?_;refine bg ?_;refine aH ?_;refine I V.bk ?_;refine aJ ?_;refine If (fun dP=>?_) fun dP=>?_
 ·exfalso;exact dP rfl
 ·refine aM ?_;refine ad.skip ?_;refine rg ?_;refine I V.aI ?_;refine aJ ?_;refine ad.block ?_;refine' ad.eZ (l':=[(5,.int .i64 ((0):Int)),(0,_),(1,_)]) ⟨?fu,rfl,rfl,trivial⟩ (cl _) ?_;case fu=>first|exact cu|exact ak some (ak (Value.int .u64) (by omega))|exact ak some (ak (Value.int .i64) (by omega))
  refine aM ?_;refine' ad.l2 (α:=(Nat)) (fun(i:Nat)=>[(5,.int .i64 (i:Int))]) (fun(i:Nat)=>i<=n/\rs.take i=CK.take i) (fun(i:Nat)=>n -i) (0) ?ag ?b2;case ag=>exact⟨fj _,by rw[kD,kD]⟩
  case b2=>
   rintro i hinv;try simp only at hinv
   obtain⟨aq,aG⟩:=hinv;refine rg ?_;refine aH ?_;refine I V.bk ?_;refine aJ ?_;refine If (fun iF=>?_) fun iF=>?_
   ·obtain⟨a,off,cells,bl,rfl,kL,kN⟩:=iW (by omega);obtain⟨r,cs,ap,hK,yN,v1,v2,rfl,et⟩:=kN i (by omega) (by omega);rw[jW] at ap;obtain⟨bA,eB,cells',aW,rfl,EA,E0⟩:=Bp (by omega);obtain⟨s,cb,wc,Tu,TU,bc,b6,rfl,tK⟩:=E0 i (by omega) (by omega);rw[jW] at wc;have Ke:=af r (nZ ap);have k6:=et;have nm:=tK;obtain⟨bV,bE,rfl,aQ⟩:=et.n.dJ;obtain⟨b7,b8,rfl,aP⟩:=et.d.dJ;obtain⟨c5,dj,rfl,bC⟩:=tK.n.dJ;obtain⟨dM,eg,rfl,dp⟩:=tK.d.dJ;refine fJ ?_;refine aM ?_;refine ad.block ?_;refine aM ?_;refine ad.draw rfl (by kernel_rfl) (a6:=[.val 0,.val 1,.val 2,.val 3,.val 4,.val 5,.val 6,.val 7,.bZ 8,.val 9]) (by kernel_rfl) ?_;refine fX ?_;refine bd rfl V.bw ?_;refine bd rfl V.kQ ?_;refine fX ?_;refine bd rfl V.bw ?_;refine bd rfl V.kQ ?_;refine bR.jP ?_;refine' bh.ea rfl rfl rfl rfl rfl rfl rfl rfl rfl dC (M3 k6 nm Ke.1 Ke.2) ?_;rintro v' m' ai hle ⟨rfl,rfl,fl,rfl,vR⟩;refine bh.jO (fun x j=>jX (f:=fun x=>(x.f,x.ca)) j) ?_;refine bd rfl V.pO ?_;refine bR.nil ?_;refine aM ?_;refine If (fun qs=>?_) fun qs=>?_
    ·refine rg ?_;refine I V.aI ?_;refine aJ ?_;refine ad.ret ?_;refine'⟨.inr rfl,rfl,_,[],.tmp rfl .nil,b1 _,?_⟩;first
       |(have c:=qs;exact⟨rfl,rfl,false,rfl,(fun h=>by cases h),fun h=>by
            have k:=mt (CL aG ap wc).2 (mt vR.2 (by first|(intro q;rw[q] at c;exact absurd c (by decide))|exact c));exact absurd h (Nv k)⟩)
       |exact⟨rfl,rfl,true,rfl,(fun _=>zU (by omega) (by rw[show rs.length=i by omega];exact aG)),fun _=>rfl⟩
    ·refine aM ?_;refine ad.skip ?_;refine rg ?_;refine I V.aT ?_;refine I V.bX ?_;refine I V.aI ?_;refine bU ?_;refine'⟨(i+1),_,?hinv,?g5,rfl,⟨?mO,rfl,rfl,trivial⟩,cl _,rfl⟩;case mO=>first|exact cu|exact ak some (ak (Value.int .u64) (by omega))|exact ak some (ak (Value.int .i64) (by omega))
     case g5=>exact cQ
     case hinv=>exact⟨by omega,(CL aG ap wc).1 (vR.1 (by cases fl<;>simp_all))⟩
   ·refine aM ?_;refine ad.exit ?_;refine rg ?_;refine I V.aI ?_;refine aJ ?_;refine ad.ret ?_;refine'⟨.inr rfl,rfl,_,[],.tmp rfl .nil,b1 _,?_⟩;first
     |exact⟨rfl,rfl,true,rfl,(fun _=>zU (by omega) (by rw[show rs.length=i by omega];exact aG)),fun _=>rfl⟩
end
end
end Go.Opn
