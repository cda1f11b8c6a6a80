/- A part of the proof of TableClose. -/
import Derived.Test.YtpahonhejmlnpaaGreatDoorCbm
import Derived.Test.YtpahonhejmlnpaaGreatDoorCbn
set_option maxRecDepth 100000
set_option maxHeartbeats 8000000
set_option linter.unusedVariables false
set_option linter.unusedSimpArgs false
namespace Go.Opn
noncomputable section
open Go.Cre Go.RowKit Go.Proofs
section
variable {Q:ek Tryz.prog}{g0:Nat}{J:an}
theorem Ek{n:Nat}(aw:n<1000000000000000000):Fn (aO Q g0) 62 [.int .u64 (n:Int)] [] J (kp J n):=by
 have aA:(ap n).length<=2:=l9 (jL aw (by decide));refine Fn.ck (ch Tryz.func62) rfl rfl fun H=>?_;refine rg ?_;refine I V.aI ?_;refine bb ?_;refine I V.aI ?_;refine aD ?_;refine ad.block ?_;refine' ad.eH (l':=[(0,.int .u64 ((n):Int)),(3,(.slice none 0 0))]) ⟨?w0,?dD,trivial⟩ (cd _) ?_;case w0=>first|exact cq|exact aj some (aj (Value.int .u64) (by omega))|exact aj some (aj (Value.int .i64) (by omega))
 case dD=>first|exact cq|exact aj some (aj (Value.int .u64) (by omega))|exact aj some (aj (Value.int .i64) (by omega))
 refine aG ?_;refine' ad.b0 (fun(cG:Nat×(List Nat)×Value×aU)=>match cG with|(c,out,dD,ba)=>⟨[(0,.int .u64 (c:Int)),(3,dD)],ba,J,c<=n/\out++ap c=ap n/\Acc 40 1 dD out.length (ca .u32 out) ba,c⟩) ⟨n,[],.slice none 0 0,[]⟩ ?af ?bT
 case af=>exact⟨c5 _,rfl,.nil⟩
 case bT=>
  rintro⟨c,out,dD,ba⟩ hinv;try simp only at hinv
  obtain⟨aL,ag,dr⟩:=hinv;refine rg ?_;refine I V.aJ ?_;refine I V.a' ?_;refine aD ?_;refine If (fun e2=>?_) fun e2=>?_
  ·have jO:c≠0:=by omega
   have h4:out.length<=2:=by
    have:=aj List.length ag;rw[g1] at this;omega
   have p9:(c:Int).tmod 1000000000=((c % 1000000000:Nat):Int):=(uV c 1000000000).symm;have sG:(c:Int).tdiv 1000000000=((c / 1000000000:Nat):Int):=(oJ c 1000000000).symm;have hw:IntKind.u32.wrap ((c % 1000000000:Nat):Int)=((c % 1000000000:Nat):Int):=wrap_u32 (by omega) (by omega);have ny:IntKind.u64.wrap ((c / 1000000000:Nat):Int)=((c / 1000000000:Nat):Int):=wrap_u64 (by omega) (by omega);refine e4 ?_;refine aG ?_;refine ad.block ?_;refine rg ?_;refine aH ?_;refine I V.ha ?_;rw[p9];refine I V.gk ?_;refine ja (iy Q g0) fun sl=>?_;refine' W.step rfl (.of (nL rfl rfl rfl rfl rfl rfl (iy Q g0) (tm Q g0) (fun i q=>by cases q) ?dr ?hm ?U ?dI ?dP ?aA fun qH Be Hj Ze=>?_));case dr=>exact dr
   case hm=>exact(tu _ ba).symm
   case U=>exact qz
   case dI=>first|rfl|(simp;done)|(simp;omega)
   case dP=>first|rfl|exact rM _
   case aA=>exact(show out.length+1<=1000000 by omega)
   refine I V.aI ?_;refine bb ?_;refine I V.aJ ?_;refine I V.ha ?_;refine I V.aI ?_;refine bR ?_;rw[sG,ny];have bT:c / 1000000000<=n/\(out++[c % 1000000000])++ap (c / 1000000000)=ap n/\Acc 40 1 qH (out++[c % 1000000000]).length (ca .u32 (out++[c % 1000000000])) Be:=⟨by omega,D5 jO ag,by rw[wh,g1];exact Hj⟩;refine gF ⟨c / 1000000000,out++[c % 1000000000],qH,Be⟩ ?_ (hm:=nR _ _);exact bT
  ·obtain rfl:c=0:=by omega
   rw[kh,jr] at ag;refine Acc.m0 dr (.of_eq (jr ba).symm) fun bq a8 ak=>?_;rw[ag] at ak;refine aG ?_;refine ad.exit ?_;refine rg ?_;refine aH ?_;refine aD ?_;refine ad.ret ?_;refine'⟨.inr rfl,rfl,_,[],.tmp rfl .nil,bZ _,⟨a8,rfl,ak⟩⟩
theorem QM{n:Nat}(aw:n<1000000000000000000):Fn (aO Q g0) 63 [.int .i64 (n:Int)] [] J (fun u m' ae=>u=.int .u64 (n:Int)/\m'=[]/\J=ae):=by
 refine Fn.ck (ch Tryz.func63) rfl rfl fun H=>?_;refine rg ?_;refine I V.aI ?_;refine bb ?_;refine I V.aJ ?_;refine I V.a' ?_;refine aD ?_;refine If (fun dH=>?_) fun dH=>?_
 ·exfalso;omega
 ·refine aG ?_;refine ad.skip ?_;refine rg ?_;refine I V.aJ ?_;refine I V.gk ?_;refine I V.aI ?_;refine aD ?_;refine ad.ret ?_;refine'⟨.inr rfl,rfl,_,[],.tmp rfl .nil,bZ _,⟨rfl,rfl,rfl⟩⟩
theorem ae3{n d:Nat}{e:TypeId}(b6:J 2=some (ca .u8 jI,e))(aq:Nat.blt 2 (aO Q g0).g0=true)(aw:n<8192)(au:d<8192)(gm:0<d):Fn (aO Q g0) 95 [.bool false,.int .u64 (n:Int),.int .u64 (d:Int)] [] J (kq J (aV (n:Int) d)):=by
 obtain⟨g,Ap⟩:∃g,g=Nat.gcd n d:=⟨_,rfl⟩;have Dl:0<g:=by rw[Ap];exact sd _ gm
 obtain⟨p,ao⟩:∃p,p=n / g:=⟨_,rfl⟩;obtain⟨q,cc⟩:∃q,q=d / g:=⟨_,rfl⟩;have rG:p<=n:=by rw[ao];exact sc _ _
 have DF:q<=d:=by rw[cc];exact sc _ _
 have HX:(n:Int).tdiv (g:Int)=(p:Int):=by rw[ao];exact(oJ n g).symm
 have H4:(d:Int).tdiv (g:Int)=(q:Int):=by rw[cc];exact(oJ d g).symm
 have aC:IntKind.u64.wrap ((n:Int).tdiv (g:Int))=(p:Int):=by rw[HX];exact wrap_u64 (by omega) (by omega)
 have aZ:IntKind.u64.wrap ((d:Int).tdiv (g:Int))=(q:Int):=by rw[H4];exact wrap_u64 (by omega) (by omega)
 have Aa:∀J,Fn (aO Q g0) 62 [.int .u64 (IntKind.u64.wrap ((n:Int).tdiv (g:Int)))] [] J (kp J p):=fun J=>by rw[aC];exact Ek (by omega)
 have W5:∀J,Fn (aO Q g0) 62 [.int .u64 (IntKind.u64.wrap ((d:Int).tdiv (g:Int)))] [] J (kp J q):=fun J=>by rw[aZ];exact Ek (by omega)
 have al:aV (n:Int) d=(⟨(p:Int),q⟩:cH):=by
  unfold aV;rw[g8,<-Ap,<-Int.natCast_ediv,ao,cc]
 have HQ:¬((p:Int)<0):=by omega
 refine Fn.ck (ch Tryz.func95) rfl rfl fun H=>?_;refine rg ?_;refine' W.step rfl (.of (eS rfl rfl rfl (jY Q g0) rfl rfl rfl fun dY=>?_));refine bb ?_;refine aH ?_;refine b4 (G:=L4 b6 aq aw au) (h:=?_);rintro v' m' ae hle ⟨rfl,rfl,rfl⟩;rw[<-Ap];refine I V.aI ?_;refine aD ?_;refine ad.draw rfl (by kernel_rfl) (a2:=[.val 0,.val 1,.val 2,.val 3,.val 5,.val 6,.val 7,.bA 4,.b2 [7,6,5,0],.bA 8,.val 9,.b2 [0],.bA 10]) (by kernel_rfl) ?_;refine e3 ?_;refine a6 rfl V.ha ?_;refine e3 ?_;refine a6 rfl V.ha ?_;refine bi.iU ?_;refine' aS.dO rfl rfl rfl rfl rfl rfl rfl rfl rfl c8 (Aa _) ?_;rintro v' m' bq hle ⟨a8,rfl,eL⟩;have gr:=eL.f';obtain⟨eU,e2,rfl,fm⟩:=gr.cU;refine aS.b2 ez ?_;refine' aS.dO rfl rfl rfl rfl rfl rfl rfl rfl rfl (cj (fun _ aK=>kp.af a8 (by rw[aC,aZ] at aK;injection aK with aK;injection aK with _ aK;omega) rfl) c8) (W5 _) ?_;rintro v' m' dR hle ⟨bO,rfl,ep⟩;have h2:=ep.f';obtain⟨eP,dU,rfl,ho⟩:=h2.cU;refine aS.jj (fun x U=>ju (f:=fun x=>(x.f,x.cl)) U) ?_;refine a6 rfl V.jx ?_;refine bi.b2 ez ?_;refine k7 rfl ?_;refine bi.nil ?_;refine aG ?_;refine ad.ret ?_;refine'⟨.inr rfl,rfl,_,[],.cell rfl (by repeat first|exact .head _|refine .tail _ ?_|refine d' _ ?_) (fb (dw rfl) rfl) (.nil),bZ _,⟨a8.trans bO,rfl,.slice eU _ e2,.slice eP _ dU,by rw[al,show cO (⟨(p:Int),q⟩:cH) (.slice eU (ap p).length e2) (.slice eP (ap q).length dU)=.agg #[.bool (decide ((p:Int)<0)),.slice eU (ap p).length e2,.slice eP (ap q).length dU] from rfl,e8 HQ];rfl,by rw[al];show dW _ _ ((p:Int)).natAbs;rw[g8];exact gr.mono bO,by rw[al];exact h2⟩⟩
theorem abd:Fn (aO Q g0) 122 [] [] J (kp J 1):=by
 have fR:ap 1=[1]:=by rw[qk (by decide),show 1 / 1000000000=0 from rfl,kh]
 refine Fn.ck (ch Tryz.func122) rfl rfl fun H=>?_;refine rg ?_;refine I V.aI ?_;refine bb ?_;refine ja (iy Q g0) fun bx=>?_;refine I V.aI ?_;refine bR ?_;refine ad.iW rfl fun bO=>?_;refine aG ?_;refine ad.ret ?_;refine'⟨.inr rfl,rfl,_,[],.tmp rfl .nil,bZ _,?_⟩;refine⟨bO,rfl,?_⟩;show ey _ _ 1 _ (ap 1).length (ca .u32 (ap 1));rw[fR];exact .row (an.hH _ _ _) rfl rfl (fun _=>⟨by decide,by decide⟩) (fun _=>rfl)
theorem afl:Fn (aO Q g0) 94 [] [] J (kq J (⟨0,1⟩:cH)):=by
 have sL:ap 0=[]:=kh;refine Fn.ck (ch Tryz.func94) rfl rfl fun H=>?_;refine rg ?_;refine' W.step rfl (.of (eS rfl rfl rfl (jY Q g0) rfl rfl rfl fun hX=>?_));refine bb ?_;refine b4 (G:=abd) (h:=?_);rintro v' m' bq hle ⟨a8,rfl,eL⟩;have gr:=eL.f';obtain⟨eU,e2,rfl,fm⟩:=gr.cU;refine I V.jx ?_;refine eG ?_;refine aD ?_;refine ad.ret ?_;refine'⟨.inr rfl,rfl,_,[],.cell rfl (by repeat first|exact .head _|refine .tail _ ?_|refine d' _ ?_) (fb (dw rfl) rfl) (.nil),bZ _,⟨a8,rfl,.slice none 0 0,.slice eU _ e2,rfl,⟨3,by show ey _ _ 1 _ (ap 0).length (ca .u32 (ap 0));rw[sL];exact .nil⟩,gr⟩⟩
theorem acx{n d:Nat}{v w:Value}{e:TypeId}(b6:J 2=some (ca .u8 jI,e))(aq:Nat.blt 2 (aO Q g0).g0=true)(aa:dW J v n)(ab:dW J w d)(aw:n<8192)(au:d<8192)(gm:0<d):Fn (aO Q g0) 61 [.bool false,v,w] [] J (kq J (aV (n:Int) d)):=by
 have g3:=aa;have hb:=ab;obtain⟨br,bI,bn,rfl,aR,eb,_⟩:=aa.un (by omega);obtain⟨bN,cY,bQ,rfl,aN,e',_⟩:=ab.un (by omega);have fR:=eb.le;have fZ:=e'.le;refine Fn.ck (ch Tryz.func61) rfl rfl fun H=>?_;refine rg ?_;refine' W.step rfl (.of (eS rfl rfl rfl (jY Q g0) rfl rfl rfl fun dY=>?_));refine bb ?_;refine aH ?_;refine I V.a' ?_;refine aD ?_;refine If (fun dq=>?_) fun dq=>?_
 ·have a0:n=0:=eb.z (by omega);refine rg ?_;refine b4 (G:=afl) (h:=?_);rintro v' m' bq hle ⟨a8,rfl,fy,fF,rfl,bY⟩;have cK:=bY;obtain⟨hI,e7,rfl,lo⟩:=bY.n.cU;obtain⟨i',dq,rfl,ln⟩:=bY.d.cU;refine eG ?_;refine aD ?_;refine ad.ret ?_;refine'⟨.inr rfl,rfl,_,[],.cell rfl (by repeat first|exact .head _|refine .tail _ ?_|refine d' _ ?_) (fb (dw rfl) rfl) (.nil),bZ _,?_⟩;first
   |(have c:=a0;exact⟨a8,rfl,_,_,by rw[a0,show aV ((0:Nat):Int) d=⟨0,1⟩ from mV gm];rfl,by rw[a0,show aV ((0:Nat):Int) d=⟨0,1⟩ from mV gm];exact cK⟩)
   |exact⟨a8,rfl,_,_,rfl,cK⟩
 ·refine aG ?_;refine ad.skip ?_;refine rg ?_;refine aH ?_;refine I V.a' ?_;refine I V.aJ ?_;refine gz 15 (fun Wq=>?_) fun Wq=>?_
  ·refine bM V.aJ ?_;refine bM V.gL ?_;refine bM V.a' ?_;refine I V.bo ?_;refine aD ?_;refine If (fun oS=>?_) fun oS=>?_
   ·refine rg ?_;refine aH ?_;refine b4 (G:=EW g3 (by omega)) (h:=?_);rintro v' m' ae hle ⟨rfl,rfl,rfl⟩;refine I V.aJ ?_;refine b4 (G:=EW hb (by omega)) (h:=?_);rintro v' m' ae hle ⟨rfl,rfl,rfl⟩;refine b4 (G:=ae3 b6 aq aw au gm) (h:=?_);rintro v' m' bq hle ⟨a8,rfl,fy,fF,rfl,bY⟩;have cK:=bY;obtain⟨hI,e7,rfl,lo⟩:=bY.n.cU;obtain⟨i',dq,rfl,ln⟩:=bY.d.cU;refine eG ?_;refine aD ?_;refine ad.ret ?_;refine'⟨.inr rfl,rfl,_,[],.cell rfl (by repeat first|exact .head _|refine .tail _ ?_|refine d' _ ?_) (fb (dw rfl) rfl) (.nil),bZ _,?_⟩;first
     |(have c:=a0;exact⟨a8,rfl,_,_,by rw[a0,show aV ((0:Nat):Int) d=⟨0,1⟩ from mV gm];rfl,by rw[a0,show aV ((0:Nat):Int) d=⟨0,1⟩ from mV gm];exact cK⟩)
     |exact⟨a8,rfl,_,_,rfl,cK⟩
   ·exfalso;omega
  ·exfalso;omega
theorem aa0{n d:Nat}{e:TypeId}(b6:J 2=some (ca .u8 jI,e))(aq:Nat.blt 2 (aO Q g0).g0=true)(aw:n<8192)(au:d<8192)(gm:0<d):Fn (aO Q g0) 35 [.int .i64 (n:Int),.int .i64 (d:Int)] [] J (fun u m' ae=>J.le ae/\m'=[]/\∃v1 v2,u=.tuple #[cO (aV (n:Int) d) v1 v2,.int .i64 0]/\iD ae (aV (n:Int) d) v1 v2):=by
 refine Fn.ck (ch Tryz.func35) rfl rfl fun H=>?_;refine rg ?_;refine' W.step rfl (.of (eS rfl rfl rfl (jY Q g0) rfl rfl rfl fun c0=>?_));refine I V.aI ?_;refine bb ?_;refine I V.aJ ?_;refine I V.a' ?_;refine aD ?_;refine If (fun gA=>?_) fun gA=>?_
 ·exfalso;omega
 ·refine aG ?_;refine ad.skip ?_;refine rg ?_;refine I V.aJ ?_;refine I V.a' ?_;refine I V.aJ ?_;refine I V.a' ?_;refine' W.step rfl (Exec.val rfl rfl (uO rfl rfl rfl (.inr ⟨rfl,rfl⟩) (by kernel_rfl)) ?_);refine I V.aJ ?_;refine b4 (G:=QM (n:=n) (by omega)) (h:=?_);rintro v' m' ae hle ⟨rfl,rfl,rfl⟩;refine b4 (G:=Ek (n:=n) (by omega)) (h:=?_);rintro v' m' bq hle ⟨a8,rfl,eL⟩;have gr:=eL.f';obtain⟨eU,e2,rfl,fm⟩:=gr.cU;refine I V.aJ ?_;refine b4 (G:=QM (n:=d) (by omega)) (h:=?_);rintro v' m' ae hle ⟨rfl,rfl,rfl⟩;refine b4 (G:=Ek (n:=d) (by omega)) (h:=?_);rintro v' m' dR hle ⟨bO,rfl,ep⟩;have h2:=ep.f';obtain⟨eP,dU,rfl,ho⟩:=h2.cU;rw[e8 (show ¬((n:Nat):Int)<0 by omega),e8 (show ¬((d:Nat):Int)<0 by omega)];refine b4 (G:=acx ((a8.trans bO) _ _ b6) aq (gr.mono bO) h2 aw au gm) (h:=?_);rintro v' m' fV hle ⟨cL,rfl,fy,fF,rfl,bY⟩;have cK:=bY;obtain⟨hI,e7,rfl,lo⟩:=bY.n.cU;obtain⟨i',dq,rfl,ln⟩:=bY.d.cU;refine eG ?_;refine I V.aI ?_;refine aD ?_;refine ad.ret ?_;refine'⟨.inr rfl,rfl,_,[],.cell rfl (by repeat first|exact .head _|refine .tail _ ?_|refine d' _ ?_) (fb (dw rfl) rfl) (.tmp rfl .nil),bZ _,⟨(a8.trans bO).trans cL,rfl,_,_,rfl,cK⟩⟩
end
theorem JR{J:an}{e:TypeId}{v h:Value}(ak:ey J e 1 v 1 [h]):∃a off c cells bk,v=.slice (some ⟨a,off,none⟩) 1 c/\J a=some (cells,bk)/\nth cells (off+((0:Nat):Int).toNat*1)=some h:=by
 obtain⟨b,c,rfl,_,_,aY⟩:=ak.inv;obtain⟨a,off,cells,bk,rfl,aa,ab⟩:=aY (by decide);exact⟨a,off,c,cells,bk,rfl,aa,ab 0 (by decide)⟩
theorem Qa{α:Type}{l a b x y z:α}{ba:List α}:(l::b::(ba++[x,y,z,a])).Perm (ba++[a,l,b,x,y,z]):=by
 have aa:(ba++[a,l,b,x,y,z]).Perm ([l,b,x,y,z,a]++ba):=(ng).trans (Fh ba (ng (l₁:=[a]) (l₂:=[l,b,x,y,z])));have ab:([l,b]++(ba++[x,y,z,a])).Perm ([l,b]++([x,y,z,a]++ba)):=KZ _ ng;exact ab.trans aa.symm
section
variable {Q:ek Tryz.prog}{g0:Nat}{J:an}
theorem acK{vs:List Nat}{bits iF off c:Nat}{cells:List Value}{e aZ:TypeId}{br:Option Addr}{bI bn:Nat}(b6:J 2=some (ca .u8 jI,aZ))(aq:Nat.blt 2 (aO Q g0).g0=true)(fu:J iF=some (cells,e))(ay:nth cells (off+((0:Nat):Int).toNat*1)=some (.slice br bI bn))(hc:de .i64 J (.slice br bI bn) vs)(aw:vs.length=bI)(fR:1<=bI)(fZ:bI<=10)(fC:1<=bits)(pY:bits<=12)(ud:vs.sum=2 ^ bits):
 Fn (aO Q g0) 13 [.agg #[.int .i64 (bits:Int),.slice (some ⟨iF,off,none⟩) 1 c]] [] J (fun u m' ae=>J.le ae/\m'=[]/\∃am bS tH cells' bk bN bQ,u=.tuple #[.slice (some ⟨am,bS,none⟩) 1 tH,.int .i64 0]/\ae am=some (cells',bk)/\nth cells' (bS+((0:Nat):Int).toNat*1)=some (.slice bN bI bQ)/\fA ae 35 3 (ic ae) (.slice bN bI bQ) (vs.map fun v:Nat=>aV (v:Int) (2 ^ bits))):=by
 have aR:addrEq br br=true:=hc.addr;have aN:addrEq (some ⟨iF,off,none⟩) (some ⟨iF,off,none⟩)=true:=by simp[addrEq]
 have agz:=hc;obtain⟨iG,o3,mH⟩:=BM pY;have Xw:=ad0 (Q:=Q) (g0:=g0) (c:=c) fu ay hc aw fR fZ fC pY ud;obtain⟨u9,P4,Mr,MM,rfl,iO,Aq⟩:=hc.dB (by omega);generalize 2 ^ bits=M at*;have kO:bI<cu:=hC fZ (by decide);have qb:c4 8 (.agg #[.int .i64 (bits:Int),.slice (some ⟨iF,off,none⟩) 1 c]) (.agg #[.int .i64 (bits:Int),.slice (some ⟨iF,off,none⟩) 1 c])=true:=by simp[c4,gP,aN,jR,lI]
 refine Fn.Jg (ch Tryz.func13) rfl rfl fun H=>?_;refine rg ?_;refine fc fun bx=>?_;refine' W.step rfl (.of (eS rfl rfl rfl (R7 Q g0) rfl rfl rfl fun bX=>?_));refine' W.step rfl (.of (eS rfl rfl rfl (B4 Q g0) rfl rfl rfl fun cy=>?_));refine bb ?_;refine I V.hx ?_;refine b4 (G:=Xw) (h:=?_);rintro v' m' ae hle ⟨rfl,rfl,rfl⟩;refine I V.aI ?_;refine bb ?_;refine I V.aJ ?_;refine I V.a' ?_;refine aD ?_;refine If (fun fQ=>?_) fun fQ=>?_
 ·exfalso;exact fQ rfl
 ·refine aG ?_;refine ad.skip ?_;refine rg ?_;refine' W.step rfl (.of (eS rfl rfl rfl (R7 Q g0) rfl rfl rfl fun cr=>?_));refine bb ?_;refine I V.cF ?_;refine I V.c2 ?_;refine b4 (G:=QK aN) (h:=?_);rintro v' m' bq hle ⟨S5,rfl,rfl,rfl⟩;refine aD ?_;refine ad.block ?_;refine aG ?_;refine ad.JD rfl rfl (fun j8 b0 r al=>?_);refine⟨(S5,_)::[(b0,_),(cr,_),(cy,_),(bX,_),(bx,_)],[(j8,_)],_,(hR 2 rfl (hR 0 rfl (hR 1 rfl (hR 1 rfl (hR 1 rfl (hR 1 rfl (hR 0 rfl .nil))))))),trivial,QJ (qZ:=Fx (C2 al) b0 (fun m ae=>∃w ba oQ,m=(cr,.row [w] 46)::(ba++[(cy,.row [.int .i64 0] 29),(bX,.row [.slice none 0 0] 46),(bx,.row [.int .i64 (bits:Int),.slice (some ⟨iF,off,none⟩) 1 c] 44)])/\Acc 27 1 w 1 [.slice (some ⟨oQ,0,none⟩) bI bI] ba/\fA ae 35 3 (ic ae) (.slice (some ⟨oQ,0,none⟩) bI bI) (vs.map fun v:Nat=>aV (v:Int) M))) fu ay aR ?im,?o4⟩;case im=>
   refine pL.Jf al (by repeat first|exact .head _|refine .tail _ ?_|refine d' _ ?_) rfl rfl (fun H=>?_);refine rg ?_;refine I V.aI ?_;refine bR ?_;refine⟨rfl,_,(by repeat first|exact .head _ _ _ _|apply dp.tail|apply dp.app),?_⟩;refine aG ?_;refine ad.block ?_;refine rg ?_;refine aH ?_;refine' W.step rfl (.of (wQ rfl rfl rfl rfl rfl (JM Q g0) ?aX ?aa ?ab fun oQ=>?_));case aX=>exact bS
   case aa=>exact bS
   case ab=>exact bS
   refine I V.aI ?_;refine bR ?_;rw[jq];refine rg ?_;refine aH ?_;refine aD ?_;refine ad.block ?_;refine' ad.eH (l':=[(26,.int .i64 ((0):Int)),(1,_),(2,_),(3,_),(5,_),(7,_),(24,_),(25,_)]) ⟨?Kh,rfl,rfl,rfl,rfl,rfl,rfl,rfl,trivial⟩ (cd _) ?_;case Kh=>first|exact cq|exact aj some (aj (Value.int .u64) (by omega))|exact aj some (aj (Value.int .i64) (by omega))
   refine aG ?_;refine' ad.b0 (fun(cG:Nat×(List Value)×an)=>match cG with|(i,d,dn)=>⟨[(26,.int .i64 (i:Int))],[(oQ,.row (d++eN [.bool false,.slice none 0 0,.slice none 0 0] (bI -i)) 35),(b0,.loop {r with state:=.busy}),(cr,.row [.slice none 0 0] 46),(cy,.row [.int .i64 0] 29),(bX,.row [.slice none 0 0] 46),(bx,.row [.int .i64 (bits:Int),.slice (some ⟨iF,off,none⟩) 1 c] 44)],dn,i<=bI/\J.le dn/\nd 3 (fun _=>ic dn) d ((vs.map fun v:Nat=>aV (v:Int) M).take i),bI -i⟩) ⟨0,[],J⟩ ?af ?bT
   case af=>exact⟨fB _,an.le.refl _,rfl,fun i x h=>by cases h⟩
   case bT=>
    rintro⟨i,d,dn⟩ hinv;try simp only at hinv
    obtain⟨ar,et,hs⟩:=hinv;refine rg ?_;refine I V.a' ?_;refine aD ?_;refine If (fun kt=>?_) fun kt=>?_
    ·obtain⟨x,U⟩:∃x,vs[i]?=some x:=⟨_,eO (by omega)⟩;have OI:=rR (k8 U);have Dm:=Aq i x U;have agx:=et _ _ iO;have sH:d.length=i*3:=by rw[hs.1,gp,gx,g9 (by omega)]
     refine e4 ?_;refine aG ?_;refine ad.block ?_;refine rg ?_;refine I V.aJ ?_;refine I V.bj ?_;refine I V.c2 ?_;refine aH ?_;refine bb ?_;refine aH ?_;refine I V.c2 ?_;refine' W.step rfl (Exec.val rfl rfl (qG rfl rfl rfl ?aX ?aa) ?_);case aX=>exact bS
     case aa=>first|decide|exact bS|exact(show _<=((64:Nat):Int) from(by omega))
     rw[iG];refine b4 (G:=aa0 (et _ _ b6) aq (n:=x) (d:=M) (by omega) (by omega) mH) (h:=?_);rintro v' m' bq hle ⟨a8,rfl,fy,fF,rfl,bY⟩;have cK:=bY;obtain⟨eP,ef,dU,rfl,ho⟩:=bY.n.bD;obtain⟨jM,lL,gA,rfl,mf⟩:=bY.d.bD;refine aH ?_;refine' W.step rfl (.of (eS rfl rfl rfl (jY Q g0) rfl rfl rfl fun sl=>?_));refine eG ?_;refine I V.aI ?_;refine bb ?_;refine I V.aJ ?_;refine I V.a' ?_;refine aD ?_;refine If (fun tF=>?_) fun tF=>?_
     ·
        exfalso;exact tF rfl
     ·
        refine aG ?_;refine ad.skip ?_;refine rg ?_;refine aH ?_;refine I V.hx ?_;refine I V.bj ?_;refine' W.step rfl (.of (k4 rfl rfl rfl rfl (jX rfl) rfl rfl rfl ?aa ?af ?ao ?_));case ao=>repeat first|exact .head _ _ _ _|apply dp.tail|apply dp.app
        case af=>exact(by rw[show bI -i=(bI -(i+1))+1 by omega,wT];exact EK (by rw[sH];omega) rfl)
        case aa=>first|rfl|assumption
        refine bR ?_;have Ak:nd 3 (fun _=>ic bq) (d++o1 (aV (x:Int) M) (.slice eP ef dU) (.slice jM lL gA)) ((vs.map fun v:Nat=>aV (v:Int) M).take (i+1)):=by
         rw[tv,jt,U];exact(hs.mono fun _ _ _ q=>q.mono a8).app ⟨_,_,rfl,cK⟩ rfl
        rw[<-r9];refine rg ?_;refine I V.bW ?_;refine I V.aJ ?_;refine bR ?_;refine gF ⟨i+1,d++o1 (aV (x:Int) M) (.slice eP ef dU) (.slice jM lL gA),bq⟩ ?_ (hm:=.cons _ (.refl _));exact⟨by omega,et.trans a8,Ak⟩
    ·refine aG ?_;refine ad.exit ?_;obtain rfl:i=bI:=by omega
     rw[ib (by rw[gx];omega)] at hs;have Ht:d.length=i*3:=by rw[hs.1,gx,aw]
     refine ad.mY (m':=[(oQ,.row d 35),(b0,.loop {r with state:=.busy}),(cr,.row [.slice none 0 0] 46),(cy,.row [.int .i64 0] 29),(bX,.row [.slice none 0 0] 46),(bx,.row [.int .i64 (bits:Int),.slice (some ⟨iF,off,none⟩) 1 c] 44)]) (by show List.Perm _ [(oQ,dh.row (d++eN [.bool false,.slice none 0 0,.slice none 0 0] (i -i)) 35),_,_,_,_,_];rw[sf,y5,jr]) ?_;refine ad.iW rfl fun p7=>?_;have G4:fA (dn.add oQ (d,35)) 35 3 (ic (dn.add oQ (d,35))) (.slice (some ⟨oQ,0,none⟩) i i) (vs.map fun v:Nat=>aV (v:Int) M):=by
      refine⟨d,?_,fun j x U=>(hs.2 j x U).mono p7⟩;rw[gx,aw];exact ey.row (an.hH _ _ _) (by rw[kJ,ib (by omega)]) Ht (fun _=>⟨c5 _,kO⟩) (fun _=>rfl)
     refine rg ?_;refine I V.c2 ?_;refine I V.aJ ?_;refine ja (QP Q g0) fun S6=>?_;refine' W.step rfl (.of (nL rfl rfl rfl rfl rfl rfl (QP Q g0) (aeg Q g0) (fun i q=>by cases q) ?dr ?hm ?U ?dI ?dP ?aA fun ah7 IX NI aho=>?_));case dr=>exact .nil
     case hm=>exact .refl _
     case U=>exact qz
     case dI=>first|rfl|(simp;done)|(simp;omega)
     case dP=>first|rfl|exact rM _
     case aA=>exact(by decide)
     obtain⟨j5,gR,rfl,m2⟩:=NI.xv;refine W.mY (m':=(b0,.loop {r with state:=.busy})::(cr,.row [.slice none 0 0] 46)::(IX++[(cy,.row [.int .i64 0] 29),(bX,.row [.slice none 0 0] 46),(bx,.row [.int .i64 (bits:Int),.slice (some ⟨iF,off,none⟩) 1 c] 44),(S6,.row [.slice (some ⟨oQ,0,none⟩) i i] 27)])) Qa ?_;refine eG ?_;refine bR ?_;refine⟨none,_,_,(b0,_)::(cr,_)::(IX++[_,_,_]),rfl,(by repeat first|exact .head _ _ _ _|apply dp.tail|apply dp.app),(.cons_cons _ (.cons_cons _ (Sv (nR [_,_,_] [_]) _))),?_⟩;exact⟨rfl,⟨_,_,al.again,rfl,_,IX,oQ,rfl,NI,G4⟩,et.trans p7⟩
  rintro v m' bq a8 ⟨⟨cM,Ba,lC,rfl,w,ba,oQ,rfl,dr,G3⟩,Ds⟩;refine⟨cM,(b0,_)::(cr,_)::(ba++[_,_,_,(j8,_)]),(by rw[Ck,Ck,r9];exact .head _ _ _ _),(xw lC).1,?_⟩;rw[(xw lC).2];refine dr.m0 (dV:=[(j8,_),(b0,_),(cr,_),(cy,_),(bX,_),(bx,_)]) Qa (fun fV cL ak=>?_);obtain⟨am,bS,tH,cells',bk,rfl,xI,AO⟩:=JR ak;have G1:=fA.mono (R':=ic fV) cL (fun _ _ q=>q.mono cL) G3;refine rg ?_;refine I V.c2 ?_;refine eG ?_;refine eG ?_;refine aD ?_;refine ad.ret ?_;refine'⟨.inr rfl,_,_,[],(by first|exact .nil _|exact .CL (hR 0 rfl (hR 0 rfl (hR 0 rfl (hR 0 rfl (hR 0 rfl (hR 0 rfl .nil)))))) (.nil _)),.cell rfl (by repeat first|exact .head _|refine .tail _ ?_|refine d' _ ?_) (iV (dw rfl) rfl) (.cell rfl (by repeat first|exact .head _|refine .tail _ ?_|refine d' _ ?_) (iV (dw rfl) rfl) (.nil)),bZ _,⟨Ds.trans cL,rfl,am,bS,tH,cells',bk,_,_,rfl,xI,AO,G1⟩⟩
end
theorem Qb{α:Type}{l a b:α}{ba:List α}:(l::b::(ba++[a])).Perm (ba++[a,l,b]):=by
 have aa:(ba++[a,l,b]).Perm ([l,b,a]++ba):=(ng).trans (Fh ba (ng (l₁:=[a]) (l₂:=[l,b])));have ab:([l,b]++(ba++[a])).Perm ([l,b]++([a]++ba)):=KZ _ ng;exact ab.trans aa.symm
theorem abW{α:Type}{b a x y:α}{ba:List α}:(b::(ba++[x,y,a])).Perm (ba++[a,b,x,y]):=by
 have aa:(ba++[a,b,x,y]).Perm ([b,x,y,a]++ba):=(ng).trans (Fh ba (ng (l₁:=[a]) (l₂:=[b,x,y])));have ab:([b]++(ba++[x,y,a])).Perm ([b]++([x,y,a]++ba)):=KZ _ ng;exact ab.trans aa.symm
theorem abV{α:Type}{b x y:α}{ba:List α}:((b::ba)++[x,y]).Perm (ba++[b,x,y]):=by
 have aa:(ba++[b,x,y]).Perm (([b]++ba)++[x,y]):=by
  rw[show ba++[b,x,y]=(ba++[b])++[x,y] by simp];exact Fh _ ng
 exact aa.symm
section
variable {Q:ek Tryz.prog}{g0:Nat}{J:an}
theorem acC{ps:List Nat}{s am bS tH:Nat}{cells:List Value}{e aZ:TypeId}{br:Option Addr}{bI bn:Nat}(b6:J 2=some (ca .u8 jI,aZ))(aq:Nat.blt 2 (aO Q g0).g0=true)(fu:J am=some (cells,e))(ay:nth cells (bS+((0:Nat):Int).toNat*1)=some (.slice br bI bn))(hL:fA J 35 3 (ic J) (.slice br bI bn) (ps.map fun p:Nat=>aV (p:Int) s))(aw:ps.length=bI)(fR:1<=bI)(fZ:bI<=10)(af:0<s)(kf:s<=4096)(ao:ps.sum=s):
 Fn (aO Q g0) 37 [.slice (some ⟨am,bS,none⟩) 1 tH] [] J (fun u m' ae=>J.le ae/\m'=[]/\∃pM qv n2 cells' bk bN bQ,u=.slice (some ⟨pM,qv,none⟩) 1 n2/\ae pM=some (cells',bk)/\nth cells' (qv+((0:Nat):Int).toNat*1)=some (.slice bN bI bQ)/\fA ae 81 3 (j1 ae) (.slice bN bI bQ) (ps.map fun p:Nat=>aV (p:Int) s)):=by
 subst aw;have aR:addrEq br br=true:=hL.addr;have aN:addrEq (some ⟨am,bS,none⟩) (some ⟨am,bS,none⟩)=true:=by simp[addrEq]
 refine Fn.Jg (ch Tryz.func37) rfl rfl fun H=>?_;refine rg ?_;refine I V.aI ?_;refine bb ?_;refine aH ?_;refine I V.a' ?_;refine aD ?_;refine If (fun gA=>?_) fun gA=>?_
 ·exfalso;omega
 ·refine aG ?_;refine ad.skip ?_;refine rg ?_;refine' W.step rfl (.of (eS rfl rfl rfl (afh Q g0) rfl rfl rfl fun cy=>?_));refine bb ?_;refine I V.aJ ?_;refine b4 (G:=acV aN) (h:=?_);rintro v' m' bq hle ⟨tB,rfl,rfl,rfl⟩;refine aD ?_;refine ad.block ?_;refine aG ?_;refine ad.JD rfl rfl (fun j8 b0 r al=>?_);refine⟨(tB,_)::[(b0,_),(cy,_)],[(j8,_)],_,(hR 2 rfl (hR 0 rfl (hR 1 rfl (hR 0 rfl .nil)))),trivial,acU (qZ:=Fx (C2 al) b0 (fun m ae=>∃w ba bN bQ,m=(cy,.row [w] 74)::ba/\Acc 63 1 w 1 [.slice bN ps.length bQ] ba/\fA ae 81 3 (j1 ae) (.slice bN ps.length bQ) (ps.map fun p:Nat=>aV (p:Int) s))) fu ay aR ?im,?o4⟩;case im=>
   refine pL.Jf al (by repeat first|exact .head _|refine .tail _ ?_|refine d' _ ?_) rfl rfl (fun H=>?_);refine rg ?_;refine I V.aI ?_;refine bR ?_;refine⟨rfl,_,(by repeat first|exact .head _ _ _ _|apply dp.tail|apply dp.app),?_⟩;refine aG ?_;refine ad.block ?_;refine aG ?_;refine ad.draw rfl (by kernel_rfl) (a2:=[.val 0,.val 1,.bA 2,.iL 3,.b2 [0],.bA 4,.bA 5]) (by kernel_rfl) ?_;refine a6 rfl V.c2 ?_;refine a6 rfl V.aJ ?_;refine dl rfl (G:=EB b6 aq hL fR fZ af kf ao) (h:=?_);rintro v' m' dR bO ⟨_,rfl,eP,dU,rfl,rq⟩;have ho:addrEq eP eP=true:=rq.addr;refine bi.buildSlice rfl rfl rfl rfl rfl rfl (QR Q g0) rfl rfl rfl fun LF=>?_;refine bi.b2 ez ?_;refine' bi.tG rfl rfl (nL rfl rfl rfl rfl rfl rfl (QR Q g0) (aeh Q g0) (fun i q=>by cases q) ?dr ?hm ?U ?dI ?dP ?aA fun aeR D' xM ahk=>?_);case dr=>exact .nil
   case hm=>exact .refl _
   case U=>exact qz
   case dI=>first|rfl|(simp;done)|(simp;omega)
   case dP=>first|rfl|exact rM _
   case aA=>exact(by decide)
   obtain⟨j5,gR,rfl,m2⟩:=xM.xv;refine bi.mY (m':=(b0,.loop {r with state:=.busy})::(cy,.row [.slice none 0 0] 74)::(D'++[(LF,.row [.slice eP ps.length dU] 63)])) Qb.symm ?_;refine k7 rfl ?_;refine bi.nil ?_;refine⟨none,_,_,(b0,_)::(cy,_)::D',rfl,(by repeat first|exact .head _ _ _ _|apply dp.tail|apply dp.app),(.cons_cons _ (.cons_cons _ (nR _ _))),?_⟩;exact⟨rfl,⟨_,_,al.again,rfl,_,D',eP,dU,rfl,xM,rq⟩,bO⟩
  rintro v m' bq a8 ⟨⟨cM,Ba,lC,rfl,w,ba,bN,bQ,rfl,dr,G3⟩,Ds⟩;refine⟨cM,(b0,_)::(cy,_)::(ba++[(j8,_)]),(by rw[Ck,Ck];exact .head _ _ _ _),(xw lC).1,?_⟩;rw[(xw lC).2];refine dr.m0 (dV:=[(j8,_),(b0,_),(cy,_)]) Qb (fun fV cL ak=>?_);obtain⟨pM,qv,n2,cells',bk,rfl,xI,AO⟩:=JR ak;have G1:=fA.mono (R':=j1 fV) cL (fun _ _ q=>q.mono cL) G3;refine rg ?_;refine I V.c2 ?_;refine I V.aI ?_;refine aD ?_;refine ad.ret ?_;refine'⟨.inr rfl,_,_,[],(by first|exact .nil _|exact .CL (hR 0 rfl (hR 0 rfl (hR 0 rfl .nil))) (.nil _)),.tmp rfl .nil,bZ _,⟨Ds.trans cL,rfl,pM,qv,n2,cells',bk,_,_,rfl,xI,AO,G1⟩⟩
theorem acp{cr:Nat}{ys:List Value}:oI (aO Q g0) 36 [.pointer (some ⟨cr,0,none⟩)] .returning [(cr,.row ys 29)] J (fun u m' ae=>u=.returning/\m'=[(cr,.row ys 29)]/\J=ae):=by
 refine oI.ck (ch Tryz.func36) rfl rfl fun H=>?_;refine rg ?_;refine' W.recover rfl rfl rfl rfl rfl rfl rfl ?_;refine b4 (G:=Gd (ys:=ys)) (h:=?_);rintro v' m' ae hle ⟨rfl,rfl⟩;refine bR ?_;exact⟨by first|exact .inl rfl|exact .inr rfl,rfl,[],_,.nil,.refl _,rfl,rfl,rfl⟩
theorem acq{cI:List Nat}{bits am bS tH:Nat}{cells:List Value}{e aZ:TypeId}{br:Option Addr}{bI bn:Nat}(b6:J 2=some (ca .u8 jI,aZ))(aq:Nat.blt 2 (aO Q g0).g0=true)(fu:J am=some (cells,e))(ay:nth cells (bS+((0:Nat):Int).toNat*1)=some (.slice br bI bn))(hL:fA J 35 3 (ic J) (.slice br bI bn) (cI.map fun p:Nat=>aV (p:Int) (2 ^ bits)))(aw:cI.length=bI)(fR:1<=bI)(fZ:bI<=10)(fC:1<=bits)(pY:bits<=12)(ud:cI.sum=2 ^ bits):
 Fn (aO Q g0) 14 [.slice (some ⟨am,bS,none⟩) 1 tH,.int .i64 (bits:Int)] [] J (fun u m' ae=>J.le ae/\m'=[]/\∃pM qv n2 cells' bk bN bQ,u=.tuple #[.agg #[.int .i64 (bits:Int),.slice (some ⟨pM,qv,none⟩) 1 n2],.int .i64 0]/\ae pM=some (cells',bk)/\nth cells' (qv+((0:Nat):Int).toNat*1)=some (.slice bN bI bQ)/\de .i64 ae (.slice bN bI bQ) cI):=by
 obtain⟨iG,o3,mH⟩:=BM pY;have o5:=acO (by omega) mH ud;subst aw;have aR:addrEq br br=true:=hL.addr;have aN:addrEq (some ⟨am,bS,none⟩) (some ⟨am,bS,none⟩)=true:=by simp[addrEq]
 refine qO.JF (qO.ck (ch Tryz.func14) rfl rfl fun H=>?_);refine rg ?_;refine' W.step rfl (.of (eS rfl rfl rfl (E5 Q g0) rfl rfl rfl fun c0=>?_));refine' W.step rfl (.of (eS rfl rfl rfl (B4 Q g0) rfl rfl rfl fun cr=>?_));refine bb ?_;refine I V.fn ?_;refine' W.defer rfl rfl rfl rfl rfl rfl rfl ?_;refine bb ?_;refine I V.aJ ?_;refine I V.a' ?_;refine I V.aJ ?_;refine gz 12 (fun vD=>?_) fun vD=>?_
 ·exfalso;omega
 ·refine bM V.aJ ?_;refine bM V.a' ?_;refine I V.bo ?_;refine aD ?_;refine If (fun fQ=>?_) fun fQ=>?_
  ·exfalso;omega
  ·refine aG ?_;refine ad.skip ?_;refine rg ?_;refine aH ?_;refine' W.step rfl (.of (eS rfl rfl rfl (E5 Q g0) rfl rfl rfl fun dY=>?_));refine eG ?_;refine bb ?_;refine I V.aJ ?_;refine b4 (G:=acC b6 aq fu ay hL rfl fR fZ mH o3 ud) (h:=?_);rintro v' m' bq hle ⟨a8,rfl,pM,qv,n2,CE,cJ,bN,bQ,rfl,Nu,OA,Nn⟩;have bG:addrEq bN bN=true:=Nn.addr;refine aH ?_;refine aD ?_;refine ad.block ?_;refine' ad.eH (l':=[(22,.int .i64 ((0):Int)),(1,_),(4,_),(5,_),(6,_),(20,_),(21,_)]) ⟨?aeS,rfl,rfl,rfl,rfl,rfl,rfl,trivial⟩ (cd _) ?_;case aeS=>first|exact cq|exact aj some (aj (Value.int .u64) (by omega))|exact aj some (aj (Value.int .i64) (by omega))
   refine aG ?_;refine' ad.b0 (fun(cG:Nat×aU×an)=>match cG with|(i,hy,dn)=>⟨[(22,.int .i64 (i:Int))],hy++[(cr,.row [.int .i64 0] 29),(c0,.row [.int .i64 0,.slice none 0 0] 44)],dn,(i=0/\hy=[(dY,.row [.int .i64 (bits:Int),.slice none 0 0] 44)]/\dn=bq)\/(i=1/\bq.le dn/\∃w ba dj dH,hy=(dY,.row [.int .i64 (bits:Int),w] 44)::ba/\Acc 22 1 w 1 [.slice dj cI.length dH] ba/\de .i64 dn (.slice dj cI.length dH) cI),1 -i⟩) ⟨0,[(dY,.row [.int .i64 (bits:Int),.slice none 0 0] 44)],bq⟩ ?af ?bT
   case af=>exact .inl ⟨rfl,rfl,rfl⟩
   case bT=>
    rintro⟨i,hy,dn⟩ hinv;try simp only at hinv
    skip
    refine rg ?_;refine I V.a' ?_;refine aD ?_;refine If (fun mB=>?_) fun mB=>?_
    ·rcases hinv with⟨rfl,rfl,rfl⟩|⟨aa,_⟩
     case inr=>exact absurd mB (by omega)
     refine e4 ?_;refine aG ?_;refine ad.block ?_;refine rg ?_;refine I V.bj ?_;refine I V.c2 ?_;refine I V.aI ?_;refine aD ?_;refine ad.draw rfl (by kernel_rfl) (a2:=[.val 0,.val 1,.val 2,.val 3,.bA 4,.iL 5,.b2 [1,0],.bA 6,.val 7,.bA 8]) (by kernel_rfl) ?_;refine a6 rfl V.cF ?_;refine a6 rfl V.c2 ?_;refine e3 ?_;refine dl rfl (G:=QD Nn fR fZ mH o3 ud pY) (h:=?_);rintro v' m' fV hle ⟨cL,rfl,cW,cZ,rfl,hc⟩;rw[o5] at hc;have dd:addrEq cW cW=true:=hc.addr;refine bi.buildSlice rfl rfl rfl rfl rfl rfl (JN Q g0) rfl rfl rfl fun FG=>?_;refine bi.b2 ez ?_;refine' bi.tG rfl rfl (nL rfl rfl rfl rfl rfl rfl (JN Q g0) (aef Q g0) (fun i q=>by cases q) ?dr ?hm ?U ?dI ?dP ?aA fun ah6 IU NH ahm=>?_);case dr=>exact .nil
     case hm=>exact .refl _
     case U=>exact qz
     case dI=>first|rfl|(simp;done)|(simp;omega)
     case dP=>first|rfl|exact rM _
     case aA=>exact(by decide)
     obtain⟨j5,gR,rfl,m2⟩:=NH.xv;refine bi.mY (m':=(dY,.row [.int .i64 (bits:Int),.slice none 0 0] 44)::(IU++[(cr,.row [.int .i64 0] 29),(c0,.row [.int .i64 0,.slice none 0 0] 44),(FG,.row [.slice cW cI.length cZ] 22)])) abW.symm ?_;refine a6 rfl V.cF ?_;refine k7 rfl ?_;refine bi.nil ?_;refine rg ?_;refine I V.bW ?_;refine I V.aJ ?_;refine bR ?_;refine gF ⟨1,(dY,.row [.int .i64 (bits:Int),.slice j5 1 gR] 44)::IU,fV⟩ ?_ (hm:=.cons_cons _ (Sv (nR [_,_] [_]) _));exact .inr ⟨rfl,cL,_,IU,cW,cZ,rfl,NH,hc⟩
    ·rcases hinv with⟨aa,_⟩|⟨rfl,xH,w,ba,dj,dH,rfl,dr,W1⟩
     ·exact absurd mB (by omega)
     refine aG ?_;refine ad.exit ?_;obtain⟨eU,e2,rfl,fm⟩:=dr.xv;refine dr.m0 (dV:=[(dY,_),(cr,_),(c0,_)]) abV (fun lV eM ak=>?_);have W2:=W1.mono eM;refine rg ?_;refine I V.hx ?_;refine eG ?_;refine eG ?_;refine aD ?_;refine ad.ret ?_;refine⟨.returning,rfl,.inr ⟨36,#[.pointer (some ⟨cr,0,none⟩)],#[],[(cr,.row [.int .i64 0] 29)],[(dY,_),(c0,_)],rfl,.swap _ _ _,acp.mono ?_⟩⟩;rintro Rv m' ae ⟨rfl,rfl,rfl⟩ _;obtain⟨Tb,aa8,vg,T4,cp,Ho,WX,Y5⟩:=JR ak;injection Ho with Ho _ agM
     subst Ho;exact .inl ⟨rfl,_,[],.cell rfl (.tail _ (.tail _ (.head _))) (fb (dw rfl) rfl) (.cell rfl (.head _) (iV (dw rfl) rfl) .nil),bZ _,a8.trans (xH.trans eM),rfl,Tb,aa8,e2,T4,cp,dj,dH,rfl,WX,Y5,W2⟩
end
section
variable {Q:ek Tryz.prog}{g0:Nat}{J:an}
end
end
end Go.Opn
