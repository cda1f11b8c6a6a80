/- A part of the proof of TableTurns. -/
import Derived.Test.YtlgjlbpafcifoaaGreatDoorCba
import Derived.Test.YtlgjlbpafcifoaaGreatDoorCaz
set_option linter.unusedVariables false
namespace Go.Opn
noncomputable section
theorem aeP{A D l:Nat}(cK:0<D):(l+1000000000*A) / D=(l+1000000000*(A % D)) / D+1000000000*(A / D)/\(l+1000000000*A) % D=(l+1000000000*(A % D)) % D:=by
 have e:l+1000000000*A=(l+1000000000*(A % D))+D*(1000000000*(A / D)):=by
  conv=>lhs;rw[<-xS A D]
  rw[cH,<-D9,rJ 1000000000 D]
 rw[e];exact⟨S6 _ _ cK,Nat.add_mul_mod_self_left _ _ _⟩
theorem aeO{D l c:Nat}(ap:l<1000000000)(aD:c<D):(l+1000000000*c) / D<1000000000:=by
 rw[mB I];omega
theorem ZW(l:List Nat)(i:Nat):aI l=aI (l.take i)+1000000000 ^ i*aI (l.drop i):=by
 rcases hL l.length i with h|h
 ·rw[cM I,sL I];rfl
 ·exact zb l i h
theorem ap3{l:List Nat}(h:dG l)(i:Nat):aI (l.take i)<1000000000 ^ i:=by
 have ab:=lB (vi (i:=i) h);exact hA ab (nE bm (by rw[dY];omega))
theorem OR{V i:Nat}:aI ((ag V).drop i)=V / 1000000000 ^ i:=by
 have ab:=ZW (ag V) i;rw[e1] at ab;have ad:=ap3 (hx V) i;have ao:0<1000000000 ^ i:=um bm;have:V / 1000000000 ^ i=(aI ((ag V).take i)+1000000000 ^ i*aI ((ag V).drop i)) / 1000000000 ^ i:=by rw[<-ab]
 rw[this,S6 _ _ ao,rG ad,kH]
theorem aam{Y n T:Nat}(az:(ag Y)[n]?=some T):T*1000000000 ^ n<=Y:=by
 have ab:=ZW (ag Y) n;rw[e1,vt az,cH] at ab;rw[dp];omega
theorem afB{V Y n T:Nat}(az:(ag Y)[n]?=some T)(b1:0<T)(jo:V<1000000000*Y):V / Y<=Nat.min (aI ((ag V).drop n) / T) 999999999:=by
 have hh:0<Y:=by
  have ab:=aam az;have ad:0<T*1000000000 ^ n:=kp b1 (um bm);omega
 have ab:V / Y<1000000000:=by rw[mB hh];exact jo
 refine Nat.le_min.2 ⟨?_,I⟩;rw[OR,Is b1,Is (um bm),e4];exact dA (hf _ (aam az)) (Nat.div_mul_le_self V Y)
theorem VL{V Y n:Nat}(az:(ag Y).length=n+1)(jo:V<1000000000*Y)(j:Nat)(aY:n<=j):aI ((ag V).drop j)<1000000000000000000:=by
 have ab:=n6 (x:=Y) (k:=n+1) I;rw[OR];have ao:0<1000000000 ^ j:=um bm;rw[mB ao];have ad:1000000000*Y<1000000000 ^ (n+2):=by rw[ff 1000000000 (n+1),dp];exact BN ab bm
 have aL:1000000000 ^ (n+2)=1000000000000000000*1000000000 ^ n:=by rw[pN,dp]
 have a6:1000000000 ^ n<=1000000000 ^ j:=nE bm aY;omega
theorem afk{Y k m:Nat}{l:List Nat}(ap:dG l)(hk:l.length -k<=m)(az:(ag Y).length=m+1):aI (l.drop k)<Y:=by
 have ab:=lB (KP (i:=k) ap);have ad:=RV (zI Y) (fun q=>by rw[q] at az;cases az);rw[e1,az,lg] at ad;have aL:1000000000 ^ (l.drop k).length<=1000000000 ^ m:=nE bm (by rw[ld];exact hk);omega
theorem T6:∀{k:Nat} {l:List Nat},jy l->jy (l.drop k)
 |0,_,h=>h
 |k+1,[],h=>by rw[List.drop_nil];exact h
 |k+1,x::l,h=>by rw[SL];exact T6 (MZ h)
theorem drop_set{l:List Nat}{i v:Nat}(h:i<l.length):(l.set i v).drop i=v::l.drop (i+1):=by
 rw[afj (l:=l.set i v) (x:=v) (by rw[mz,a2 rfl,a2 h]),BI I]
where
 afj {l:List Nat} {i x:Nat} (h:l[i]?=some x):l.drop i=x::l.drop (i+1):=by
  have ak:=(gS.1 h).1;have U:l[i]=x:=by rw[dX ak] at h;injection h
  rw[Ic ak,U]
theorem Y2{L d:List Nat}{i a Y R V:Nat}(hh:0<Y)(aF:L[i]?=some a)(al:i<d.length)(dq:R=aI (L.drop (i+1)) % Y)(fY:aI (d.drop (i+1))=aI (L.drop (i+1)) / Y)(jo:V=a+1000000000*R):aI ((d.set i (V / Y)).drop i)=aI (L.drop i) / Y/\V % Y=aI (L.drop i) % Y:=by
 have h:=aeP (A:=aI (L.drop (i+1))) (l:=a) hh;rw[drop_set al,vt aF];show V / Y+1000000000*aI (d.drop (i+1))=_/\_;rw[fY,h.1,h.2,jo,dq];exact⟨rfl,rfl⟩
end
end Go.Opn
set_option maxRecDepth 100000
set_option maxHeartbeats 8000000
set_option linter.unusedSimpArgs false
namespace Go.Opn
noncomputable section
open Go.Cre Go.RowKit Go.Proofs
theorem alb{u y k:Nat}(h:u<1000000000*y)(au:(ag y).length<=k):(ag u).length<=k+1:=kZ (hA h (by
 rw[ff,dp];exact eK _ (rH (n6 au))))
theorem Ku{x f k:Nat}(U:(ag x).length<=k)(aA:f<1000000000):(ag (x*f)).length<=k+1:=by
 refine kZ ?_;have ab:=n6 U;rw[ff];exact abS ab I bm
theorem KB{J:af}:cD J (.slice none 0 0) 0:=by
 show cJ .u32 J _ (ag 0);rw[nl];exact cJ.nil
theorem ad7{x y:Nat}(h:¬iN x y<0):y<=x:=by
 rcases hL x y with q|q
 ·exact absurd (rP.2 q) h
 ·exact q
theorem n5{x y:Nat}(h:y<=x):(ag y).length<=(ag x).length:=by
 rcases hL (ag x).length (ag y).length with q|q
 ·have:=va q;omega
 ·exact q
abbrev ab1(J:af)(x y:Nat):Value->aO->af->Prop:=fun u m' ae=>J.le ae/\m'=[]/\∃bt cv,u=.tuple #[bt,cv]/\cD ae bt (x / y)/\cD ae cv (x % y)
section
variable {K:dy}{B:c5}{o:Oper}{n:Nat}{ds:dJ}{l:List (Nat×Value)}{m m':aO}{J:af}
theorem RU{c:Call}{x y:Operand}{k:IntKind}{a b:Int}(ah:o.op=.call c)(aD:c.callee=.builtin .min)(hZ:c.args.toList=[x,y])(U:bx l x=some (.int k a))(au:bx l y=some (.int k b)):cO K B o n ds l m J (.int k (min a b)):=by
 intro call aE S H aj av;rw[zS ah aD];have nf:c.args=#[x,y]:=by rw[<-Ss];exact hZ
 have:fl K.P S.T H o=some (.val (.int k (min a b)) H):=by
  refine qn aj ?_ U au rfl rfl ?_ rfl
  ·rw[ah]
   show(Call.operands c).toList=_;simp[Call.operands,aD,nf]
  ·unfold execOp;simp only[ah]
   have aq:e0 K.P (resolve (px S.T H) c o.type)=some {target:=.builtin .min c.argTypes o.type (c.args.map fun|.const _=>true|_=>false),args:=#[.int k a,.int k b]}:=by
        unfold resolve;simp only[aD,nf];show some _=some _;simp[hN aj H U,hN aj H au];exact⟨by cases x<;>rfl,by cases y<;>rfl⟩
   rw[gM aq];show e0 K.P ((Builtin.min_ c.argTypes o.type #[.int k a,.int k b]) >>= fun v=>pure (Next.value v))=_;have:e0 K.P (Builtin.min_ c.argTypes o.type #[.int k a,.int k b])=some (.int k (min a b)):=by
        show some (Value.int k (if b<a then b else a))=_;congr 2
        split<;>omega
   rw[gM this];rfl
 unfold pY;rw[m6 aj H (vs:=[.int k a,.int k b]) (by rw[hZ];simp only[hC,U,au])];exact this
theorem eW.rd{g0:Nat}{e:TypeId}{sz k:Nat}{v:Value}{cells:List Value}{a8:aO}(h:eW e sz v k cells a8)(hm:∀x∈a8,x∈m):nG g0 B J m sz v k cells:=by
 rcases il k with rfl|hk
 ·intro H av
  rcases h with⟨h,_,az⟩|⟨a,full,rest,rfl,_,_,ab,_⟩
  ·cases h with
   |nil=>exact⟨rfl,rfl⟩
   |jF a=>exact⟨rfl,rfl⟩
   |opn ab ad=>exact⟨rfl,by rw[jA] at ab;rw[kn ab];rfl⟩
   |cap=>exact absurd (.head _) (az _ _ _)
  ·exact⟨rfl,by rw[jA] at ab;rw[<-ab];rfl⟩
 ·obtain⟨a,full,rest,rfl,rfl,ab,ad⟩:=h.row hk
  intro H av;refine⟨rfl,?_⟩;obtain⟨f,_,g,_⟩:=(av.own _ _ (hm _ (.head _))).1;unfold jn;cases k with
  |zero=>
   simp only
   rw[jA] at ab;rw[<-ab];rfl
  |succ k=>
   simp only[g];rw[v9,g5,xx I,ab]
end
theorem eW.qU{e:TypeId}{sz k:Nat}{v:Value}{cells:List Value}{a8:aO}(h:eW e sz v k cells a8):∃b c,v=.slice b k c:=by
 rcases h.form with⟨b,aK,aH,_⟩|⟨a,full,rest,aK,_⟩
 ·exact⟨_,_,by rw[aH];exact aK⟩
 ·exact⟨_,_,aK⟩
theorem ZS{l:List Value}{i:Nat}{v:Value}(h:i<l.length):gf i l [v]=some (l.set i v):=by
 rw[Hu _ _ _ (by rw[zl];omega),abD,a2 h,my];rfl
theorem eW.put{e:TypeId}{a k i x:Nat}{full:List Value}{rest:List Nat}{l:List Nat}(aA:full.take (k*1)=bW .u32 l)(hk:k*1<=full.length)(ap:l.length=k)(ak:i<k):eW e 1 (.slice (some ⟨a,0,none⟩) k cG) (l.set i x).length (bW .u32 (l.set i x)) [(a,.opn (full.set i (.int .u32 (x:Int))) e rest 0)]:=by
 have h:=eW.of (e:=e) (sz:=1) (k:=k) (a:=a) (full:=full.set i (.int .u32 (x:Int))) (rest:=rest) (by rw[g6];exact hk);have ad:(full.set i (.int .u32 (x:Int))).take (k*1)=bW .u32 (l.set i x):=by
  rw[List.take_set,aA];unfold bW;rw[Ii]
 rw[ad] at h;rw[g6,ap];exact h
section
variable {Q:cZ Tryz.prog}{g0:Nat}{J:af}
theorem KX{v w:Value}{x y:Nat}(ab:cD J v x)(ad:cD J w y)(au:y≠0)(mf:(ag x).length<=60000)(ni:(ag y).length<=60000):Fn (aT Q g0) 100 [v,w] [] J (ab1 J x y):=by
 have kd:=ab;have jH:=ad;have ab:cJ .u32 J v (ag x):=ab;have ad:cJ .u32 J w (ag y):=ad;obtain⟨bs,bp,rfl⟩:=ab.form;obtain⟨bM,bN,rfl⟩:=ad.form;have eN:=tG au;obtain⟨zv,wx⟩:∃zv,(ag y)[(ag y).length -1]?=some zv:=⟨_,dX I⟩;have Vh:zv≠0:=Dc y _ (by rw[sM];exact wx);have Jw:=pv (hx y) wx;obtain⟨f,aA⟩:∃f,f=1000000000 / (zv+1):=⟨_,rfl⟩;have o8:0<f:=by rw[aA];exact L7 I I
 have tq:f<1000000000:=by rw[aA];exact Nat.div_lt_self bm I
 have air:(1000000000:Int).tdiv ((zv:Int)+1)=(f:Int):=by rw[aA];exact(xO 1000000000 (zv+1)).symm
 have asO:(ag f).length<=1:=kZ (by rw[BO];exact tq);have ahk:ag f=[f]:=sf I tq;obtain⟨X,dr⟩:∃X,X=x*f:=⟨_,rfl⟩;obtain⟨Y,hh⟩:∃Y,Y=y*f:=⟨_,rfl⟩;have as9:(ag X).length<=60001:=by rw[dr];exact Ku mf tq
 have Ft:(ag Y).length<=60001:=by rw[hh];exact Ku ni tq
 have Fs:0<Y:=by rw[hh];exact kp I o8
 have Og:=tG (jl Fs);obtain⟨T,b1⟩:∃T,(ag Y)[(ag Y).length -1]?=some T:=⟨_,dX I⟩;have as6:T≠0:=Dc Y _ (by rw[sM];exact b1);have ahN:=pv (hx Y) b1;obtain⟨a,o,qR,e,rfl,gD,ar⟩:=ad.ed I;have att:nth qR (o+(((ag y).length:Int) -1).toNat*1)=some (.int .u32 (zv:Int)):=by
  rw[show(((ag y).length:Int) -1).toNat=(ag y).length -1 by omega];exact ar _ _ wx
 refine Fn.b8 (b7 Tryz.func100) rfl rfl fun H=>?_;refine aa 0x439c0859 ?_;refine br (G:=KW kd jH I) (h:=?_);rintro v' m' ae hle ⟨rfl,rfl,rfl⟩;refine aa 0x5f04 ?_;refine If (fun hW=>?_) fun hW=>?_
 ·have b9:x<y:=rP.1 hW;refine aa 0x6af810839 ?_;refine bo ?_;first
   |exact⟨af.le.refl _,rfl,_,_,rfl,by rw[rG b9];exact KB,by rw[nD b9];exact kd⟩
   |exact⟨aM.trans (a9.trans (cq.trans (bS.trans (p4.trans nX)))),rfl,_,_,rfl,ez.fG,eh.fG⟩
 ·have jq:y<=x:=ad7 hW;have ahn:Y<=X:=by rw[dr,hh];exact eK _ jq
  have pb:=n5 ahn;refine aa 0xe78dc930ca10e757 ?_;rw[air,show IntKind.u64.wrap (f:Int)=(f:Int) from wrap_u64 I I,show IntKind.u32.wrap (f:Int)=(f:Int) from wrap_u32 I I];refine br (G:=RA (x:=f) tq) (h:=?_);rintro aqu m' bi aM ⟨_,rfl,b3⟩;have Fg:=b3.fG;refine aa 0x10e702 ?_;refine br (G:=xy (kd.mono aM) Fg I I) (h:=?_);rintro v' m' de a9 ⟨_,rfl,Fq⟩;rw[<-dr] at Fq;refine aa 0x21 ?_;refine br (G:=xy (jH.mono (aM.trans a9)) (Fg.mono a9) I I) (h:=?_);rintro v' m' fe cq ⟨_,rfl,Oh⟩;rw[<-hh] at Oh;have Fq:=Fq.mono cq;refine aa 0x6042 ?_;have Fg:=(Fg.mono a9).mono cq;have Vl:cJ .u32 fe _ (ag X):=Fq.fG;have Og:cJ .u32 fe _ (ag Y):=Oh.fG;obtain⟨cB,cN,rfl⟩:=Vl.form;obtain⟨ep,e',rfl⟩:=Og.form;have Vn:=Oh.fG;obtain⟨Ts,QS,ad1,asJ,rfl,ahp,ajY⟩:=Vl.ed I;obtain⟨ash,amp,ad2,asK,rfl,asU,ajZ⟩:=Og.ed I;have atv:nth ad2 (amp+(((ag Y).length:Int) -1).toNat*1)=some (.int .u32 (T:Int)):=by
   rw[show(((ag Y).length:Int) -1).toNat=(ag Y).length -1 by omega];exact ajZ _ _ b1
  have ahR:fg fe 96 1 (.slice (some ⟨Ts,QS,none⟩) (ag X).length cN) (ag X).length (bW .u32 (ag X)):=Fq;obtain⟨arf,n3⟩:∃w,ES Ts QS cN 1 (((ag X).length:Int) -((ag Y).length:Int)+1) ((ag X).length:Int)=w:=⟨_,rfl⟩;have Jv:=aer ahR (a:=((ag X).length:Int) -((ag Y).length:Int)+1) (b:=((ag X).length:Int)) I I I I;rw[n3] at Jv;obtain⟨N,nS⟩:∃N,N=(ag X).length -(ag Y).length+1:=⟨_,rfl⟩;have Up:(((ag X).length:Int) -((ag Y).length:Int)+1).toNat=N:=I
  have afs:(((ag X).length:Int) -(((ag X).length:Int) -((ag Y).length:Int)+1)).toNat=(ag Y).length -1:=I
  rw[Up,afs,gJ,gJ] at Jv;have afr:((bW .u32 (ag X)).drop N).take ((ag Y).length -1)=bW .u32 ((ag X).drop N):=by
   unfold bW;rw[<-SV,cM (by rw[eP,ld];omega)]
  rw[afr] at Jv;have Ji:((ag X).drop N).length=(ag Y).length -1:=by rw[ld];omega
  have ahf:(ag X).drop N=ag (aI ((ag X).drop N)):=qP (T6 (zI X));have uO:aI ((ag X).drop N)<Y:=afk (m:=(ag Y).length -1) (hx X) I I;refine aa 0xbe0450e702724c328439 ?_;refine aB.draw rfl (by kernel_rfl) (aX:=[.val 0,.val 1,.val 2,.val 3,.val 4,.ir 5,.val 6,.val 7,.val 8,.val 9,.val 10,.val 11,.val 12,.val 13,.ca [4,3,2,1,0],.bD 14,.val 15,.ca [4,3,2,1,0],.bD 16]) (by kernel_rfl) ?_;refine aa 0x3184a1 ?_;refine cm.makeSlice rfl rfl rfl rfl rfl rfl rfl (eB rfl) ?aN ?ab ?ad fun Ek=>?_;case aN=>exact cC
  case ab=>exact cC
  case ad=>exact cC
  refine aa 0xc6128421 ?_;refine' cm.val rfl rfl rfl rfl (aqW rfl rfl (eB rfl) ?ar ?hk rfl rfl ?aN ?ab ?ad ?hw) ?_;case ar=>assumption
  case hk=>exact cC
  case aN=>exact cC
  case ab=>exact cC
  case ad=>exact cC
  case hw=>assumption
  refine cm.ca ft ?_;refine' cm.pW rfl rfl (t' rfl rfl rfl rfl rfl rfl (eB rfl) (vr Q g0) (fun i q=>by cases q) ?ev ?hm ?U ?dE ?dQ ?ap fun R4 XW Vu WI=>?_);case ev=>exact .nil
  case hm=>exact anE
  case U=>exact Jv.rd
  case dE=>exact(by rw[qj,Ji,gJ])
  case dQ=>exact Dl _
  case ap=>exact(show 0+((ag Y).length -1)<=1000000 by omega)
  refine aa 0xc0ba2 ?_;rw[Up,zero_num];have ajF:N<=N/\fe.le fe/\(List.replicate N 0).length=N/\dG (List.replicate N 0)/\aI ((List.replicate N 0).drop N)=aI ((ag X).drop N) / Y/\eW 96 1 R4 (ag (aI ((ag X).drop N) % Y)).length (bW .u32 (ag (aI ((ag X).drop N) % Y))) XW:=by
   refine⟨bF _,af.le.refl _,mA,Dr,?_,?_⟩
   ·rw[sL (by rw[mA];exact bF _),rG uO];rfl
   ·rw[nD uO,<-ahf,Ji]
    rw[kH,kE] at Vu;exact .inl ⟨Vu,WI.1 rz,WI.2 rl⟩
  refine aa 0x1abe04309439 ?_;refine c8 [(9,.int .i64 (((N):Int) -1)),(5,(R4)),(0,_),(1,_),(4,_),(6,_),(7,_)] ?_;refine a' ?_;refine' aB.bA (fun(bE:Nat×(List Nat)×Value×aO×af)=>match bE with|(k,d,lD,a8,cb)=>⟨[(9,.int .i64 ((k:Int) -1)),(5,lD)],a8++[et .u32 96 Ek d],cb,k<=N/\fe.le cb/\d.length=N/\dG d/\aI (d.drop k)=aI ((ag X).drop k) / Y/\eW 96 1 lD (ag (aI ((ag X).drop k) % Y)).length (bW .u32 (ag (aI ((ag X).drop k) % Y))) a8,k⟩) ⟨N,List.replicate N 0,R4,XW,fe⟩ ?hs ?bb
  case hs=>exact ajF
  case bb=>
   rintro⟨k,d,lD,a8,cb⟩ hinv;try simp only at hinv
   obtain⟨hk,bS,nW,VC,OC,ev⟩:=hinv;refine aa 0x17c1039 ?_;refine If (fun adm=>?_) fun adm=>?_
   ·obtain⟨z,aG⟩:∃z,(ag X)[k -1]?=some z:=⟨_,dX I⟩;have aty:nth ad1 (QS+((k:Int) -1).toNat*1)=some (.int .u32 (z:Int)):=by
     rw[show((k:Int) -1).toNat=k -1 by omega];exact ajY _ _ aG
    have asT:=bS _ _ ahp;have u6:=pv (hx X) aG;obtain⟨R,dq⟩:∃R,R=aI ((ag X).drop k) % Y:=⟨_,rfl⟩;rw[<-dq] at ev;have ahJ:R<Y:=by rw[dq];exact fz _ Fs
    have ahL:(ag R).length<=60001:=dA (n5 (rH ahJ)) Ft;obtain⟨cS,jo⟩:∃cS,cS=z+1000000000*R:=⟨_,rfl⟩;have Jx:cS<1000000000*Y:=I
    have ahP:aI (z::ag R)=cS:=by rw[jo];show z+1000000000*aI (ag R)=_;rw[e1]
    have as7:(ag cS).length<=60002:=alb Jx Ft;have Us:k -1+1=k:=I
    have bI:=Y2 (d:=d) Fs aG I (by rw[Us];exact dq) (by rw[Us];exact OC) jo;have ai7:dG (z::ag R):=fun u hu=>by
     rcases fU.1 hu with rfl|hu
     ·exact u6
     ·exact hx R u hu
    refine aa 0x930439d5f57 ?_;refine lj fun ach=>?_;refine eT V.k2 ?_;refine' W.step rfl (.of (t' rfl rfl rfl rfl rfl rfl (eB rfl) (vr Q g0) (fun i q=>by cases q) ?ev ?hm ?U ?dE ?dQ ?ap fun auW auf ah5 atM=>?_));case ev=>exact Acc.cap (a:=ach) (el:=96) (k:=1) (C:=1) (full:=[.int .u32 (z:Int)]) rfl rfl (bF _) G7
    case hm=>exact .refl _
    case U=>exact ev.rd (fun x U=>.tail _ (og _ U))
    case dE=>exact(by rw[qj,gJ])
    case dQ=>exact Dl _
    case ap=>exact(show 1+(ag R).length<=1000000 by omega)
    refine W.anI ah5 rfl fun l5 ec wv=>?_;refine br (G:=Hy (l:=z::ag R) (by rw[lc,S5];exact wv) ai7 (by rw[lc];omega)) (h:=?_);rintro v' m' ae hle ⟨rfl,rfl,Cu⟩;rw[ahP] at Cu;have Vj:cJ .u32 l5 v' (ag cS):=Cu.fG;obtain⟨fi,eu,rfl⟩:=Vj.form;have Cu:=Cu.fG;have ix:aI ((ag cS).drop (ag cS).length)=0:=(by rw[SK];rfl);refine aa 0x1abe0432873816702 ?_;refine c8 [(11,.int .i64 ((((ag cS).length):Int) -1)),(10,.int .u64 (aI ((ag cS).drop ((ag cS).length)):Int)),(0,_),(1,_),(4,_),(5,_),(6,_),(7,_),(9,_)] ?_;refine a' ?_;refine' aB.ja (fun(j:Nat)=>⟨[(11,.int .i64 ((j:Int) -1)),(10,.int .u64 (aI ((ag cS).drop j):Int))],j<=(ag cS).length/\((ag Y).length -1<=j\/j=(ag cS).length),j⟩) ((ag cS).length) ?hs ?bb;case hs=>exact⟨bF _,.inr rfl⟩
    case bb=>
     rintro j hinv;try simp only at hinv
     obtain⟨aY,VO⟩:=hinv;refine aa 0xbe08328439 ?_;refine If (fun ado=>?_) fun ado=>?_
     ·obtain⟨g3,J9⟩:∃z,(ag cS)[j -1]?=some z:=⟨_,dX I⟩;obtain⟨asg,amo,ad0,asI,rfl,asS,ajX⟩:=Vj.ed I;have atu:nth ad0 (amo+((j:Int) -1).toNat*1)=some (.int .u32 (g3:Int)):=by
       rw[show((j:Int) -1).toNat=j -1 by omega];exact ajX _ _ J9
      have afv:=vt J9;rw[show j -1+1=j by omega] at afv;have ox:=VL (n:=(ag Y).length -1) I Jx (j -1) I;have afw:(aI ((ag cS).drop j):Int)*1000000000+(g3:Int)=(aI ((ag cS).drop (j -1)):Int):=I
      refine aa 0x6043724c108c39d5f57 ?_;rw[afw];refine aa 0x1810c39 ?_;refine jf (j -1) ?_;exact⟨I,.inl I⟩
     ·have Ur:(ag cS).drop j=(ag cS).drop ((ag Y).length -1):=by
       rcases VO with q|q
       ·rw[show j=(ag Y).length -1 by omega]
       ·rw[sL I,sL I]
      have iP:=VL (n:=(ag Y).length -1) I Jx _ (bF _);rw[<-Ur] at iP;have jq:=afB b1 I Jx;rw[<-Ur] at jq;obtain⟨dC,N3⟩:∃dC,dC=aI ((ag cS).drop j) / T:=⟨_,rfl⟩;have atg:dC<=aI ((ag cS).drop j):=by rw[N3];exact qE _ _
      rw[<-N3] at jq;obtain⟨E,fc⟩:∃E,E=Nat.min dC 999999999:=⟨_,rfl⟩;rw[<-fc] at jq;have Jj:E<=999999999:=by rw[fc];exact Nat.min_le_right _ _
      have ahg:min (IntKind.u64.wrap ((aI ((ag cS).drop j):Int).tdiv (T:Int))) 999999999=(E:Int):=by
       rw[show(aI ((ag cS).drop j):Int).tdiv (T:Int)=(dC:Int) by rw[N3];exact(xO _ _).symm];rw[wrap_u64 I I,fc];show min (dC:Int) 999999999=((min dC 999999999:Nat):Int);omega
      refine aa 0x357 ?_;refine dN [10,0,1,4,5,6,7,9] ?_;refine a' ?_;refine' aB.fD 1 [(12,.int .u64 (E:Int))] ?M7 ?Nm;case M7=>
       refine aa 0x7843a ?_;refine' W.step rfl (Exec.val rfl rfl (RU rfl rfl rfl rfl rfl) ?_);refine aa 0x302 ?_;refine dO ?_;exact b6 some (b6 (Value.int .u64) ahg)
      case Nm=>
       refine aa 0x357 ?_;refine c8 [(12,.int .u64 ((E):Int)),(0,_),(1,_),(4,_),(5,_),(6,_),(7,_),(9,_)] ?_;refine a' ?_;refine' aB.bA (fun(bE:Nat×af)=>match bE with|(t,qB)=>⟨[(12,.int .u64 (t:Int))],a8++[et .u32 96 Ek d],qB,cS / Y<=t/\t<=999999999/\l5.le qB,t⟩) ⟨E,l5⟩ ?hs ?bb
       case hs=>exact⟨jq,Jj,af.le.refl _⟩
       case bb=>
        rintro⟨t,qB⟩ hinv;try simp only at hinv
        obtain⟨pf,CR,Cs⟩:=hinv;have Aq:t<1000000000:=I;refine aa 0x70439 ?_;refine br (G:=RA (x:=t) Aq) (h:=?_);rintro v' m' BF h0 ⟨_,rfl,z5⟩;have z5:=z5.fG;refine br (G:=xy (Vn.mono (bS.trans (ec.trans (Cs.trans h0)))) z5 I (dA (kZ (k:=1) (by rw[BO];exact Aq)) bm)) (h:=?_);rintro v' m' xQ iQ ⟨_,rfl,cw⟩;refine eT V.k2 ?_;refine br (G:=KW cw.fG (Cu.mono (Cs.trans (h0.trans iQ))) (dA (Ku Ft Aq) bm)) (h:=?_);rintro v' m' ae hle ⟨rfl,rfl,rfl⟩;refine aa 0x5f04 ?_;refine If (fun IR=>?_) fun IR=>?_
        ·have fN:cS<Y*t:=by
           rcases hL cS (Y*t) with q|q
           ·exact q
           ·exfalso
            rcases Nat.eq_or_lt_of_le q with q|q
            ·rw[nM q] at IR;omega
            ·rw[o4 q] at IR;omega
         have VX:cS / Y<t:=Nat.div_lt_of_lt_mul fN;have atF:1<=t:=nC (df _) VX;have ajH:cS / Y<=t -1/\t -1<=999999999/\l5.le xQ:=⟨Nat.le_sub_one_of_lt VX,I,Cs.trans (h0.trans iQ)⟩;refine aa 0x1810c39d5f57 ?_;rw[show(t:Int) -1=((t -1:Nat):Int) by omega];refine eH ⟨t -1,xQ⟩ ?_;exact ajH
        ·have hi:Y*t<=cS:=by
           rcases hL cS (Y*t) with q|q
           ·rw[s6 q] at IR;omega
           ·exact q
         have PD:t=cS / Y:=S' ((Is Fs).2 (by rw[dp];exact hi)) pf;have FN:cS -Y*t=cS % Y:=by
           have:=xS cS Y;rw[<-PD] at this;omega
         refine aa 0xe084210e757 ?_;refine br (G:=RA (x:=t) Aq) (h:=?_);rintro v' m' vD g9 ⟨_,rfl,z5⟩;have z5:=z5.fG;refine br (G:=xy (Vn.mono (bS.trans (ec.trans (Cs.trans (h0.trans (iQ.trans g9)))))) z5 I (dA (kZ (k:=1) (by rw[BO];exact Aq)) bm)) (h:=?_);rintro v' m' rE mg ⟨_,rfl,cw⟩;refine br (G:=XM (Cu.mono (Cs.trans (h0.trans (iQ.trans (g9.trans mg))))) cw.fG hi I (dA (Ku Ft Aq) bm)) (h:=?_);rintro aaU XU ae hle ⟨rfl,nT⟩;rw[FN] at nT;refine aa 0x309c1 ?_;refine' iK ?hs ?_;case hs=>exact k3 (l:=d) (x:=t) (k -1) I I
         refine kr ?_;rw[PD];have bb:k -1<=N/\fe.le rE/\(d.set (k -1) (cS / Y)).length=N/\dG (d.set (k -1) (cS / Y))/\aI ((d.set (k -1) (cS / Y)).drop (k -1))=aI ((ag X).drop (k -1)) / Y/\eW 96 1 aaU (ag (aI ((ag X).drop (k -1)) % Y)).length (bW .u32 (ag (aI ((ag X).drop (k -1)) % Y))) XU:=⟨I,bS.trans (ec.trans (Cs.trans (h0.trans (iQ.trans (g9.trans mg))))),by rw[g6];exact nW,yP VC (by rw[<-PD];exact Aq),bI.1,by rw[<-bI.2];exact nT⟩;refine aa 0x1810c39 ?_;refine eH ⟨k -1,d.set (k -1) (cS / Y),aaU,XU,rE⟩ ?_ (hm:=(ih _).append (BL _ _));exact bb
   ·obtain rfl:k=0:=I
    rw[g5,g5,e1] at OC;rw[g5,e1] at ev;obtain⟨R,dq⟩:∃R,R=X % Y:=⟨_,rfl⟩;rw[<-dq] at ev;have ahL:(ag R).length<=60001:=dA (n5 (rH (by rw[dq];exact fz _ Fs))) Ft;obtain⟨fw,gz,rfl⟩:=ev.qU;have N4:cJ .u32 cb _ (ag f):=Fg.mono bS;rw[ahk] at N4;have ahl:∃b c,aqu=.slice b 1 c:=N4.form;obtain⟨aso,asu,rfl⟩:=ahl;obtain⟨asf,amn,adZ,asH,rfl,asR,ajW⟩:=N4.ed Nat.one_pos;have ats:nth adZ (amn+(0:Int).toNat*1)=some (.int .u32 (f:Int)):=ajW 0 f rfl;refine aa 0x1abe0432873816757 ?_;refine c8 [(14,.int .i64 ((((ag R).length):Int) -1)),(13,.int .u64 ((0):Int)),(4,_),(5,_),(6,_)] ?_;refine a' ?_;refine' aB.bA (fun(bE:Nat×Nat×(List Nat)×aO)=>match bE with|(j,c,L,yG)=>⟨[(14,.int .i64 ((j:Int) -1)),(13,.int .u64 (c:Int))],yG++[et .u32 96 Ek d],cb,j<=(ag R).length/\L.length=(ag R).length/\dG L/\L.take j=(ag R).take j/\aI (L.drop j)=aI ((ag R).drop j) / f/\c=aI ((ag R).drop j) % f/\eW 96 1 (.slice fw (ag R).length gz) L.length (bW .u32 L) yG,j⟩) ⟨(ag R).length,0,ag R,a8⟩ ?hs ?bb
    case hs=>exact⟨bF _,rfl,hx R,rfl,by rw[SK];exact(Mg f).symm,by rw[SK];exact(Nat.zero_mod f).symm,ev⟩
    case bb=>
     rintro⟨j,c,L,yG⟩ hinv;try simp only at hinv
     obtain⟨aY,U8,Jn,U9,Fm,aD,Vq⟩:=hinv;refine aa 0x17c1039 ?_;refine If (fun ac7=>?_) fun ac7=>?_
     ·obtain⟨z,aG⟩:∃z,(ag R)[j -1]?=some z:=⟨_,dX I⟩;have aj9:L[j -1]?=some z:=by
       have aw:(L.take j)[j -1]?=L[j -1]?:=D6 I;have aR:((ag R).take j)[j -1]?=(ag R)[j -1]?:=D6 I;rw[<-aw,U9,aR,aG]
      have u6:=pv (hx R) aG;obtain⟨cI,full,rest,bt,rfl,jI,aiA⟩:=Vq.row I;injection bt with bt cv eO
      subst bt;subst eO;have atq:nth full (0+((j:Int) -1).toNat*1)=some (.int .u32 (z:Int)):=by
       rw[QN jI I];exact qk aj9 I
      have aif:c<f:=by rw[aD];exact fz _ o8
      obtain⟨s,hs⟩:∃s,s=z+1000000000*c:=⟨_,rfl⟩;have Pu:(c:Int)*1000000000+(z:Int)=(s:Int):=I
      have Pv:s<1000000000000000000:=I
      have JI:s / f<1000000000:=by rw[hs];exact aeO u6 aif
      have FA:(s:Int).tdiv (f:Int)=((s / f:Nat):Int):=(xO s f).symm;have FM:(s:Int).tmod (f:Int)=((s % f:Nat):Int):=(H7 s f).symm;have aj3:IntKind.u64.wrap ((s / f:Nat):Int)=((s / f:Nat):Int):=wrap_u64 (nz _) I;have aw:j -1+1=j:=I
      have bI:=Y2 (d:=L) o8 aG I (by rw[aw];exact aD) (by rw[aw];exact Fm) hs;have ajI:j -1<=(ag R).length/\(L.set (j -1) (s / f)).length=(ag R).length/\dG (L.set (j -1) (s / f))/\(L.set (j -1) (s / f)).take (j -1)=(ag R).take (j -1)/\aI ((L.set (j -1) (s / f)).drop (j -1))=aI ((ag R).drop (j -1)) / f/\s % f=aI ((ag R).drop (j -1)) % f/\eW 96 1 (.slice (some ⟨cI,0,none⟩) (ag R).length cG) (L.set (j -1) (s / f)).length (bW .u32 (L.set (j -1) (s / f))) [(cI,.opn (full.set (j -1) (.int .u32 ((s / f:Nat):Int))) 96 [] 0)]:=⟨I,by rw[g6];exact U8,yP Jn JI,by
       rw[Im (bF _)];have aK:(L.take j).take (j -1)=L.take (j -1):=by rw[sP,fV I]
       have aH:((ag R).take j).take (j -1)=(ag R).take (j -1):=by rw[sP,fV I]
       rw[<-aK,<-aH,U9],bI.1,bI.2,by
       rw[<-U8];exact eW.put jI aiA rfl I⟩
      refine aa 0x6043724c108c39d5f57 ?_;rw[Pu];refine aa 0xf724c108439 ?_;rw[FA,aj3];refine eT V.o5 ?_;rw[show IntKind.u32.wrap ((s / f:Nat):Int)=((s / f:Nat):Int) from wrap_u32 (nz _) I];refine eT V.c7 ?_;refine' W.step rfl (.of (LD rfl rfl rfl rfl (tT rfl) rfl rfl rfl ?ab ?hs ?aG ?ao ?_));case ao=>exact .refl _
      case hs=>exact ZS I
      case ab=>first|rfl|assumption
      case aG=>exact df _
      refine kr ?_;rw[show 0+((j:Int) -1).toNat*1=j -1 by omega];refine aa 0x1813dc930439 ?_;rw[FM];refine aa 0x1810c39 ?_;refine eH ⟨j -1,s % f,L.set (j -1) (s / f),[(cI,.opn (full.set (j -1) (.int .u32 ((s / f:Nat):Int))) 96 [] 0)]⟩ ?_;exact ajI
     ·obtain rfl:j=0:=I
      rw[g5,g5,e1] at Fm;refine eW.mo Vq (.refl _) fun LW p4 ahM=>?_;refine aB.hy rfl fun nX=>?_;have ajl:aI d=x / y:=by rw[OC,dr,hh,Iu _ _ o8]
      have ajt:aI L=x % y:=by rw[Fm,dq,dr,hh,Td,sQ _ o8]
      have wv:fg (LW.add Ek (bW .u32 d,96)) 96 1 (.slice (some ⟨Ek,0,none⟩) N N) d.length (bW .u32 d):=by
       rw[<-nW];exact .row (af.gC _ _ _) (by rw[g5,gJ];exact cM (by rw[qj];exact bF _)) (by rw[qj,gJ]) (fun _=>⟨bF _,Kn I⟩) (fun q=>absurd q (Ed (Kn I)))
      refine aa 0xe757 ?_;refine br (G:=Hy (l:=d) wv VC I) (h:=?_);rintro v' m' ae hle ⟨rfl,rfl,ez⟩;rw[ajl] at ez;refine eT V.k2 ?_;refine br (G:=Hy (l:=L) (fg.mono nX ahM) Jn I) (h:=?_);rintro v' m' ae hle ⟨rfl,rfl,eh⟩;rw[ajt] at eh;refine aa 0x1abe042 ?_;refine bo ?_;first
       |exact⟨af.le.refl _,rfl,_,_,rfl,by rw[rG b9];exact KB,by rw[nD b9];exact kd⟩
       |exact⟨aM.trans (a9.trans (cq.trans (bS.trans (p4.trans nX)))),rfl,_,_,rfl,ez.fG,eh.fG⟩
end
section
variable {Q:cZ Tryz.prog}{g0:Nat}{J:af}
theorem M5{v w:Value}{x y:Nat}(ab:cD J v x)(ad:cD J w y)(mf:(ag x).length<=60000)(ni:(ag y).length<=60000):Fn (aT Q g0) 110 [v,w] [] J (fun u m' ae=>J.le ae/\m'=[]/\cD ae u (Nat.gcd x y)):=by
 have kd:cJ .u32 J v (ag x):=ab;have jH:cJ .u32 J w (ag y):=ad;obtain⟨bs,bp,rfl⟩:=kd.form;obtain⟨bM,bN,rfl⟩:=jH.form;refine Fn.b8 (b7 Tryz.func110) rfl rfl fun H=>?_;refine aa 0x1abe059 ?_;refine c8 [(0,.slice (bs) (ag (x)).length (bp)),(1,.slice (bM) (ag (y)).length (bN))] ?_;refine a' ?_;refine' aB.bA (fun(bE:Nat×Nat×(Option Addr)×(Option Addr)×Nat×Nat×af)=>match bE with|(a,b,MD,fj,qO,EK,cb)=>⟨[(0,.slice MD (ag a).length qO),(1,.slice fj (ag b).length EK)],[],cb,J.le cb/\cD cb (.slice MD (ag a).length qO) a/\cD cb (.slice fj (ag b).length EK) b/\(ag a).length<=60000/\(ag b).length<=60000/\Nat.gcd a b=Nat.gcd x y,b⟩) ⟨x,y,bs,bM,bp,bN,J⟩ ?hs ?bb
 case hs=>exact⟨af.le.refl _,ab,ad,mf,ni,rfl⟩
 case bb=>
  rintro⟨a,b,MD,fj,qO,EK,cb⟩ hinv;try simp only at hinv
  obtain⟨bS,ez,eh,r4,uV,ax⟩:=hinv;refine aa 0x2f821439 ?_;refine If (fun eI=>?_) fun eI=>?_
  ·have fZ:b≠0:=oE I;have wL:a % b<b:=fz _ I;refine aa 0x439d5f57 ?_;refine br (G:=KX ez eh fZ r4 uV) (h:=?_);rintro v' m' bi hle ⟨aM,rfl,bt,cv,rfl,bI,aq⟩;have cx:cJ .u32 bi cv (ag (a % b)):=aq;obtain⟨ep,e',rfl⟩:=cx.form;refine aa 0xc08410e70211ce1 ?_;have bb:J.le bi/\cD bi (.slice fj (ag b).length EK) b/\cD bi (.slice ep (ag (a % b)).length e') (a % b)/\(ag b).length<=60000/\(ag (a % b)).length<=60000/\Nat.gcd b (a % b)=Nat.gcd x y:=⟨bS.trans aM,eh.mono aM,aq,uV,dA (n5 (rH wL)) uV,by
    rw[<-ax,oj a b,zq b a,oj (a % b) b]⟩
   refine eH ⟨b,a % b,fj,ep,EK,e',bi⟩ ?_;exact bb
  ·have fZ:b=0:=by
    rcases il b with q|q
    ·exact q
    ·have:=tG (jl q);omega
   rw[fZ,zr] at ax;refine aa 0xd5f020e757 ?_;refine bo ?_;exact⟨bS,rfl,by rw[<-ax];exact ez⟩
end
theorem yF{x y j k:Nat}(U:(ag x).length<=j)(au:(ag y).length<=k):(ag (x*y)).length<=j+k:=by
 refine kZ ?_;rw[pN];exact abS (n6 U) (rH (n6 au)) (um bm)
theorem Xn{x y k:Nat}(U:(ag x).length<=k)(au:(ag y).length<=k):(ag (x+y)).length<=k+1:=by
 refine kZ ?_;have ab:=n6 U;have ad:=n6 au;rw[ff];omega
theorem cD.Bf{J ae:af}{v:Value}{x y:Nat}(h:cD J v x)(gO:cD ae v y)(hle:J.le ae):x=y:=by
 have e:ag x=ag y:=cJ.Bf h gO hle;rw[<-e1 x,<-e1 y,e]
theorem cD.Bg{J ae:af}{v w:Value}{x y:Nat}(h:cD J v x)(gO:cD ae w y)(hle:J.le ae)(e:v=w):x=y:=by subst e;exact h.Bf gO hle
theorem pP.hs{J oU:af}{x jw:Nat}(hle:oU.le J)(ew:jw=x){bl:aO}(hm:bl=[]):bl=[]/\oU.le J/\∀v m' bi de,pP oU jw v m' bi->bi.le de->J.le de->pP J x v m' de:=
 ⟨hm,hle,fun v m' bi de ⟨_,ad,aL⟩ a6 fb=>⟨fb,ad,ew▸aL.mono a6⟩⟩
abbrev us(J:af)(r:cY):Value->aO->af->Prop:=fun u m' ae=>J.le ae/\m'=[]/\∃v1 v2,u=eC r v1 v2/\kI ae r v1 v2
theorem amd{z:Int}{d:Nat}(al:0<d):(bn z d).z.natAbs=z.natAbs / Nat.gcd z.natAbs d/\(bn z d).d=d / Nat.gcd z.natAbs d:=by
 obtain⟨g,e,q,ax,he,aG,FB,_,az,FD⟩:=yO (z:=z) al;rw[az,<-FD];refine⟨?_,?_⟩
 ·rw[aG,l4,hK,vJ _ ax]
 ·rw[FB,vJ _ ax]
theorem Kj{J:af}{a:Nat}{e:TypeId}(h:J a=some ([.int .u32 1],e)):cD J (.slice (some ⟨a,0,none⟩) 1 1) 1:=by
 show cJ .u32 J _ (ag 1);rw[sf (x:=1) bm bm];exact⟨e,.row h rfl rfl (fun _=>⟨bF _,G7⟩) (fun q=>absurd q (Ed G7))⟩
theorem anv{a b:Int}{d e x y:Nat}{z:Int}(al:0<d)(he:0<e)(U:x=a.natAbs*e)(au:y=b.natAbs*d)(aG:z=a*e+b*d):
 ((a<0↔b<0)->z.natAbs=x+y/\(z≠0->(a<0↔z<0)))/\(¬(a<0↔b<0)->(y<=x->z.natAbs=x -y/\(z≠0->(a<0↔z<0)))/\(x<y->z.natAbs=y -x/\(z≠0->(b<0↔z<0)))):=by
 have ab:(a*(e:Int)).natAbs=x:=by rw[l4,hK,U]
 have ad:(b*(d:Int)).natAbs=y:=by rw[l4,hK,au]
 have s1:a<0↔a*(e:Int)<0:=⟨fun h=>BC h I,fun h=>by
  rcases vB a 0 with q|q
  ·exact q
  ·have:=km q (show(0:Int)<=(e:Int) by omega);omega⟩
 have s2:b<0↔b*(d:Int)<0:=⟨fun h=>BC h I,fun h=>by
  rcases vB b 0 with q|q
  ·exact q
  ·have:=km q (show(0:Int)<=(d:Int) by omega);omega⟩
 rw[s1,s2];generalize a*(e:Int)=X at*;generalize b*(d:Int)=Y at*;refine⟨fun h=>⟨I,fun az=>by omega⟩,fun h=>⟨fun k=>⟨I,fun az=>by omega⟩,fun k=>⟨I,fun az=>by omega⟩⟩⟩
section
variable {Q:cZ Tryz.prog}{g0:Nat}{J:af}
theorem AD{neg:Bool}{v w:Value}{z:Int}{n d:Nat}(al:0<d)(aG:z.natAbs=n)(wO:z≠0->neg=decide (z<0))(ab:cD J v n)(ad:cD J w d)(mf:(ag n).length<=60000)(ni:(ag d).length<=60000):Fn (aT Q g0) 96 [.bool neg,v,w] [] J (us J (bn z d)):=by
 subst aG;have kd:cJ .u32 J v (ag z.natAbs):=ab;have jH:cJ .u32 J w (ag d):=ad;obtain⟨bs,bp,rfl⟩:=kd.form;obtain⟨bM,bN,rfl⟩:=jH.form;obtain⟨aiW,aiQ⟩:=amd (z:=z) al;refine Fn.b8 (b7 Tryz.func96) rfl rfl fun H=>?_;refine rg ?_;refine gn fun ee=>?_;refine aa 0x5f0428738 ?_;refine If (fun b2=>?_) fun b2=>?_
 ·have eG:z=0:=by
   rcases il z.natAbs with q|q
   ·omega
   ·have:=tG (jl q);omega
  refine rg ?_;refine lj fun pS=>?_;refine W.ed rfl fun aM rX=>?_;refine aa 0x1abe390 ?_;refine bo ?_;first
   |(have c:=hj
     exact⟨aM.trans (a9.trans cq),rfl,.slice fw _ gz,.slice fi _ eu,by rw[wO eG,<-lJ.2 (KJ (z:=z) al).2.1];rfl,nY.mono cq,p7⟩)
   |exact⟨aM,rfl,.slice none 0 0,_,by rw[eG,pr al];rfl,by rw[eG,pr al];exact KB,by rw[eG,pr al];exact Kj rX⟩
 ·have eG:z≠0:=fun q=>by
   rw[q] at b2;rw[show(0:Int).natAbs=0 from rfl,nl] at b2;exact b2 rfl
  have hj:0<z.natAbs:=I
  refine aa 0x10e757 ?_;refine br (G:=M5 ab ad mf ni) (h:=?_);rintro v' m' bi hle ⟨aM,rfl,ax⟩;have wF:(ag (Nat.gcd z.natAbs d)).length<=60000:=dA (n5 (Nat.gcd_le_left d hj)) mf;have OM:Nat.gcd z.natAbs d≠0:=jl (vI _ al);refine aa 0x10e702 ?_;refine br (G:=KX (ab.mono aM) ax OM mf wF) (h:=?_);rintro v' m' de hle ⟨a9,rfl,bt,cv,rfl,nY,h1⟩;rw[<-aiW] at nY;obtain⟨fw,gz,rfl,fP⟩:=nY.bQ;refine aa 0x873811ce1 ?_;refine br (G:=KX ((ad.mono aM).mono a9) (ax.mono a9) OM ni wF) (h:=?_);rintro v' m' fe hle ⟨cq,rfl,eO,tY,rfl,p7,jK⟩;rw[<-aiQ] at p7;obtain⟨fi,eu,rfl,je⟩:=p7.bQ;refine aa 0x357c72010873811ce1 ?_;refine bo ?_;first
   |(have c:=hj
     exact⟨aM.trans (a9.trans cq),rfl,.slice fw _ gz,.slice fi _ eu,by rw[wO eG,<-lJ.2 (KJ (z:=z) al).2.1];rfl,nY.mono cq,p7⟩)
   |exact⟨aM,rfl,.slice none 0 0,_,by rw[eG,pr al];rfl,by rw[eG,pr al];exact KB,by rw[eG,pr al];exact Kj rX⟩
end
theorem eW.DC{g0:Nat}{B:c5}{J:af}{H:an}{e:TypeId}{sz k:Nat}{v:Value}{cells:List Value}{a8:aO}(h:eW e sz v k cells a8)(av:Inv g0 B J a8 H):∃ae,J.le ae/\Inv g0 B ae [] H/\fg ae e sz v k cells:=by
 rcases il k with rfl|hk
 ·rcases h with⟨h,aG,az⟩|⟨a,full,rest,rfl,rfl,aL,a6,fb⟩
  ·cases h with
   |nil=>exact⟨J,af.le.refl _,av,.nil⟩
   |jF a=>exact⟨J,af.le.refl _,av,.jF _ _ _ bm⟩
   |opn ab ad=>
    obtain⟨aU,aQ⟩:=av.hy (x:=(_,e)) rfl;exact⟨_,aQ,aU,.row (af.gC _ _ _) (by rw[jA] at ab ⊢;rw[kn ab];rfl) ab (fun q=>absurd rfl q) (fun _=>rfl)⟩
   |cap=>exact absurd (.head _) (az _ _ _)
  ·obtain⟨aU,aQ⟩:=av.hy (x:=(full,e)) rfl
   exact⟨_,aQ,aU,.row (af.gC _ _ _) (by rw[g5];exact a6) (by rw[<-a6,dY];omega) (fun q=>absurd rfl q) (fun _=>rfl)⟩
 ·obtain⟨a,full,rest,rfl,rfl,a6,aL⟩:=h.row hk
  obtain⟨aU,aQ⟩:=av.hy (x:=(full,e)) rfl;exact⟨_,aQ,aU,.row (af.gC _ _ _) (by rw[g5];exact a6) (by rw[<-a6,dY];omega) (fun q=>absurd rfl q) (fun _=>rfl)⟩
def sv(z:Int):Int:=if z=0 then 0 else if z<0 then -1 else 1
section
variable {Q:cZ Tryz.prog}{g0:Nat}{J:af}
theorem XO{v w:Value}{x y:Nat}(ab:cD J v x)(ad:cD J w y)(ew:y<=x)(ap:(ag x).length<=200000)(ni:(ag y).length<=200000):Fn (aT Q g0) 102 [v,w] [] J (pP J (x -y)):=fun H av=>by
 obtain⟨u,H',ae,m',aU,aQ,rfl,nT⟩:=XM ab ad ew ap ni H av;obtain⟨de,aK,aH,bJ⟩:=nT.DC aQ;exact⟨u,H',de,[],aU,aH,aK,rfl,bJ⟩
theorem Q9{r s:cY}{x y:Bool}{v1 v2 bt cv:Value}(aia:x=decide (r.z<0))(hF:y=decide (s.z<0))(aq:kI J r v1 v2)(hs:kI J s bt cv)(rd:0<r.d)(hU:0<s.d)(dL:(ag r.z.natAbs).length<=20000)(du:(ag r.d).length<=20000)(js:(ag s.z.natAbs).length<=20000)(lv:(ag s.d).length<=20000):Fn (aT Q g0) 65 [.agg #[.bool x,v1,v2],.agg #[.bool y,bt,cv]] [] J (us J (bn (r.z*s.d+s.z*r.d) (r.d*s.d))):=by
 subst aia;subst hF
 have cx:=aq;have fE:=hs;obtain⟨bs,bp,rfl,aK⟩:=aq.n.bQ;obtain⟨bM,bN,rfl,aH⟩:=aq.d.bQ;obtain⟨cB,cN,rfl,bJ⟩:=hs.n.bQ;obtain⟨ep,e',rfl,dU⟩:=hs.d.bQ;obtain⟨X,dr⟩:∃X,X=r.z.natAbs*s.d:=⟨_,rfl⟩;obtain⟨Y,hh⟩:∃Y,Y=s.z.natAbs*r.d:=⟨_,rfl⟩;obtain⟨D,cK⟩:∃D,D=r.d*s.d:=⟨_,rfl⟩;obtain⟨Z,ti⟩:∃Z,Z=r.z*s.d+s.z*r.d:=⟨_,rfl⟩;have Qa:(ag X).length<=40000:=by rw[dr];exact yF dL lv
 have W3:(ag Y).length<=40000:=by rw[hh];exact yF js du
 have P9:(ag D).length<=40000:=by rw[cK];exact yF du lv
 have P':(ag (X+Y)).length<=40001:=Xn Qa W3;have atZ:(ag (X -Y)).length<=40000:=dA (n5 (Nat.sub_le _ _)) Qa;have at0:(ag (Y -X)).length<=40000:=dA (n5 (Nat.sub_le _ _)) W3;have tf:0<D:=by rw[cK];exact kp rd hU
 obtain⟨cP,gW⟩:=anv rd hU dr hh ti;rw[<-ti,<-cK];refine Fn.b8 (b7 Tryz.func65) rfl rfl fun H=>?_;refine rg ?_;refine gZ fun bc=>?_;refine gZ fun cu=>?_;refine gn fun c9=>?_;refine sn ?_;refine aB.draw rfl (by kernel_rfl) (aX:=[.val 0,.val 1,.val 2,.val 3,.val 5,.val 6,.val 7,.val 8,.val 10,.val 11,.val 12,.val 13,.bD 4,.ca [13,12,11,10,8,7,6,5],.bD 9,.ca [13,12,11,10],.bD 14,.val 15,.val 16,.val 17]) (by kernel_rfl) ?_;refine aa 0x1e5354d5354d5354d ?_;refine' bh.dV rfl rfl rfl rfl rfl rfl rfl rfl rfl dt (xy cx.n fE.d I I) ?_;rintro v' m' bi aM ⟨_,rfl,ez⟩;have gq:=ez.fG;obtain⟨fw,gz,rfl,fP⟩:=gq.bQ;refine bh.ca ft ?_;refine' bh.dV rfl rfl rfl rfl rfl rfl rfl rfl rfl (cF (fun _ aF=>pP.hs aM (by rw[cx.n.Bg (fE.n.mono aM) aM (mR aF).1,fE.d.Bg (cx.d.mono aM) aM (mR aF).2]) rfl) dt) (xy (fE.n.mono aM) (cx.d.mono aM) I I) ?_;rintro v' m' de a9 ⟨_,rfl,eh⟩;have g1:=eh.fG;obtain⟨fi,eu,rfl,je⟩:=g1.bQ;refine bh.ca ft ?_;refine' bh.dV rfl rfl rfl rfl rfl rfl rfl rfl rfl (cF (fun _ aF=>pP.hs a9 (by rw[(fE.n.mono aM).Bg ((cx.d.mono aM).mono a9) a9 (mR aF).1,(cx.d.mono aM).Bg ((fE.d.mono aM).mono a9) a9 (mR aF).2]) rfl) (cF (fun _ aF=>pP.hs (aM.trans a9) (by rw[cx.n.Bg ((cx.d.mono aM).mono a9) (aM.trans a9) (mR aF).1]) rfl) dt)) (xy ((cx.d.mono aM).mono a9) ((fE.d.mono aM).mono a9) I I) ?_;rintro v' m' fe cq ⟨_,rfl,gP⟩;have rW:=gP.fG;obtain⟨jV,fB,rfl,rq⟩:=rW.bQ;rw[<-dr] at gq;rw[<-hh] at g1;rw[<-cK] at rW;have gq:=(gq.mono a9).mono cq;have g1:=g1.mono cq;rw[<-dr,<-hh,<-cK];refine aa 0x181085e ?_;refine dN [2,3,4,5,6,7] ?_
 refine a' ?_;refine' aB.fD 0 [(27,.bool (decide (((r.z<0)↔(s.z<0)))))] ?nN ?nO;case nN=>
  refine aa 0xa6a9ba ?_;refine' W.step rfl (Exec.val rfl rfl (xB rfl rfl rfl (.inl ⟨rfl,rfl⟩) (by kernel_rfl)) ?_);refine kr ?_;refine dO (dS ?_);first|omega|(by_cases a:r.z<0<;>by_cases b:s.z<0<;>simp[a,b])
 case nO=>
  refine a' ?_;refine If (fun gK=>?_) fun gK=>?_
  ·have p:=cP gK;refine a' ?_;refine aB.draw rfl (by kernel_rfl) (aX:=[.val 0,.val 1,.val 2,.val 3,.val 5,.bD 4,.ca [5,1,0],.bD 6,.bD 7]) (by kernel_rfl) ?_;refine aa 0x3c10854d ?_;refine' bh.dV rfl rfl rfl rfl rfl rfl rfl rfl rfl dt (anu gq g1 I I) ?_;rintro v' m' l5 ec ⟨_,rfl,aj⟩;have uQ:=aj.fG;obtain⟨jm,fC,rfl,pA⟩:=uQ.bQ;refine bh.ca ft ?_;refine' bh.dV rfl rfl rfl rfl rfl rfl rfl rfl rfl (cF (dh rfl) dt) (AD (z:=Z) tf p.1 (fun h=>lJ.2 (p.2 h)) uQ (rW.mono ec) I I) ?_;rintro v' m' qB ga ⟨_,rfl,en,fR,rfl,b3⟩;have cg:=b3;obtain⟨gy,eI,rfl,mO⟩:=b3.n.bQ;obtain⟨kJ,b2,rfl,nr⟩:=b3.d.bQ;refine aa 0x1abe39e ?_;refine bo ?_;exact⟨aM.trans (a9.trans (cq.trans (ec.trans ga))),rfl,_,_,rfl,cg⟩
  ·have YI:=gW gK;refine aa 0x10e757 ?_;refine br (G:=KW gq g1 I) (h:=?_);rintro v' m' ae hle ⟨rfl,rfl,rfl⟩;refine aa 0x5f04 ?_;refine If (fun l9=>?_) fun l9=>?_
   ·have jq:Y<=X:=by
      rcases hL X Y with q|q
      ·rw[o4 q] at l9;omega
      ·exact q
    have p:=YI.1 jq;refine a' ?_;refine aB.draw rfl (by kernel_rfl) (aX:=[.val 0,.val 1,.val 2,.val 3,.val 5,.bD 4,.ca [5,1,0],.bD 6,.bD 7]) (by kernel_rfl) ?_;refine aa 0x3c10854d ?_;refine' bh.dV rfl rfl rfl rfl rfl rfl rfl rfl rfl dt (XO gq g1 jq I I) ?_;rintro v' m' l5 ec ⟨_,rfl,aj⟩;have uQ:=aj.fG;obtain⟨jm,fC,rfl,pA⟩:=uQ.bQ;refine bh.ca ft ?_;refine' bh.dV rfl rfl rfl rfl rfl rfl rfl rfl rfl (cF (dh rfl) dt) (AD (z:=Z) tf p.1 (fun h=>lJ.2 (p.2 h)) uQ (rW.mono ec) I I) ?_;rintro v' m' qB ga ⟨_,rfl,en,fR,rfl,b3⟩;have cg:=b3;obtain⟨gy,eI,rfl,mO⟩:=b3.n.bQ;obtain⟨kJ,b2,rfl,nr⟩:=b3.d.bQ;refine aa 0x1abe39e ?_;refine bo ?_;exact⟨aM.trans (a9.trans (cq.trans (ec.trans ga))),rfl,_,_,rfl,cg⟩
   ·have b9:X<Y:=by
      rcases hL X Y with q|q
      ·exact q
      ·exfalso
       rcases Nat.eq_or_lt_of_le q with q|q
       ·rw[nM q.symm] at l9;omega
       ·rw[s6 q] at l9;omega
    have p:=YI.2 b9;refine aa 0x5f57 ?_;refine aB.draw rfl (by kernel_rfl) (aX:=[.val 0,.val 1,.val 2,.val 3,.val 5,.bD 4,.ca [5,1,0],.bD 6,.bD 7]) (by kernel_rfl) ?_;refine aa 0x3c10854d ?_;refine' bh.dV rfl rfl rfl rfl rfl rfl rfl rfl rfl dt (XO g1 gq (rH b9) I I) ?_;rintro v' m' l5 ec ⟨_,rfl,aj⟩;have uQ:=aj.fG;obtain⟨jm,fC,rfl,pA⟩:=uQ.bQ;refine bh.ca ft ?_;refine' bh.dV rfl rfl rfl rfl rfl rfl rfl rfl rfl (cF (dh rfl) dt) (AD (z:=Z) tf p.1 (fun h=>lJ.2 (p.2 h)) uQ (rW.mono ec) I I) ?_;rintro v' m' qB ga ⟨_,rfl,en,fR,rfl,b3⟩;have cg:=b3;obtain⟨gy,eI,rfl,mO⟩:=b3.n.bQ;obtain⟨kJ,b2,rfl,nr⟩:=b3.d.bQ;refine aa 0x1abe39e ?_;refine bo ?_;exact⟨aM.trans (a9.trans (cq.trans (ec.trans ga))),rfl,_,_,rfl,cg⟩
theorem XN{r:cY}{v1 v2:Value}(aq:kI J r v1 v2):Fn (aT Q g0) 66 [eC r v1 v2] [] J (fun u m' ae=>u=eC ⟨-r.z,r.d⟩ v1 v2/\m'=[]/\J=ae):=by
 obtain⟨bs,bp,rfl,aK⟩:=aq.n.bQ;obtain⟨bM,bN,rfl,aH⟩:=aq.d.bQ;refine Fn.b8 (b7 Tryz.func66) rfl rfl fun H=>?_;refine rg ?_;refine gZ fun a7=>?_;refine gn fun bc=>?_;refine aa 0x3153738 ?_;refine fs 6 (fun iU=>?_) fun iU=>?_
 ·refine aa 0x357c7179c71a82154d ?_;refine bo ?_;first
   |exact⟨b6 (fun b=>Value.agg #[.bool b,.slice bs _ bp,.slice bM _ bN]) (show decide (0<((ag r.z.natAbs).length:Int))=decide (-r.z<0) from lJ.2 ⟨fun h=>by have:=oE (x:=r.z.natAbs) I;omega,fun h=>by have:=tG (x:=r.z.natAbs) I;omega⟩),rfl,rfl⟩
   |exact⟨b6 (fun b=>Value.agg #[.bool b,.slice bs _ bp,.slice bM _ bN]) (show false=decide (-r.z<0) from(gL I).symm),rfl,rfl⟩
 ·refine aa 0x357c7179c71a8def7b ?_;refine bo ?_;first
   |exact⟨b6 (fun b=>Value.agg #[.bool b,.slice bs _ bp,.slice bM _ bN]) (show decide (0<((ag r.z.natAbs).length:Int))=decide (-r.z<0) from lJ.2 ⟨fun h=>by have:=oE (x:=r.z.natAbs) I;omega,fun h=>by have:=tG (x:=r.z.natAbs) I;omega⟩),rfl,rfl⟩
   |exact⟨b6 (fun b=>Value.agg #[.bool b,.slice bs _ bp,.slice bM _ bN]) (show false=decide (-r.z<0) from(gL I).symm),rfl,rfl⟩
theorem Yw{r s:cY}{v1 v2 bt cv:Value}(aq:kI J r v1 v2)(hs:kI J s bt cv)(rd:0<r.d)(hU:0<s.d)(dL:(ag r.z.natAbs).length<=20000)(du:(ag r.d).length<=20000)(js:(ag s.z.natAbs).length<=20000)(lv:(ag s.d).length<=20000):Fn (aT Q g0) 67 [eC r v1 v2,eC s bt cv] [] J (fun u m' ae=>J.le ae/\m'=[]/\u=.int .i64 (sv (r.z*s.d -s.z*r.d))):=by
 have cx:=aq;have fE:=hs;obtain⟨bs,bp,rfl,aK⟩:=aq.n.bQ;obtain⟨bM,bN,rfl,aH⟩:=aq.d.bQ;obtain⟨cB,cN,rfl,bJ⟩:=hs.n.bQ;obtain⟨ep,e',rfl,dU⟩:=hs.d.bQ;have tf:0<r.d*s.d:=kp rd hU;have Pb:kI J (⟨-s.z,s.d⟩:cY) (.slice cB (ag s.z.natAbs).length cN) (.slice ep (ag s.d).length e'):=⟨by show cD J _ (-s.z).natAbs;rw[LS];exact fE.n,fE.d⟩;have alf:(ag (-s.z).natAbs).length<=20000:=by rw[LS];exact js
 obtain⟨Z,ti⟩:∃Z,Z=r.z*s.d+-s.z*r.d:=⟨_,rfl⟩;have ahS:r.z*s.d -s.z*r.d=Z:=by rw[ti,sK,Int.sub_eq_add_neg]
 rw[ahS];have ha:=KJ (z:=Z) tf;refine Fn.b8 (b7 Tryz.func67) rfl rfl fun H=>?_;refine rg ?_;refine gZ fun bc=>?_;refine gZ fun cu=>?_;refine aa 0x5f02 ?_;refine aB.draw rfl (by kernel_rfl) (aX:=[.ir 4,.val 0,.val 1,.bD 2,.ca [0],.bD 3,.bD 5]) (by kernel_rfl) ?_;refine cm.alloc rfl rfl rfl rfl rfl (Ll rfl) rfl rfl rfl fun cI=>?_;refine aa 0x796b ?_;refine' bh.dV rfl rfl rfl rfl rfl rfl rfl rfl rfl dt (XN fE) ?_;rintro v' m' ae hle ⟨rfl,rfl,rfl⟩;refine bh.ca ft ?_;refine' bh.dV rfl rfl rfl rfl rfl rfl rfl rfl rfl (cF (dh rfl) dt) (Q9 (s:=⟨-s.z,s.d⟩) rfl rfl cx Pb rd hU dL du alf lv) ?_;rintro v' m' bi aM ⟨_,rfl,en,fR,rfl,b3⟩;rw[show r.z*((⟨-s.z,s.d⟩:cY).d:Int)+(⟨-s.z,s.d⟩:cY).z*r.d=Z from ti.symm,show r.d*(⟨-s.z,s.d⟩:cY).d=r.d*s.d from rfl] at b3 ⊢;have cg:=b3;obtain⟨gy,eI,rfl,mO⟩:=b3.n.bQ;obtain⟨kJ,b2,rfl,nr⟩:=b3.d.bQ;refine aa 0x17c08855373abe39e ?_;refine If (fun b2=>?_) fun b2=>?_
 ·have aG:(bn Z (r.d*s.d)).z=0:=by
   rcases il (bn Z (r.d*s.d)).z.natAbs with q|q
   ·omega
   ·have:=tG (jl q);omega
  refine aa 0x1abe059 ?_;refine bo ?_;first
   |exact⟨aM,rfl,by rw[ha.2.2.1 aG];rfl⟩
 ·have aG:(bn Z (r.d*s.d)).z≠0:=fun q=>by
   rw[q] at b2;rw[show(0:Int).natAbs=0 from rfl,nl] at b2;exact b2 rfl
  refine aa 0x2f8129b9 ?_;refine If (fun dR=>?_) fun dR=>?_
  ·refine aa 0x1abe059 ?_;refine bo ?_;first
    |exact⟨aM,rfl,by rw[ha.2.2.1 aG];rfl⟩
    |(have c:=dR
      exact⟨aM,rfl,by
          have ab:=mt ha.2.2.2 aG;have ad:=ha.2.1.1 c;unfold sv;rw[aZ ab,a2 ad];rfl⟩)
    |(have c:=dR
      exact⟨aM,rfl,by
          have ab:=mt ha.2.2.2 aG;have ad:=mt ha.2.1.2 c;unfold sv;rw[aZ ab,aZ ad];rfl⟩)
  ·refine aa 0x6af816757 ?_;refine bo ?_;first
    |exact⟨aM,rfl,by rw[ha.2.2.1 aG];rfl⟩
    |(have c:=dR
      exact⟨aM,rfl,by
          have ab:=mt ha.2.2.2 aG;have ad:=ha.2.1.1 c;unfold sv;rw[aZ ab,a2 ad];rfl⟩)
    |(have c:=dR
      exact⟨aM,rfl,by
          have ab:=mt ha.2.2.2 aG;have ad:=mt ha.2.1.2 c;unfold sv;rw[aZ ab,aZ ad];rfl⟩)
end
end
end Go.Opn
namespace Go.Opn
noncomputable section
structure b5 where
 neg:Bool
 num:List Nat
 den:List Nat
open Classical in
def lW (l:List Nat):Int:=if jy l then 0 else 3
open Classical in
def l1 (n d:List Nat):Int:=if jy n/\jy d then(if d=[] then 6 else 0) else 3
open Classical in
def mP (x:b5):Int:=if l1 x.num x.den=0 then(if(x.num=[]/\x.neg=true)\/Nat.gcd (aI x.num) (aI x.den)≠1 then 3 else 0) else l1 x.num x.den
open Classical in
def kQ (x:b5):Int:=if mP x=0 then(if x.neg=true then 2 else 0) else mP x
theorem nm{l:List Nat}(h:jy l):lW l=0:=a2 h
theorem AJ{l:List Nat}(h:¬jy l):lW l=3:=aZ h
theorem Ky{l:List Nat}(h:lW l=0):jy l:=by
 apply iF
 intro q;rw[AJ q] at h;cases h
theorem T7{l:List Nat}{i x:Nat}(U:l[i]?=some x)(h:1000000000<=x):¬jy l:=fun q=>by
 have:=q.1 x (gh U)
 omega
theorem T8{l:List Nat}{x:Nat}(ap:l.length≠0)(U:l[l.length -1]?=some x)(h:x=0):¬jy l:=fun q=>q.2 x (by rw[sM];exact U) h
theorem ou{l:List Nat}(h:∀z∈l.take l.length,z<1000000000)(ap:l.length≠0->∃x,l[l.length -1]?=some x/\x≠0):jy l:=by
 rw[sO] at h
 refine⟨h,fun x U=>?_⟩
 rw[sM] at U
 by_cases q:l.length=0
 ·rw[kn q] at U;cases U
 ·obtain⟨y,ab,ad⟩:=ap q
  rw[ab] at U;injection U with U;rw[<-U];exact ad
theorem Hw{α:Type}{P:α->Prop}{l:List α}{i:Nat}{x:α}(h:∀z∈l.take i,P z)(U:l[i]?=some x)(ao:P x):∀z∈l.take (i+1),P z:=fun z aG=>by
 rw[ko,U] at aG
 rcases nB.1 aG with q|q
 ·exact h z q
 ·rw[zn.1 q];exact ao
theorem YO{n d:List Nat}(h:lW n≠0):l1 n d=lW n:=by
 have ab:¬jy n:=fun q=>h (nm q)
 rw[AJ ab];exact aZ fun q=>ab q.1
theorem YN{n d:List Nat}(h:lW d≠0):l1 n d=lW d:=by
 have ab:¬jy d:=fun q=>h (nm q)
 rw[AJ ab];exact aZ fun q=>ab q.2
theorem YM{n d:List Nat}(ab:lW n=0)(ad:lW d=0)(h:d.length=0):l1 n d=6:=by
 unfold l1;rw[a2 ⟨Ky ab,Ky ad⟩,a2 (kn h)]
theorem YP{n d:List Nat}(ab:lW n=0)(ad:lW d=0)(h:d.length≠0):l1 n d=0:=by
 unfold l1;rw[a2 ⟨Ky ab,Ky ad⟩,aZ fun q=>h (by rw[q];rfl)]
theorem Ra{n d:List Nat}(h:l1 n d=0):jy n/\jy d/\aI d≠0:=by
 unfold l1 at h
 split at h
 ·next ab=>
  split at h
  ·cases h
  ·next ad=>exact⟨ab.1,ab.2,fun q=>ad (RW ab.2 q)⟩
 ·cases h
theorem Rh{x:b5}(h:l1 x.num x.den≠0):mP x=l1 x.num x.den:=aZ h
theorem iA{x:b5}(h:l1 x.num x.den=0)(ad:(x.num=[]/\x.neg=true)\/Nat.gcd (aI x.num) (aI x.den)≠1):mP x=3:=by unfold mP;rw[a2 h,a2 ad]
theorem sr{x:b5}(h:l1 x.num x.den=0)(ad:¬((x.num=[]/\x.neg=true)\/Nat.gcd (aI x.num) (aI x.den)≠1)):mP x=0:=by unfold mP;rw[a2 h,aZ ad]
theorem an9{x:b5}(h:mP x=0):jy x.num/\jy x.den/\aI x.den≠0/\Nat.gcd (aI x.num) (aI x.den)=1:=by
 by_cases q:l1 x.num x.den=0
 ·obtain⟨ab,ad,aL⟩:=Ra q
  refine⟨ab,ad,aL,iF fun e=>?_⟩
  rw[iA q (.inr e)] at h;cases h
 ·rw[Rh q] at h;exact absurd h q
theorem Nr{x:b5}(h:mP x≠0):kQ x=mP x:=aZ h
theorem Nq{x:b5}(h:mP x=0)(az:x.neg=true):kQ x=2:=by unfold kQ;rw[a2 h,a2 az]
theorem Ut{x:b5}(h:mP x=0)(az:x.neg=false):kQ x=0:=by unfold kQ;rw[a2 h,aZ (by rw[az];exact Bool.false_ne_true)]
def b5.rt(x:b5):cY:=⟨(aI x.num:Int),aI x.den⟩
theorem rR{x:b5}(h:kQ x=0):x.neg=false/\x.num=ag (aI x.num)/\x.den=ag (aI x.den)/\x.rt.h7:=by
 by_cases q:mP x=0
 ·obtain⟨ab,ad,aL,a6⟩:=an9 q
  refine⟨?_,qP ab,qP ad,uk aL,a6⟩
  cases az:x.neg with
  |false=>rfl
  |true=>rw[Nq q az] at h;cases h
 ·rw[Nr q] at h;exact absurd h q
end
end Go.Opn
