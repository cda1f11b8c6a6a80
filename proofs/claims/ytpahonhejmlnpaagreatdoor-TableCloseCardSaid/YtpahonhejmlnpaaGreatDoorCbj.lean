/- A part of the proof of TableClose. -/
import Derived.Test.YtpahonhejmlnpaaGreatDoorCbh
import Derived.Test.YtpahonhejmlnpaaGreatDoorCbi
set_option maxRecDepth 100000
set_option maxHeartbeats 8000000
set_option linter.unusedVariables false
set_option linter.unusedSimpArgs false
namespace Go.Opn
noncomputable section
open Go.Cre Go.RowKit Go.Proofs
theorem Eb{x f k:Nat}(U:(ap x).length<=k)(az:f<1000000000):(ap (x*f)).length<=k+1:=by
 refine l9 ?_;have aa:=ur U;rw[mu];exact SR aa (by omega) (by decide)
theorem Eg{J:an}:dW J (.slice none 0 0) 0:=by
 show de .u32 J _ (ap 0);rw[kh];exact de.nil
theorem Um{x y:Nat}(h:¬g' x y<0):y<=x:=by
 rcases hr x y with q|q
 ·exact absurd (tI.2 q) h
 ·exact q
theorem v9{x y:Nat}(h:y<=x):(ap y).length<=(ap x).length:=by
 rcases hr (ap x).length (ap y).length with q|q
 ·have:=A6 q;omega
 ·exact q
abbrev SX(J:an)(x y:Nat):Value->aU->an->Prop:=fun u m' ae=>J.le ae/\m'=[]/\∃bh cb,u=.tuple #[bh,cb]/\dW ae bh (x / y)/\dW ae cb (x % y)
section
variable {K:dG}{B:dt}{o:Oper}{n:Nat}{ds:dQ}{l:List (Nat×Value)}{m m':aU}{J:an}
theorem Ka{c:Call}{x y:Operand}{k:IntKind}{a b:Int}(ag:o.op=.call c)(aL:c.callee=.builtin .min)(iq:c.args.toList=[x,y])(U:bH l x=some (.int k a))(aF:bH l y=some (.int k b)):cC K B o n ds l m J (.int k (min a b)):=by
 intro call aE S H ak av;rw[xm ag aL];have mJ:c.args=#[x,y]:=by rw[<-Array.toList_inj];exact iq
 have:eI K.P S.T H o=some (.val (.int k (min a b)) H):=by
  refine mc ak ?_ U aF rfl rfl ?_ rfl
  ·rw[ag]
   show(Call.operands c).toList=_;simp[Call.operands,aL,mJ]
  ·unfold execOp;simp only[ag]
   have al:eJ K.P (resolve (oA S.T H) c o.type)=some {target:=.builtin .min c.argTypes o.type (c.args.map fun|.const _=>true|_=>false),args:=#[.int k a,.int k b]}:=by
        unfold resolve;simp only[aL,mJ];show some _=some _;simp[gS ak H U,gS ak H aF];exact⟨by cases x<;>rfl,by cases y<;>rfl⟩
   rw[fj al];show eJ K.P ((Builtin.min_ c.argTypes o.type #[.int k a,.int k b]) >>= fun v=>pure (Next.value v))=_;have:eJ K.P (Builtin.min_ c.argTypes o.type #[.int k a,.int k b])=some (.int k (min a b)):=by
        show some (Value.int k (if b<a then b else a))=_;congr 2
        split<;>omega
   rw[fj this];rfl
 unfold n3;rw[nq ak H (vs:=[.int k a,.int k b]) (by rw[iq];simp only[hJ,U,aF])];exact this
theorem fh.rd{g0:Nat}{e:TypeId}{sz k:Nat}{v:Value}{cells:List Value}{ba:aU}(h:fh e sz v k cells ba)(hm:∀x∈ba,x∈m):ko g0 B J m sz v k cells:=by
 rcases ly k with rfl|hk
 ·intro H av
  rcases h with⟨h,_,aw⟩|⟨a,full,rest,rfl,_,_,aa,_⟩
  ·cases h with
   |nil=>exact⟨rfl,rfl⟩
   |ik a=>exact⟨rfl,rfl⟩
   |opn aa ab=>exact⟨rfl,by rw[nV] at aa;rw[pH aa];rfl⟩
   |cap=>exact absurd (.head _) (aw _ _ _)
  ·exact⟨rfl,by rw[nV] at aa;rw[<-aa];rfl⟩
 ·obtain⟨a,full,rest,rfl,rfl,aa,ab⟩:=h.row hk
  intro H av;refine⟨rfl,?_⟩;obtain⟨f,_,g,_⟩:=(av.own _ _ (hm _ (.head _))).1;unfold h1;cases k with
  |zero=>
   simp only
   rw[nV] at aa;rw[<-aa];rfl
  |succ k=>
   simp only[g];rw[tL,kJ,uJ (by omega),aa]
end
theorem fh.V8{e:TypeId}{sz k:Nat}{v:Value}{cells:List Value}{ba:aU}(h:fh e sz v k cells ba):∃b c,v=.slice b k c:=by
 rcases h.form with⟨b,aR,aN,_⟩|⟨a,full,rest,aR,_⟩
 ·exact⟨_,_,by rw[aN];exact aR⟩
 ·exact⟨_,_,aR⟩
theorem Q5{l:List Value}{i:Nat}{v:Value}(h:i<l.length):fO i l [v]=some (l.set i v):=by
 rw[EL _ _ _ (by rw[zg];omega),SF,bg h,r9];rfl
theorem fh.put{e:TypeId}{a k i x:Nat}{full:List Value}{rest:List Nat}{l:List Nat}(az:full.take (k*1)=ca .u32 l)(hk:k*1<=full.length)(aA:l.length=k)(ar:i<k):fh e 1 (.slice (some ⟨a,0,none⟩) k cu) (l.set i x).length (ca .u32 (l.set i x)) [(a,.opn (full.set i (.int .u32 (x:Int))) e rest 0)]:=by
 have h:=fh.of (e:=e) (sz:=1) (k:=k) (a:=a) (full:=full.set i (.int .u32 (x:Int))) (rest:=rest) (by rw[nP];exact hk);have ab:(full.set i (.int .u32 (x:Int))).take (k*1)=ca .u32 (l.set i x):=by
  rw[List.take_set,az];unfold ca;rw[Fl]
 rw[ab] at h;rw[nP,aA];exact h
section
variable {Q:ek Tryz.prog}{g0:Nat}{J:an}
theorem Jr{v w:Value}{x y:Nat}(aa:dW J v x)(ab:dW J w y)(aF:y≠0)(fR:(ap x).length<=100)(fZ:(ap y).length<=100):Fn (aO Q g0) 59 [v,w] [] J (SX J x y):=by
 have g3:=aa;have hb:=ab;have aa:de .u32 J v (ap x):=aa;have ab:de .u32 J w (ap y):=ab;obtain⟨br,bn,rfl⟩:=aa.form;obtain⟨bN,bQ,rfl⟩:=ab.form;have h6:=qj aF;obtain⟨u4,vI⟩:∃u4,(ap y)[(ap y).length -1]?=some u4:=⟨_,eO (by omega)⟩;have agB:u4≠0:=A4 y _ (by rw[Cm];exact vI);have agC:=qs (kj y) vI;obtain⟨f,az⟩:∃f,f=1000000000 / (u4+1):=⟨_,rfl⟩;have Al:0<f:=by rw[az];exact Nat.div_pos (by omega) (by omega)
 have Am:f<1000000000:=by rw[az];exact Nat.div_lt_self (by decide) (by omega)
 have XL:(1000000000:Int).tdiv ((u4:Int)+1)=(f:Int):=by rw[az];exact(oJ 1000000000 (u4+1)).symm
 have ago:(ap f).length<=1:=l9 (by rw[Fw];exact Am);have WO:ap f=[f]:=by rw[A7 Am];unfold jK;rw[a3 (by omega)]
 obtain⟨X,fl⟩:∃X,X=x*f:=⟨_,rfl⟩;obtain⟨Y,im⟩:∃Y,Y=y*f:=⟨_,rfl⟩;have agG:(ap X).length<=101:=by rw[fl];exact Eb fR Am
 have Ae:(ap Y).length<=101:=by rw[im];exact Eb fZ Am
 have Ad:0<Y:=by rw[im];exact hV (by omega) Al
 have Hf:=qj (hD Ad);obtain⟨T,b6⟩:∃T,(ap Y)[(ap Y).length -1]?=some T:=⟨_,eO (by omega)⟩;have agE:T≠0:=A4 Y _ (by rw[Cm];exact b6);have agD:=qs (kj Y) b6;obtain⟨a,o,oV,e,rfl,fu,ay⟩:=ab.dB (by omega);have agZ:nth oV (o+(((ap y).length:Int) -1).toNat*1)=some (.int .u32 (u4:Int)):=by
  rw[show(((ap y).length:Int) -1).toNat=(ap y).length -1 by omega];exact ay _ _ vI
 refine Fn.ck (ch Tryz.func59) rfl rfl fun H=>?_;refine rg ?_;refine aH ?_;refine bb ?_;refine aH ?_;refine b4 (G:=Jq g3 hb (by omega)) (h:=?_);rintro v' m' ae hle ⟨rfl,rfl,rfl⟩;refine I V.a' ?_;refine aD ?_;refine If (fun hY=>?_) fun hY=>?_
 ·have cD:x<y:=tI.1 hY;refine rg ?_;refine aH ?_;refine aD ?_;refine ad.ret ?_;refine'⟨.inr rfl,rfl,_,[],.tmp rfl (.tmp rfl .nil),bZ _,?_⟩;first
   |exact⟨an.le.refl _,rfl,_,_,rfl,by rw[qV cD];exact Eg,by rw[se cD];exact g3⟩
   |exact⟨a8.trans (bO.trans (cL.trans (et.trans (kz.trans kA)))),rfl,_,_,rfl,eL.f',ep.f'⟩
 ·have iR:y<=x:=Um hY;have WT:Y<=X:=by rw[fl,im];exact lY _ iR
  have x2:=v9 WT;refine l8 ?_;refine aH ?_;refine I V.bW ?_;refine I V.bj ?_;refine I V.c2 ?_;refine I V.gk ?_;refine I V.bW ?_;refine I V.ha ?_;refine I V.gk ?_;rw[XL,show IntKind.u64.wrap (f:Int)=(f:Int) from wrap_u64 (by omega) (by omega),show IntKind.u32.wrap (f:Int)=(f:Int) from wrap_u32 (by omega) (by omega)];refine b4 (G:=JS (x:=f) Am) (h:=?_);rintro aej m' bq a8 ⟨_,rfl,bY⟩;have z5:=bY.f';refine I V.aI ?_;refine bb ?_;refine aH ?_;refine b4 (G:=tk (g3.mono a8) z5 (by omega) (by omega)) (h:=?_);rintro v' m' dR bO ⟨_,rfl,Ac⟩;rw[<-fl] at Ac;refine aH ?_;refine b4 (G:=tk (hb.mono (a8.trans bO)) (z5.mono bO) (by omega) (by omega)) (h:=?_);rintro v' m' fV cL ⟨_,rfl,Hg⟩;rw[<-im] at Hg;have Ac:=Ac.mono cL;refine aH ?_;refine bR ?_;have z5:=(z5.mono bO).mono cL;have ND:de .u32 fV _ (ap X):=Ac.f';have Hf:de .u32 fV _ (ap Y):=Hg.f';obtain⟨cW,cZ,rfl⟩:=ND.form;obtain⟨dj,dH,rfl⟩:=Hf.form;have NE:=Hg.f';obtain⟨LG,Jd,Uf,agh,rfl,WW,Y1⟩:=ND.dB (by omega);obtain⟨afP,aaZ,Ug,agi,rfl,agu,Y2⟩:=Hf.dB (by omega);have ag1:nth Ug (aaZ+(((ap Y).length:Int) -1).toNat*1)=some (.int .u32 (T:Int)):=by
   rw[show(((ap Y).length:Int) -1).toNat=(ap Y).length -1 by omega];exact Y2 _ _ b6
  have Xc:ey fV 40 1 (.slice (some ⟨LG,Jd,none⟩) (ap X).length cZ) (ap X).length (ca .u32 (ap X)):=Ac;obtain⟨k3,lG⟩:∃w,zM LG Jd cZ 1 (((ap X).length:Int) -((ap Y).length:Int)+1) ((ap X).length:Int)=w:=⟨_,rfl⟩;have De:=Uy Xc (a:=((ap X).length:Int) -((ap Y).length:Int)+1) (b:=((ap X).length:Int)) (by omega) (by omega) (by omega) (by omega);rw[lG] at De;obtain⟨N,hc⟩:∃N,N=(ap X).length -(ap Y).length+1:=⟨_,rfl⟩;have MG:(((ap X).length:Int) -((ap Y).length:Int)+1).toNat=N:=by omega
  have Vd:(((ap X).length:Int) -(((ap X).length:Int) -((ap Y).length:Int)+1)).toNat=(ap Y).length -1:=by omega
  rw[MG,Vd,iZ,iZ] at De;have Vc:((ca .u32 (ap X)).drop N).take ((ap Y).length -1)=ca .u32 ((ap X).drop N):=by
   unfold ca;rw[<-List.map_drop,ib (by rw[gx,r'];omega)]
  rw[Vc] at De;have Nl:((ap X).drop N).length=(ap Y).length -1:=by rw[r'];omega
  have GZ:(ap X).drop N=ap (bs ((ap X).drop N)):=CK (Mp (CJ X));have rp:bs ((ap X).drop N)<Y:=U8 (m:=(ap Y).length -1) (kj X) (by omega) (by omega);refine rg ?_;refine aH ?_;refine I V.bW ?_;refine I V.bj ?_;refine I V.c2 ?_;refine I V.gk ?_;refine I V.aI ?_;refine bb ?_;refine aH ?_;refine aD ?_;refine ad.draw rfl (by kernel_rfl) (a2:=[.val 0,.val 1,.val 2,.val 3,.val 4,.iL 5,.val 6,.val 7,.val 8,.val 9,.val 10,.val 11,.val 12,.val 13,.b2 [4,3,2,1,0],.bA 14,.val 15,.b2 [4,3,2,1,0],.bA 16]) (by kernel_rfl) ?_;refine e3 ?_;refine a6 rfl V.bW ?_;refine a6 rfl V.bW ?_;refine bi.makeSlice rfl rfl rfl rfl rfl rfl rfl (iy Q g0) ?aX ?aa ?ab fun zp=>?_;case aX=>exact bS
  case aa=>exact bS
  case ab=>exact bS
  refine e3 ?_;refine a6 rfl V.bW ?_;refine a6 rfl V.bW ?_;refine' bi.val rfl rfl rfl rfl (aeF rfl rfl (iy Q g0) ?ay ?hk rfl rfl ?aX ?aa ?ab ?hw) ?_;case ay=>assumption
  case hk=>exact bS
  case aX=>exact bS
  case aa=>exact bS
  case ab=>exact bS
  case hw=>assumption
  refine bi.b2 ez ?_;refine' bi.tG rfl rfl (nL rfl rfl rfl rfl rfl rfl (iy Q g0) (tm Q g0) (fun i q=>by cases q) ?dr ?hm ?U ?dI ?dP ?aA fun Kk Pv NJ OP=>?_);case dr=>exact .nil
  case hm=>exact ab6
  case U=>exact De.rd
  case dI=>exact(by rw[s8,Nl,iZ])
  case dP=>exact Bs _
  case aA=>exact(show 0+((ap Y).length -1)<=1000000 by omega)
  refine a6 rfl V.aI ?_;refine bi.b2 ez ?_;refine ts rfl V.aI ?_;refine bi.nil ?_;rw[MG,zero_num];have YN:N<=N/\fV.le fV/\(List.replicate N 0).length=N/\fN (List.replicate N 0)/\bs ((List.replicate N 0).drop N)=bs ((ap X).drop N) / Y/\fh 40 1 Kk (ap (bs ((ap X).drop N) % Y)).length (ca .u32 (ap (bs ((ap X).drop N) % Y))) Pv:=by
   refine⟨c5 _,an.le.refl _,Fk,PS,?_,?_⟩
   ·rw[w3 (by rw[Fk];exact c5 _),qV rp];rfl
   ·rw[se rp,<-GZ,Nl]
    rw[nh,sb] at NJ;exact .inl ⟨NJ,OP.1 E2,OP.2 Ec⟩
  refine rg ?_;refine aH ?_;refine I V.bW ?_;refine I V.aI ?_;refine aD ?_;refine ad.block ?_;refine' ad.eH (l':=[(9,.int .i64 (((N):Int) -1)),(5,(Kk)),(0,_),(1,_),(4,_),(6,_),(7,_)]) ⟨?Kl,?gh,rfl,rfl,rfl,rfl,rfl,trivial⟩ (cd _) ?_;case Kl=>first|exact cq|exact aj some (aj (Value.int .u64) (by omega))|exact aj some (aj (Value.int .i64) (by omega))
  case gh=>first|exact cq|exact aj some (aj (Value.int .u64) (by omega))|exact aj some (aj (Value.int .i64) (by omega))
  refine aG ?_;refine' ad.b0 (fun(cG:Nat×(List Nat)×Value×aU×an)=>match cG with|(k,d,gh,ba,dn)=>⟨[(9,.int .i64 ((k:Int) -1)),(5,gh)],ba++[lR .u32 40 zp d],dn,k<=N/\fV.le dn/\d.length=N/\fN d/\bs (d.drop k)=bs ((ap X).drop k) / Y/\fh 40 1 gh (ap (bs ((ap X).drop k) % Y)).length (ca .u32 (ap (bs ((ap X).drop k) % Y))) ba,k⟩) ⟨N,List.replicate N 0,Kk,Pv,fV⟩ ?af ?bT
  case af=>exact YN
  case bT=>
   rintro⟨k,d,gh,ba,dn⟩ hinv;try simp only at hinv
   obtain⟨hk,et,sH,NQ,Hv,dr⟩:=hinv;refine rg ?_;refine I V.aJ ?_;refine I V.a' ?_;refine aD ?_;refine If (fun TN=>?_) fun TN=>?_
   ·obtain⟨z,a0⟩:∃z,(ap X)[k -1]?=some z:=⟨_,eO (by omega)⟩;have nx:nth Uf (Jd+((k:Int) -1).toNat*1)=some (.int .u32 (z:Int)):=by
     rw[show((k:Int) -1).toNat=k -1 by omega];exact Y1 _ _ a0
    have agt:=et _ _ WW;have uj:=qs (kj X) a0;obtain⟨R,eC⟩:∃R,R=bs ((ap X).drop k) % Y:=⟨_,rfl⟩;rw[<-eC] at dr;have W7:R<Y:=by rw[eC];exact oN _ Ad
    have W8:(ap R).length<=101:=eh (v9 (zj W7)) Ae;obtain⟨ga,pW⟩:∃ga,ga=z+1000000000*R:=⟨_,rfl⟩;have Df:ga<1000000000*Y:=by omega
    have W':bs (z::ap R)=ga:=by rw[pW];show z+1000000000*bs (ap R)=_;rw[g5]
    have agF:(ap ga).length<=102:=l9 (jL Df (by
     rw[mu,j4];exact lY _ (zj (ur Ae))))
    have MJ:k -1+1=k:=by omega
    have cc:=Qs (d:=d) Ad a0 (by omega) (by rw[MJ];exact eC) (by rw[MJ];exact Hv) pW;have Yp:fN (z::ap R):=fun u hu=>by
     rcases gj.1 hu with rfl|hu
     ·exact uj
     ·exact kj R u hu
    refine e4 ?_;refine aG ?_;refine ad.block ?_;refine rg ?_;refine aH ?_;refine I V.bj ?_;refine I V.c2 ?_;refine ja (iy Q g0) fun S7=>?_;refine I V.aJ ?_;refine' W.step rfl (.of (nL rfl rfl rfl rfl rfl rfl (iy Q g0) (tm Q g0) (fun i q=>by cases q) ?dr ?hm ?U ?dI ?dP ?aA fun ah9 ahH Xl ahp=>?_));case dr=>exact Acc.cap (a:=S7) (el:=40) (k:=1) (C:=1) (full:=[.int .u32 (z:Int)]) rfl rfl (c5 _) Bv
    case hm=>exact .refl _
    case U=>exact dr.rd (fun x U=>.tail _ (tt _ U))
    case dI=>exact(by rw[s8,iZ])
    case dP=>exact Bs _
    case aA=>exact(show 1+(ap R).length<=1000000 by omega)
    refine W.ab7 Xl rfl fun lV eM sD=>?_;refine b4 (G:=BP (l:=z::ap R) (by rw[lx,Nat.add_comm];exact sD) Yp (by rw[lx];omega)) (h:=?_);rintro v' m' ae hle ⟨rfl,rfl,xL⟩;rw[W'] at xL;have NC:de .u32 lV v' (ap ga):=xL.f';obtain⟨eP,dU,rfl⟩:=NC.form;have xL:=xL.f';have gm:bs ((ap ga).drop (ap ga).length)=0:=(by rw[K1];rfl);refine I V.aI ?_;refine bb ?_;refine I V.aI ?_;refine bb ?_;refine aH ?_;refine I V.bW ?_;refine I V.aI ?_;refine aD ?_;refine ad.block ?_;refine' ad.eH (l':=[(11,.int .i64 ((((ap ga).length):Int) -1)),(10,.int .u64 (bs ((ap ga).drop ((ap ga).length)):Int)),(0,_),(1,_),(4,_),(5,_),(6,_),(7,_),(9,_)]) ⟨?qH,?BZ,rfl,rfl,rfl,rfl,rfl,rfl,rfl,trivial⟩ (cd _) ?_;case qH=>first|exact cq|exact aj some (aj (Value.int .u64) (by omega))|exact aj some (aj (Value.int .i64) (by omega))
    case BZ=>first|exact cq|exact aj some (aj (Value.int .u64) (by omega))|exact aj some (aj (Value.int .i64) (by omega))
    refine aG ?_;refine' ad.mQ (α:=(Nat)) (fun(j:Nat)=>[(11,.int .i64 ((j:Int) -1)),(10,.int .u64 (bs ((ap ga).drop j):Int))]) (fun(j:Nat)=>j<=(ap ga).length/\((ap Y).length -1<=j\/j=(ap ga).length)) (fun(j:Nat)=>j) ((ap ga).length) ?af ?bT;case af=>exact⟨c5 _,.inr rfl⟩
    case bT=>
     rintro j hinv;try simp only at hinv
     obtain⟨a5,N0⟩:=hinv;refine rg ?_;refine aH ?_;refine I V.bW ?_;refine I V.a' ?_;refine aD ?_;refine If (fun TP=>?_) fun TP=>?_
     ·obtain⟨gi,DS⟩:∃z,(ap ga)[j -1]?=some z:=⟨_,eO (by omega)⟩;obtain⟨afO,aaY,Ue,agf,rfl,ags,Y0⟩:=NC.dB (by omega);have ag0:nth Ue (aaY+((j:Int) -1).toNat*1)=some (.int .u32 (gi:Int)):=by
       rw[show((j:Int) -1).toNat=j -1 by omega];exact Y0 _ _ DS
      have Vf:=BX DS;rw[show j -1+1=j by omega] at Vf;have kM:=NX (n:=(ap Y).length -1) (by omega) Df (j -1) (by omega);have Vg:(bs ((ap ga).drop j):Int)*1000000000+(gi:Int)=(bs ((ap ga).drop (j -1)):Int):=by omega
      refine e4 ?_;refine aG ?_;refine ad.block ?_;refine rg ?_;refine I V.aJ ?_;refine I V.bW ?_;refine aH ?_;refine I V.bj ?_;refine I V.c2 ?_;refine I V.gk ?_;refine I V.bW ?_;refine I V.aI ?_;refine bR ?_;rw[Vg];refine rg ?_;refine I V.aJ ?_;refine I V.bW ?_;refine I V.aI ?_;refine bR ?_;refine'⟨(j -1),_,?hinv,?hh,rfl,⟨?Z8,?IQ,rfl,rfl,rfl,rfl,rfl,rfl,rfl,trivial⟩,cd _,rfl⟩;case Z8=>first|exact cq|exact aj some (aj (Value.int .u64) (by omega))|exact aj some (aj (Value.int .i64) (by omega))
      case IQ=>first|exact cq|exact aj some (aj (Value.int .u64) (by omega))|exact aj some (aj (Value.int .i64) (by omega))
      case hh=>exact bS
      case hinv=>exact⟨by omega,.inl (by omega)⟩
     ·have MI:(ap ga).drop j=(ap ga).drop ((ap Y).length -1):=by
       rcases N0 with q|q
       ·rw[show j=(ap Y).length -1 by omega]
       ·rw[w3 (by omega),w3 (by omega)]
      have kw:=NX (n:=(ap Y).length -1) (by omega) Df _ (c5 _);rw[<-MI] at kw;have iR:=Vk b6 (by omega) Df;rw[<-MI] at iR;obtain⟨gv,l2⟩:∃gv,gv=bs ((ap ga).drop j) / T:=⟨_,rfl⟩;have agP:gv<=bs ((ap ga).drop j):=by rw[l2];exact sc _ _
      rw[<-l2] at iR;obtain⟨E,hL⟩:∃E,E=Nat.min gv 999999999:=⟨_,rfl⟩;rw[<-hL] at iR;have rq:E<=999999999:=by rw[hL];exact Nat.min_le_right _ _
      have WM:min (IntKind.u64.wrap ((bs ((ap ga).drop j):Int).tdiv (T:Int))) 999999999=(E:Int):=by
       rw[show(bs ((ap ga).drop j):Int).tdiv (T:Int)=(gv:Int) by rw[l2];exact(oJ _ _).symm];rw[wrap_u64 (by omega) (by omega),hL];show min (gv:Int) 999999999=((min gv 999999999:Nat):Int);omega
      refine aG ?_;refine ad.exit ?_;refine mj [10,0,1,4,5,6,7,9] ?_;refine aG ?_;refine' ad.oU 1 [(12,.int .u64 (E:Int))] ?Uv ?U2;case Uv=>
       refine ad.region ?_;refine aH ?_;refine I V.ha ?_;refine' W.step rfl (Exec.val rfl rfl (Ka rfl rfl rfl rfl rfl) ?_);refine I V.aI ?_;refine bR ?_;refine'⟨⟨_,rfl,⟨?Bi,rfl,rfl,rfl,rfl,rfl,rfl,rfl,trivial⟩⟩,cd _,rfl⟩;case Bi=>exact aj some (aj (Value.int .u64) WM)
      case U2=>
       refine aG ?_;refine ad.block ?_;refine' ad.eH (l':=[(12,.int .u64 ((E):Int)),(0,_),(1,_),(4,_),(5,_),(6,_),(7,_),(9,_)]) ⟨?Kf,rfl,rfl,rfl,rfl,rfl,rfl,rfl,trivial⟩ (cd _) ?_;case Kf=>first|exact cq|exact aj some (aj (Value.int .u64) (by omega))|exact aj some (aj (Value.int .i64) (by omega))
       refine aG ?_;refine' ad.b0 (fun(cG:Nat×an)=>match cG with|(t,qR)=>⟨[(12,.int .u64 (t:Int))],ba++[lR .u32 40 zp d],qR,ga / Y<=t/\t<=999999999/\lV.le qR,t⟩) ⟨E,lV⟩ ?af ?bT
       case af=>exact⟨iR,rq,an.le.refl _⟩
       case bT=>
        rintro⟨t,qR⟩ hinv;try simp only at hinv
        obtain⟨AM,Ou,xG⟩:=hinv;have vY:t<1000000000:=(by omega);refine rg ?_;refine aH ?_;refine I V.gk ?_;refine b4 (G:=JS (x:=t) vY) (h:=?_);rintro v' m' KV iI ⟨_,rfl,vH⟩;have vH:=vH.f';refine b4 (G:=tk (NE.mono (et.trans (eM.trans (xG.trans iI)))) vH (by omega) (eh (l9 (k:=1) (by rw[Fw];exact vY)) (by decide))) (h:=?_);rintro v' m' Cg je ⟨_,rfl,eB⟩;refine I V.aJ ?_;refine b4 (G:=Jq eB.f' (xL.mono (xG.trans (iI.trans je))) (eh (Eb Ae vY) (by decide))) (h:=?_);rintro v' m' ae hle ⟨rfl,rfl,rfl⟩;refine I V.a' ?_;refine aD ?_;refine If (fun CC=>?_) fun CC=>?_
        ·have kQ:ga<Y*t:=by
           rcases hr ga (Y*t) with q|q
           ·exact q
           ·exfalso
            rcases Nat.eq_or_lt_of_le q with q|q
            ·rw[vj q] at CC;omega
            ·rw[xc q] at CC;omega
         have N5:ga / Y<t:=Nat.div_lt_of_lt_mul kQ;have aha:1<=t:=hC (fB _) N5;have YP:ga / Y<=t -1/\t -1<=999999999/\lV.le Cg:=⟨Nat.le_sub_one_of_lt N5,by omega,xG.trans (iI.trans je)⟩;refine e4 ?_;refine aG ?_;refine ad.block ?_;refine rg ?_;refine I V.aJ ?_;refine I V.bW ?_;refine I V.aI ?_;refine bR ?_;rw[show(t:Int) -1=((t -1:Nat):Int) by omega];refine gF ⟨t -1,Cg⟩ ?_;exact YP
        ·have jf:Y*t<=ga:=by
           rcases hr ga (Y*t) with q|q
           ·rw[zI q] at CC;omega
           ·exact q
         have Io:t=ga / Y:=Nat.le_antisymm ((Lk Ad).2 (by rw[j4];exact jf)) AM;have Yd:ga -Y*t=ga % Y:=by
           have:=Fv ga Y;rw[<-Io] at this;omega
         refine aG ?_;refine ad.exit ?_;refine rg ?_;refine aH ?_;refine I V.gk ?_;refine b4 (G:=JS (x:=t) vY) (h:=?_);rintro v' m' KW ht ⟨_,rfl,vH⟩;have vH:=vH.f';refine b4 (G:=tk (NE.mono (et.trans (eM.trans (xG.trans (iI.trans (je.trans ht)))))) vH (by omega) (eh (l9 (k:=1) (by rw[Fw];exact vY)) (by decide))) (h:=?_);rintro v' m' Ch ky ⟨_,rfl,eB⟩;refine b4 (G:=Pp (xL.mono (xG.trans (iI.trans (je.trans (ht.trans ky))))) eB.f' jf (by omega) (eh (Eb Ae vY) (by decide))) (h:=?_);rintro RU Pt ae hle ⟨rfl,n8⟩;rw[Yd] at n8;refine I V.aJ ?_;refine I V.gk ?_;refine I V.aI ?_;refine I V.bj ?_;refine' W.step rfl (.of (k4 rfl rfl rfl rfl (jX rfl) rfl rfl rfl ?aa ?af ?ao ?_));case ao=>repeat first|exact .head _ _ _ _|apply dp.tail|apply dp.app
         case af=>exact pq (l:=d) (x:=t) (k -1) (by omega) (by omega)
         case aa=>first|rfl|assumption
         refine bR ?_;rw[Io];have bT:k -1<=N/\fV.le Ch/\(d.set (k -1) (ga / Y)).length=N/\fN (d.set (k -1) (ga / Y))/\bs ((d.set (k -1) (ga / Y)).drop (k -1))=bs ((ap X).drop (k -1)) / Y/\fh 40 1 RU (ap (bs ((ap X).drop (k -1)) % Y)).length (ca .u32 (ap (bs ((ap X).drop (k -1)) % Y))) Pt:=⟨by omega,et.trans (eM.trans (xG.trans (iI.trans (je.trans (ht.trans ky))))),by rw[nP];exact sH,El NQ (by rw[<-Io];exact vY),cc.1,by rw[<-cc.2];exact n8⟩;refine rg ?_;refine I V.aJ ?_;refine I V.bW ?_;refine I V.aI ?_;refine bR ?_;refine gF ⟨k -1,d.set (k -1) (ga / Y),RU,Pt,Ch⟩ ?_ (hm:=(cd _).append (w5 _ _));exact bT
   ·obtain rfl:k=0:=by omega
    rw[kJ,kJ,g5] at Hv;rw[kJ,g5] at dr;obtain⟨R,eC⟩:∃R,R=X % Y:=⟨_,rfl⟩;rw[<-eC] at dr;have W8:(ap R).length<=101:=eh (v9 (zj (by rw[eC];exact oN _ Ad))) Ae;obtain⟨eU,e2,rfl⟩:=dr.V8;have G5:de .u32 dn _ (ap f):=z5.mono et;rw[WO] at G5;have WQ:∃b c,aej=.slice b 1 c:=G5.form;obtain⟨afT,afZ,rfl⟩:=WQ;obtain⟨afN,aaX,Ud,age,rfl,agr,YZ⟩:=G5.dB Nat.one_pos;have agY:nth Ud (aaX+(0:Int).toNat*1)=some (.int .u32 (f:Int)):=YZ 0 f rfl;refine aG ?_;refine ad.exit ?_;refine rg ?_;refine I V.aI ?_;refine bb ?_;refine aH ?_;refine I V.bW ?_;refine I V.aI ?_;refine aD ?_;refine ad.block ?_;refine' ad.eH (l':=[(14,.int .i64 ((((ap R).length):Int) -1)),(13,.int .u64 ((0):Int)),(4,_),(5,_),(6,_)]) ⟨?Kg,?aeP,rfl,rfl,rfl,trivial⟩ (cd _) ?_;case Kg=>first|exact cq|exact aj some (aj (Value.int .u64) (by omega))|exact aj some (aj (Value.int .i64) (by omega))
    case aeP=>first|exact cq|exact aj some (aj (Value.int .u64) (by omega))|exact aj some (aj (Value.int .i64) (by omega))
    refine aG ?_;refine' ad.b0 (fun(cG:Nat×Nat×(List Nat)×aU)=>match cG with|(j,c,L,IT)=>⟨[(14,.int .i64 ((j:Int) -1)),(13,.int .u64 (c:Int))],IT++[lR .u32 40 zp d],dn,j<=(ap R).length/\L.length=(ap R).length/\fN L/\L.take j=(ap R).take j/\bs (L.drop j)=bs ((ap R).drop j) / f/\c=bs ((ap R).drop j) % f/\fh 40 1 (.slice eU (ap R).length e2) L.length (ca .u32 L) IT,j⟩) ⟨(ap R).length,0,ap R,ba⟩ ?af ?bT
    case af=>exact⟨c5 _,rfl,kj R,rfl,by rw[K1];exact(Nat.zero_div f).symm,by rw[K1];exact(Nat.zero_mod f).symm,dr⟩
    case bT=>
     rintro⟨j,c,L,IT⟩ hinv;try simp only at hinv
     obtain⟨a5,Ny,C9,Nz,Ha,aL,NG⟩:=hinv;refine rg ?_;refine I V.aJ ?_;refine I V.a' ?_;refine aD ?_;refine If (fun TD=>?_) fun TD=>?_
     ·obtain⟨z,a0⟩:∃z,(ap R)[j -1]?=some z:=⟨_,eO (by omega)⟩;have Zg:L[j -1]?=some z:=by
       have aC:(L.take j)[j -1]?=L[j -1]?:=Fj (by omega);have aZ:((ap R).take j)[j -1]?=(ap R)[j -1]?:=Fj (by omega);rw[<-aC,Nz,aZ,a0]
      have uj:=qs (kj R) a0;obtain⟨cr,full,rest,bh,rfl,hg,Dk⟩:=NG.row (by omega);injection bh with bh cb dD
      subst bh;subst dD;have N9:nth full (0+((j:Int) -1).toNat*1)=some (.int .u32 (z:Int)):=by
       rw[I9 hg (by omega)];exact s9 Zg (by omega)
      have Xv:c<f:=by rw[aL];exact oN _ Al
      obtain⟨s,af⟩:∃s,s=z+1000000000*c:=⟨_,rfl⟩;have Ie:(c:Int)*1000000000+(z:Int)=(s:Int):=by omega
      have x':s<1000000000000000000:=by omega
      have NO:s / f<1000000000:=by rw[af];exact UV uj Xv
      have sG:(s:Int).tdiv (f:Int)=((s / f:Nat):Int):=(oJ s f).symm;have p9:(s:Int).tmod (f:Int)=((s % f:Nat):Int):=(uV s f).symm;have Y9:IntKind.u64.wrap ((s / f:Nat):Int)=((s / f:Nat):Int):=wrap_u64 (Cf _) (by omega);have aC:j -1+1=j:=by omega
      have cc:=Qs (d:=L) Al a0 (by omega) (by rw[aC];exact aL) (by rw[aC];exact Ha) af;have YQ:j -1<=(ap R).length/\(L.set (j -1) (s / f)).length=(ap R).length/\fN (L.set (j -1) (s / f))/\(L.set (j -1) (s / f)).take (j -1)=(ap R).take (j -1)/\bs ((L.set (j -1) (s / f)).drop (j -1))=bs ((ap R).drop (j -1)) / f/\s % f=bs ((ap R).drop (j -1)) % f/\fh 40 1 (.slice (some ⟨cr,0,none⟩) (ap R).length cu) (L.set (j -1) (s / f)).length (ca .u32 (L.set (j -1) (s / f))) [(cr,.opn (full.set (j -1) (.int .u32 ((s / f:Nat):Int))) 40 [] 0)]:=⟨by omega,by rw[nP];exact Ny,El C9 NO,by
       rw[List.take_set_of_le (c5 _)];have aR:(L.take j).take (j -1)=L.take (j -1):=by rw[tw,g9 (by omega)]
       have aN:((ap R).take j).take (j -1)=(ap R).take (j -1):=by rw[tw,g9 (by omega)]
       rw[<-aR,<-aN,Nz],cc.1,cc.2,by
       rw[<-Ny];exact fh.put hg Dk rfl (by omega)⟩
      refine e4 ?_;refine aG ?_;refine ad.block ?_;refine rg ?_;refine I V.aJ ?_;refine I V.bW ?_;refine aH ?_;refine I V.bj ?_;refine I V.c2 ?_;refine I V.gk ?_;refine I V.bW ?_;refine I V.aI ?_;refine bR ?_;rw[Ie];refine rg ?_;refine aH ?_;refine I V.bj ?_;refine I V.c2 ?_;refine I V.gk ?_;refine I V.ha ?_;rw[sG,Y9];refine I V.gk ?_;rw[show IntKind.u32.wrap ((s / f:Nat):Int)=((s / f:Nat):Int) from wrap_u32 (Cf _) (by omega)];refine I V.bj ?_;refine' W.step rfl (.of (Kr rfl rfl rfl rfl (jX rfl) rfl rfl rfl ?aa ?af ?a0 ?ao ?_));case ao=>exact .refl _
      case af=>exact Q5 (by omega)
      case aa=>first|rfl|assumption
      case a0=>exact fB _
      refine bR ?_;rw[show 0+((j:Int) -1).toNat*1=j -1 by omega];refine rg ?_;refine aH ?_;refine I V.bj ?_;refine I V.c2 ?_;refine I V.gk ?_;refine I V.ha ?_;refine I V.aI ?_;refine bR ?_;rw[p9];refine rg ?_;refine I V.aJ ?_;refine I V.bW ?_;refine I V.aI ?_;refine bR ?_;refine gF ⟨j -1,s % f,L.set (j -1) (s / f),[(cr,.opn (full.set (j -1) (.int .u32 ((s / f:Nat):Int))) 40 [] 0)]⟩ ?_;exact YQ
     ·obtain rfl:j=0:=by omega
      rw[kJ,kJ,g5] at Ha;refine fh.m0 NG (.refl _) fun Fg kz W9=>?_;refine ad.iW rfl fun kA=>?_;have Yz:bs d=x / y:=by rw[Hv,fl,im,Nat.mul_div_mul_right _ _ Al]
      have YH:bs L=x % y:=by rw[Ha,eC,fl,im,Nat.mul_mod_mul_right,qX _ Al]
      have sD:ey (Fg.add zp (ca .u32 d,40)) 40 1 (.slice (some ⟨zp,0,none⟩) N N) d.length (ca .u32 d):=by
       rw[<-sH];exact .row (an.hH _ _ _) (by rw[kJ,iZ];exact ib (by rw[s8];exact c5 _)) (by rw[s8,iZ]) (fun _=>⟨c5 _,D8 (by omega)⟩) (fun q=>absurd q (zk (D8 (by omega))))
      refine aG ?_;refine ad.exit ?_;refine rg ?_;refine I V.aJ ?_;refine b4 (G:=BP (l:=d) sD NQ (by omega)) (h:=?_);rintro v' m' ae hle ⟨rfl,rfl,eL⟩;rw[Yz] at eL;refine I V.aJ ?_;refine b4 (G:=BP (l:=L) (ey.mono kA W9) C9 (by omega)) (h:=?_);rintro v' m' ae hle ⟨rfl,rfl,ep⟩;rw[YH] at ep;refine aH ?_;refine aD ?_;refine ad.ret ?_;refine'⟨.inr rfl,rfl,_,[],.tmp rfl (.tmp rfl .nil),bZ _,?_⟩;first
       |exact⟨an.le.refl _,rfl,_,_,rfl,by rw[qV cD];exact Eg,by rw[se cD];exact g3⟩
       |exact⟨a8.trans (bO.trans (cL.trans (et.trans (kz.trans kA)))),rfl,_,_,rfl,eL.f',ep.f'⟩
end
end
end Go.Opn
