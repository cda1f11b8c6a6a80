/- A part of the proof of ResumeBack. -/
import Derived.Test.YtiemfjdacfioeaaGreatDoorCbn
import Derived.Test.YtiemfjdacfioeaaGreatDoorCbf
import Derived.Test.YtiemfjdacfioeaaGreatDoorCbk
import Derived.Test.YtiemfjdacfioeaaGreatDoorCbd
set_option maxRecDepth 100000
set_option maxHeartbeats 8000000
set_option linter.unusedVariables false
set_option linter.unusedSimpArgs false
namespace Go.Opn
noncomputable section
open Go.Cre Go.RowKit Go.Proofs
theorem Y'{cells:List Value}{off:Nat}{v:Value}(i:Nat)(h:i<cells.length)(ar:off=i:=by omega):gD off cells [v]=some (cells.set i v):=by
 subst ar;have:=Rf (f:=fun v:Value=>v) (L:=cells) (x:=v) h;rwa [List.map_id',List.map_id'] at this
theorem XC{cells:List Value}{off:Nat}{v:Value}(i:Nat)(h:cells[i]?=some v)(ar:off=i:=by omega):nth cells off=some v:=by subst ar;rw[kR];exact h
theorem dG.addr{J:aI}{b:Option Addr}{n c:Nat}{l:List Int}(h:dG J (.slice b n c) l):addrEq b b=true:=by
 obtain⟨e,h⟩:=h;generalize l.length=k at h;generalize l.map (Value.int .i64)=cs at h;cases h<;>simp[addrEq]
theorem aki{α:Type}{P:Nat->α->Prop}:∀{n:Nat},(∀j,j<n->∃r,P j r)->∃V:List α,V.length=n/\∀j r,V[j]?=some r->P j r:=by
 intro n;induction n with
 |zero=>intro _;exact⟨[],rfl,fun j r h=>by cases h⟩
 |succ n aK=>
  intro h;obtain⟨V,aa,ae⟩:=aK fun j ba=>h j (by omega);obtain⟨r,ay⟩:=h n (by omega);refine⟨V++[r],by simp[aa],fun j q c7=>?_⟩;rcases vu c7 with k|⟨bp,bC⟩
  ·exact ae j q k
  ·rw[bp,bC,aa];exact ay
theorem QR{v w b:Int}(aa:-b<=v)(ae:v<=b)(bD:0<=w):-(b*w)<=v*w/\v*w<=b*w:=by
 have bo:=Mp aa bD;have a2:=Mp ae bD;rw[Int.neg_mul] at bo;exact⟨bo,a2⟩
theorem Xx{g:bz}{S:List (List Int)}{x:cS}(hw:iP g)(ax:wz g S)(U:x∈g.ns)(aU:¬x.k=3):∃(W:List Int) (D:Int),W.length=x.ak.length/\(∀v∈W,0<=v)/\W.sum=D/\0<D/\D<=65536/\(x.k=1->W=x.ws/\D=x.ws.sum)/\(¬x.k=1->x.k=2/\D=65536/\0<=x.p/\x.p<g.pl/\∃i:Nat,x.i=(i:Int)/\i<g.is.length/\S[i]?=some W)/\x.ak.length<=3/\1<=x.ak.length:=by
 rcases hw.kind x U with⟨h,_⟩|⟨aa,ae,aG,br,eu⟩|⟨aa,ae,aG,br,eu,k,gK,ks⟩
 ·exact absurd h aU
 ·have s1:=Zg (l:=x.ws) (b:=1) fun v az=>(eu v az).1
  have s2:=LZ (l:=x.ws) (b:=3) fun v az=>(eu v az).2;exact⟨x.ws,x.ws.sum,ae,fun v az=>by have:=eu v az;omega,rfl,by omega,by omega,fun _=>⟨rfl,rfl⟩,fun q=>absurd aa q,by omega,by omega⟩
 ·obtain⟨r,ay,rA,px⟩:=ax.1.get ks
  have hm:=cd ay;exact⟨r,65536,by omega,fun v az=>by obtain⟨i,ao⟩:=kj.1 az;exact(px i v ao).1,ax.2 r hm,by omega,by omega,fun q=>by omega,fun _=>⟨aa,rfl,br,eu,k,gK,eT ks,ay⟩,by omega,by omega⟩
def q0(g:bz)(r:List Int):Prop:=r.length=g.pl.toNat/\∀v∈r,-3072<=v/\v<=3072
def Jz(g:bz)(J:aI)(cells:List Value)(z:Int):Prop:=cells.length=g.ns.length/\∀j:Nat,z<(j:Int)->j<g.ns.length->∃r w,cells[j]?=some w/\dG J w r/\q0 g r
theorem Jz.set{g:bz}{J ag:aI}{cells:List Value}{i:Nat}{r:List Int}{w:Value}(h:Jz g J cells (i:Int))(hle:J.le ag)(ao:i<g.ns.length)(aa:dG ag w r)(ae:q0 g r):Jz g ag (cells.set i w) ((i:Int) -1):=by
 refine⟨by rw[gu];exact h.1,fun j BJ K6=>?_⟩;rw[kH];split
 ·rw[aE (by have:=h.1;omega)];exact⟨r,w,rfl,aa,ae⟩
 ·obtain⟨dw,bu,bd,a6,b9⟩:=h.2 j (by omega) K6
  exact⟨dw,bu,bd,a6.mono hle,b9⟩
theorem q0.zero{g:bz}:q0 g (List.replicate g.pl.toNat 0):=⟨by simp,fun v az=>by rw[wo az];omega⟩
theorem q0.set{g:bz}{r:List Int}{p:Nat}{v:Int}(h:q0 g r)(aa:-3072<=v)(ae:v<=3072):q0 g (r.set p v):=by
 refine⟨by rw[gu];exact h.1,fun w hw=>?_⟩;rcases CN hw with q|q
 ·exact h.2 w q
 ·subst q;exact⟨aa,ae⟩
abbrev qy(a:Nat)(x:cS)(bm:Option Addr)(bt:Nat)(bl:Option Addr)(bw:Nat)(b8:Option Addr)(dh:Nat):Nat×cK:=(a,.row [.int .i64 x.k,.int .i64 x.p,.int .i64 x.i,.slice bm x.ak.length bt,.slice bl x.ws.length bw,.slice b8 x.fE.length dh] 45)
section
variable {Q:dI Tryz.prog}{g0:Nat}{J:aI}
theorem aoS{g:bz}{aT aL eA:Option Addr}{aQ ci fk:Nat}{S:List (List Int)}(hw:iP g)(aq:fG J g aT aQ aL ci)(j4:fa J 22 1 (jI J) (.slice eA S.length fk) S)(ax:wz g S):
 Fn (bb Q g0) 57 [hc g aT aQ aL ci,.slice eA S.length fk] [] J (fun u m' ag=>J.le ag/\m'=[]/\∃b c V,u=.slice b V.length c/\fa ag 22 1 (jI ag) (.slice b V.length c) V/\V.length=g.ns.length/\∀r∈V,q0 g r):=by
 have fW:addrEq aL aL=true:=aq.i.addr;have gn:addrEq aT aT=true:=aq.n.addr;have EQ:addrEq eA eA=true:=j4.addr;obtain⟨_,fD⟩:=aq.n.at;obtain⟨_,OS⟩:=j4.at;have b0:=hw.b0;have dn:=hw.dn;have dS:=hw.dS;have iX:=hw.iX;obtain⟨bR,off,Ez,ne,rfl,tK,jP⟩:=fD (by omega);refine Fn.cH (cQ Tryz.func57) rfl rfl fun H=>?_;refine rg ?_;refine dJ fun a2=>?_;refine I V.aA ?_;refine bj ?_;refine I V.bc ?_;refine I V.aF ?_;refine I V.bP ?_;refine' W.step rfl (.of (pT rfl rfl rfl rfl rfl (nl Q g0) ?bD ?aa ?ae fun u3=>?_));case bD=>exact cf
 case aa=>exact cf
 case ae=>exact cf
 refine I V.aA ?_;refine a8 ?_;rw[CB,cy];refine rg ?_;refine I V.bc ?_;refine I V.aF ?_;refine I V.bP ?_;refine I V.bx ?_;refine I V.aA ?_;refine ns ?_;refine ab.block ?_;refine' ab.c2 (l':=[(6,.int .i64 ((g.ns.length:Int) -1)),(1,_),(2,_),(5,_)]) ⟨?nn,rfl,rfl,rfl,trivial⟩ (bA _) ?_;case nn=>exact bS
 refine aj ?_;refine' ab.dF (fun(bH:Int×(List Value)×aI)=>match bH with|(z,cells,dY)=>⟨[(6,.int .i64 z)],[(u3,.row cells 22),dm a2 g (some ⟨bR,off,none⟩) aQ aL ci],dY,-1<=z/\z<g.ns.length/\J.le dY/\Jz g dY cells z,(z+1).toNat⟩) ⟨(g.ns.length:Int) -1,List.replicate g.ns.length (.slice none 0 0),J⟩ ?af ?bE
 case af=>exact⟨by omega,by omega,aI.le.refl _,by simp,fun j BJ K6=>by omega⟩
 case bE=>
  rintro⟨z,cells,dY⟩ hinv;try simp only at hinv
  obtain⟨zq,lc,dr,k5⟩:=hinv;refine rg ?_;refine I V.ah ?_;refine I V.a1 ?_;refine ns ?_;refine If (fun F7=>?_) fun F7=>?_
  ·obtain⟨i,rfl⟩:∃i:Nat,z=(i:Int):=⟨z.toNat,by omega⟩;have ao:i<g.ns.length:=by omega
   obtain⟨x,cs,U,gV,ir,ey⟩:=jP i (by omega) (by omega);obtain⟨bm,bt,bl,bw,b8,dh,rfl,eo,ga,gz⟩:=ey;have za:=ir 3 _ (by decide) rfl;rw[cy] at U;have jR:=cd U;have sB:=hw.kids i x U;have tK:=dr _ _ tK;have G0:=k5.1;have eo:=eo.mono dr;have ga:=ga.mono dr;have gz:=gz.mono dr;have bd:addrEq bm bm=true:=eo.addr;have a6:addrEq bl bl=true:=ga.addr;have b9:addrEq b8 b8=true:=gz.addr;have VV:∀a:Nat,nth (cells.set i (.slice (some ⟨a,0,none⟩) g.pl.toNat g.pl.toNat)) (0+i*1)=some (.slice (some ⟨a,0,none⟩) g.pl.toNat g.pl.toNat):=fun a=>XC i (by rw[kH,aE rfl,aE (by omega)]);have OD:∀(a:Nat) (c:Int),c∈x.ak->∃r AB C',nth (cells.set i (.slice (some ⟨a,0,none⟩) g.pl.toNat g.pl.toNat)) (0+c.toNat*1)=some (.slice AB r.length C')/\dG dY (.slice AB r.length C') r/\q0 g r/\0<=c/\c<g.ns.length:=fun a c aH=>by
    have xi:=sB c aH;obtain⟨r,w,bp,bC,b5⟩:=k5.2 c.toNat (by omega) (by omega);obtain⟨AB,C',rfl,_⟩:=bC.inv;exact⟨r,AB,C',XC c.toNat (by rw[kH,ap (by omega)];exact bp),bC,b5,by omega,by omega⟩
   refine c5 ?_;refine aj ?_;refine ab.block ?_;refine rg ?_;refine I V.bc ?_;refine I V.aF ?_;refine I V.ah ?_;refine I V.aX ?_;refine I V.c8 ?_;refine' W.step rfl (.of (e4 rfl rfl rfl (om Q g0) rfl rfl rfl fun cX=>?_));refine dN ?_;refine bj ?_;refine aM ?_;refine I V.aF ?_;refine' W.step rfl (.of (pT rfl rfl rfl rfl rfl (eX Q g0) ?bD ?aa ?ae fun ov=>?_));case bD=>exact cf
   case aa=>exact cf
   case ae=>exact cf
   refine I V.aX ?_;refine' W.step rfl (.of (hz rfl rfl rfl rfl (fY rfl) rfl rfl rfl ?aa ?af ?aw ?_));case aw=>repeat first|exact .head _ _ _ _|apply cR.tail|apply cR.app
   case af=>exact Y' i (by omega)
   case aa=>first|rfl|assumption
   refine a8 ?_;rw[yi];have VV:=VV ov;have OD:=OD ov;refine rg ?_;refine I V.aA ?_;refine ns ?_;refine ab.block ?_;refine' ab.c2 (l':=[(8,.int .i64 ((0):Int)),(1,_),(2,_),(5,_),(6,_),(7,_)]) ⟨?jq,rfl,rfl,rfl,rfl,rfl,trivial⟩ (bA _) ?_;case jq=>exact bS
   refine aj ?_;refine' ab.dF (fun(bH:Nat×(List Int))=>match bH with|(p,L)=>⟨[(8,.int .i64 (p:Int))],[ld ov L,qy cX x bm bt bl bw b8 dh,(u3,.row (cells.set i (.slice (some ⟨ov,0,none⟩) g.pl.toNat g.pl.toNat)) 22),dm a2 g (some ⟨bR,off,none⟩) aQ aL ci],dY,(p:Int)<=g.pl/\q0 g L,g.pl.toNat -p⟩) ⟨0,List.replicate g.pl.toNat 0⟩ ?af ?bE
   case af=>exact⟨by omega,q0.zero⟩
   case bE=>
    rintro⟨p,L⟩ hinv;try simp only at hinv
    obtain⟨aw,bT⟩:=hinv;refine rg ?_;refine aM ?_;refine I V.aF ?_;refine I V.a1 ?_;refine ns ?_;refine If (fun k0=>?_) fun k0=>?_
    ·have DM:=bT.1;refine c5 ?_;refine aj ?_;refine ab.block ?_;refine rg ?_;refine I V.bc ?_;refine I V.aF ?_;refine I V.a1 ?_;refine ns ?_;refine If (fun Tt=>?_) fun Tt=>?_
     ·obtain⟨_,ud,V8⟩:x.ak=[]/\(x.fE.length:Int)=g.pl/\∀w∈x.fE,-3<=w/\w<=3:=by
        rcases hw.kind x jR with⟨_,h⟩|⟨h,_⟩|⟨h,_⟩
        ·exact h
        ·omega
        ·omega
      obtain⟨abi,zO,acG,NI,rfl,agy,O1⟩:=gz.iY (by omega);obtain⟨w,kO,oW⟩:=O1 p (by omega);have BD:=V8 w (cd kO);refine aj ?_;refine ab.draw rfl (by kernel_rfl) (bf:=[.val 0,.val 1,.val 2,.val 3,.val 4,.val 5,.val 6,.val 7,.val 8,.val 9,.val 10,.val 11,.bV 12]) (by kernel_rfl) ?_;refine cq ?_;refine an rfl V.aX ?_;refine an rfl V.aF ?_;refine cq ?_;refine an rfl V.aF ?_;refine an rfl V.ah ?_;refine an rfl V.aX ?_;refine an rfl V.aF ?_;refine an rfl V.bx ?_;refine an rfl V.aX ?_;refine' a7.fO rfl rfl (hz rfl rfl rfl rfl (fY rfl) rfl rfl rfl ?aa ?af ?aw ?_);case aw=>repeat first|exact .head _ _ _ _|apply cR.tail|apply cR.app
      case af=>exact jo p (by omega)
      case aa=>first|rfl|assumption
      refine a7.nil ?_;refine aj ?_;refine ab.exit ?_;refine rg ?_;refine I V.ah ?_;refine I V.bx ?_;refine I V.aA ?_;refine a8 ?_;refine cA ⟨p+1,L.set p (w*1024)⟩ ?_;first|exact⟨by omega,bT.set (by omega) (by omega)⟩|exact⟨by omega,bT.set vM.1 vM.2⟩
     ·obtain⟨W,D,Kp,ss,G3,DH,gU,mZ,qj,cr,ah9⟩:=Xx hw ax jR Tt;obtain⟨mh,iW,oD,ex,rfl,rc,ia⟩:=eo.iY (by omega);refine nf ?_;refine aM ?_;refine bj ?_;refine I V.bc ?_;refine I V.aF ?_;refine I V.a1 ?_;refine a8 ?_;refine fT [10,59,1,2,5,6,7,8,9] ?_;refine aj ?_;refine' ab.yT (α:=(Int)) 2 (fun(gS:Int)=>[(10,.int .i64 gS)]) (fun(gS:Int)=>[ld ov L,qy cX x (some ⟨mh,iW,none⟩) bt bl bw b8 dh,(u3,.row (cells.set i (.slice (some ⟨ov,0,none⟩) g.pl.toNat g.pl.toNat)) 22),dm a2 g (some ⟨bR,off,none⟩) aQ aL ci]) (fun(gS:Int)=>dY) (fun(gS:Int)=>D=gS) ?acw ?ady;case acw=>
        refine If (fun ik=>?_) fun ik=>?_
        ·refine rg ?_;refine I V.bc ?_;refine I V.aF ?_;refine cl (G:=Zv ga (by rw[<-(mZ ik).1];exact ss) (by rw[<-(mZ ik).2];omega) (by rw[<-(mZ ik).1,Kp];omega)) (h:=?_);rintro v' m' eZ cE ⟨rfl,rfl,rfl⟩;refine I V.aA ?_;refine a8 ?_;refine'⟨(x.ws.sum),_,?hinv,rfl,⟨?m10,rfl,rfl,rfl,rfl,rfl,rfl,rfl,trivial⟩,rD,rfl⟩;case m10=>exact bS
         case hinv=>exact(mZ ik).2
        ·refine aj ?_;refine ab.skip ?_;refine'⟨(65536),_,?hinv,rfl,⟨?m10,rfl,rfl,rfl,rfl,rfl,rfl,rfl,trivial⟩,rD,rfl⟩;case m10=>exact bS
         case hinv=>exact(qj ik).2.1
      case ady=>
        rintro gS hinv;try simp only at hinv
        obtain rfl:=hinv;refine rg ?_;refine I V.aA ?_;refine ns ?_;refine ab.block ?_;refine' ab.c2 (l':=[(9,.int .i64 (0)),(11,.int .i64 ((0):Int)),(1,_),(2,_),(5,_),(6,_),(7,_),(8,_),(10,_)]) ⟨?pS,?yb,rfl,rfl,rfl,rfl,rfl,rfl,rfl,trivial⟩ (bA _) ?_;case pS=>exact bS
        case yb=>exact bS
        refine aj ?_;refine' ab.dF (fun(bH:Nat×Int)=>match bH with|(k,sm)=>⟨[(9,.int .i64 sm),(11,.int .i64 (k:Int))],[ld ov L,qy cX x (some ⟨mh,iW,none⟩) bt bl bw b8 dh,(u3,.row (cells.set i (.slice (some ⟨ov,0,none⟩) g.pl.toNat g.pl.toNat)) 22),dm a2 g (some ⟨bR,off,none⟩) aQ aL ci],dY,k<=x.ak.length/\-(3072*(W.take k).sum)<=sm/\sm<=3072*(W.take k).sum,x.ak.length -k⟩) ⟨0,0⟩ ?af ?bE
        case af=>exact⟨by omega,by simp,by simp⟩
        case bE=>
         rintro⟨k,sm⟩ hinv;try simp only at hinv
         obtain⟨aU,KT,KU⟩:=hinv;refine rg ?_;refine aM ?_;refine I V.aF ?_;refine I V.bP ?_;refine I V.a1 ?_;refine ns ?_;refine If (fun n0=>?_) fun n0=>?_
         ·obtain⟨bU,fs,zf⟩:=ia k (by omega);obtain⟨r,AB,C',Hp,n9,ay,aqH,aqI⟩:=OD bU (cd fs);have Ea:=ay.1;have atN:addrEq AB AB=true:=n9.addr;obtain⟨ac,atq,aqT,arp,rfl,arL,ahF⟩:=n9.iY (by omega);obtain⟨v,az,Po⟩:=ahF p (by omega);have zm:=ay.2 v (cd az);obtain⟨w,kO⟩:∃w,W[k]?=some w:=⟨_,de (by omega)⟩;have PT:=ss w (cd kO);have Hu:=QR (v:=v) (w:=w) (b:=3072) (by omega) zm.2 PT;have di:=E3 kO;have zd:=rU ss k;have ah5:=rU ss (k+1);refine c5 ?_;refine aj ?_;refine ab.block ?_;refine rg ?_;refine I V.aA ?_;refine bj ?_;refine I V.bc ?_;refine I V.aF ?_;refine I V.a1 ?_;refine a8 ?_;refine fT [72,1,2,5,6,7,8,9,10,11] ?_;refine aj ?_;refine' ab.yT (α:=(Int)) 1 (fun(iD:Int)=>[(12,.int .i64 iD)]) (fun(iD:Int)=>[ld ov L,qy cX x (some ⟨mh,iW,none⟩) bt bl bw b8 dh,(u3,.row (cells.set i (.slice (some ⟨ov,0,none⟩) g.pl.toNat g.pl.toNat)) 22),dm a2 g (some ⟨bR,off,none⟩) aQ aL ci]) (fun(iD:Int)=>dY) (fun(iD:Int)=>w=iD) ?acy ?adA;case acy=>
           refine If (fun C9=>?_) fun C9=>?_
           ·have xH:x.ws.length=x.ak.length:=by rw[<-(mZ C9).1];exact Kp
            obtain⟨dd,EJ,De,y0,rfl,DL,rm⟩:=ga.iY (by rw[<-(mZ C9).1];omega);obtain⟨e3,nK,Pp⟩:=rm k (by rw[<-(mZ C9).1];omega);obtain rfl:w=e3:=by rw[<-(mZ C9).1,kO] at nK;injection nK
            refine rg ?_;refine I V.bc ?_;refine I V.aF ?_;refine I V.ah ?_;refine I V.aX ?_;refine I V.aF ?_;refine I V.aA ?_;refine a8 ?_;refine'⟨(w),_,?hinv,rfl,⟨?m12,rfl,rfl,rfl,rfl,rfl,rfl,rfl,rfl,rfl,trivial⟩,rD,rfl⟩;case m12=>exact bS
            case hinv=>rfl
           ·obtain⟨_,_,_,_,ii,pv,oT,A8⟩:=qj C9;have k':=eT A8;obtain⟨wE,ni,Dd,Dq,rfl,y7,OX⟩:=OS (by have:=eT A8;omega);obtain⟨ti,vh,tO,vC,l2,jd,ko,rfl,Bv⟩:=OX x.i (by omega) (by have:=eT A8;omega);have sC:=l2 0 _ (by decide) rfl;rw[pv,cy,A8] at tO;injection tO with tO;subst tO
            have y7:=dr _ _ y7;have Bv:=Bv.mono dr;have amG:addrEq jd jd=true:=Bv.addr;obtain⟨dd,EJ,De,y0,rfl,DL,rm⟩:=Bv.iY (by omega);obtain⟨e3,nK,Pp⟩:=rm k (by omega);obtain rfl:w=e3:=by rw[kO] at nK;injection nK
            refine rg ?_;refine aM ?_;refine I V.aF ?_;refine I V.aX ?_;refine I V.aF ?_;refine I V.ah ?_;refine I V.aX ?_;refine I V.aF ?_;refine I V.aA ?_;refine a8 ?_;refine'⟨(w),_,?hinv,rfl,⟨?m12,rfl,rfl,rfl,rfl,rfl,rfl,rfl,rfl,rfl,trivial⟩,rD,rfl⟩;case m12=>exact bS
            case hinv=>rfl
          case adA=>
           rintro iD hinv;try simp only at hinv
           obtain rfl:=hinv;refine rg ?_;refine aM ?_;refine I V.aF ?_;refine I V.ah ?_;refine I V.aX ?_;refine I V.aF ?_;refine I V.aX ?_;refine I V.aF ?_;refine I V.ah ?_;refine I V.aX ?_;refine I V.aF ?_;refine I V.ah ?_;refine I V.bx ?_;refine I V.bx ?_;refine I V.aA ?_;refine bj ?_;refine I V.ah ?_;refine I V.bx ?_;refine I V.aA ?_;refine a8 ?_;refine cA ⟨k+1,sm+v*w⟩ ?_;exact⟨by omega,by omega,by omega⟩
         ·have vM:-3072<=sm.tdiv D/\sm.tdiv D<=3072:=by
           rw[et (by omega),G3] at KT KU;exact tdiv_le DH KT KU
          have HD:-201326592<=sm/\sm<=201326592:=by
           have:=rU ss k;omega
          clear mZ qj
          refine aj ?_;refine ab.exit ?_;refine aj ?_;refine ab.draw rfl (by kernel_rfl) (bf:=[.val 0,.val 1,.val 2,.val 3,.val 4,.val 5,.val 6,.val 7,.val 8,.bV 9]) (by kernel_rfl) ?_;refine cq ?_;refine an rfl V.aX ?_;refine an rfl V.aF ?_;refine cq ?_;refine an rfl V.yW ?_;refine an rfl V.aX ?_;refine' a7.fO rfl rfl (hz rfl rfl rfl rfl (fY rfl) rfl rfl rfl ?aa ?af ?aw ?_);case aw=>repeat first|exact .head _ _ _ _|apply cR.tail|apply cR.app
          case af=>exact jo p (by omega)
          case aa=>first|rfl|assumption
          refine a7.nil ?_;refine rg ?_;refine I V.ah ?_;refine I V.bx ?_;refine I V.aA ?_;refine a8 ?_;refine cA ⟨p+1,L.set p (sm.tdiv D)⟩ ?_;first|exact⟨by omega,bT.set (by omega) (by omega)⟩|exact⟨by omega,bT.set vM.1 vM.2⟩
    ·refine aj ?_;refine ab.exit ?_;refine ab.mD rfl fun dV=>?_;have Oe:dG (dY.add ov (L.map (Value.int .i64),3)) (.slice (some ⟨ov,0,none⟩) g.pl.toNat g.pl.toNat) L:=by
        have:=dG.lit (a:=ov) (l:=L) (e:=3) (by have:=bT.1;exact wu (show L.length<=60 by omega) (by decide)) (aI.oy dY ov (L.map (Value.int .i64),3));rwa [bT.1] at this
     refine rg ?_;refine I V.ah ?_;refine I V.bx ?_;refine I V.aA ?_;refine a8 ?_;refine cA ⟨(i:Int) -1,cells.set i (.slice (some ⟨ov,0,none⟩) g.pl.toNat g.pl.toNat),_⟩ ?_ (hm:=.cons _ (.refl _));exact⟨by omega,by omega,dr.trans dV,k5.set dV ao Oe bT⟩
  ·refine aj ?_;refine ab.exit ?_;obtain rfl:z=-1:=by omega
   refine ab.mD rfl fun hD=>?_;refine rg ?_;refine aM ?_;refine ns ?_;refine ab.ret ?_;refine c' ?_;obtain⟨V,Ko,U'⟩:=aki (P:=fun j r=>∃w,cells[j]?=some w/\dG (dY.add u3 (cells,22)) w r/\q0 g r) (n:=g.ns.length) fun j ba=>(by obtain⟨r,w,aa,ae,aG⟩:=k5.2 j (by omega) ba;exact⟨r,w,aa,ae.mono hD,aG⟩);have agI:mR (fun j r=>q0 g r) (dY.add u3 (cells,22)) g.ns.length cells V:=⟨k5.1,Ko,fun j r w aa ae=>by obtain⟨bu,bp,bC,b5⟩:=U' j r aa;rw[ae] at bp;injection bp with bp;subst bp;exact⟨bC,b5⟩⟩;have agq:=agI.sj (e:=22) (v:=.slice (some ⟨u3,0,none⟩) g.ns.length g.ns.length) (.row (aI.oy dY u3 (cells,22)) (by rw[mP,et (by rw[k5.1];omega)]) (by rw[k5.1];omega) (fun _=>⟨cZ _,wu dn (by decide)⟩) (fun _=>rfl));refine⟨dr.trans hD,rfl,some ⟨u3,0,none⟩,g.ns.length,V,by rw[Ko];rfl,by rw[Ko];exact agq,Ko,fun r ay=>?_⟩;obtain⟨j,ba⟩:=kj.1 ay;obtain⟨_,_,_,h⟩:=U' j r ba;exact h
end
theorem X1{r w D b:Int}(bD:0<=r)(aa:r<=b)(au:b<=1073741824)(w0:0<=w)(e3:w<=D)(jg:0<D)(gU:D<=65536):0<=(r*w).tdiv D/\(r*w).tdiv D<=b/\0<=r*w/\r*w<=70368744177664:=by
 have a0:0<=r*w:=Int.mul_nonneg bD w0;have bo:r*w<=b*D:=Int.le_trans (Mp aa w0) (R7 e3 (by omega));have a2:b*D<=1073741824*65536:=Int.le_trans (Mp au (by omega)) (R7 gU (by omega));have ae:-(b*D)<=r*w:=by have:0<=b*D:=Int.mul_nonneg (by omega) (by omega);omega
 exact⟨Int.tdiv_nonneg a0 (by omega),(tdiv_le jg ae bo).2,a0,by omega⟩
def wx(n:Nat)(R:List Int):Prop:=R.length=n/\∀v∈R,0<=v/\v<=1073741824
theorem wx.zero{n:Nat}:wx n (List.replicate n 0):=⟨by simp,fun v az=>by rw[wo az];omega⟩
theorem wx.set{n k:Nat}{R:List Int}{v:Int}(h:wx n R)(aa:0<=v)(ae:v<=1073741824):wx n (R.set k v):=by
 refine⟨by rw[gu];exact h.1,fun w hw=>?_⟩;rcases CN hw with q|q
 ·exact h.2 w q
 ·subst q;exact⟨aa,ae⟩
section
variable {Q:dI Tryz.prog}{g0:Nat}{J:aI}
open Classical in
theorem Yv{g:bz}{aT aL eA:Option Addr}{aQ ci fk:Nat}{S:List (List Int)}{p:Int}{EJ:Bool}(hw:iP g)(aq:fG J g aT aQ aL ci)(j4:fa J 22 1 (jI J) (.slice eA S.length fk) S)(ax:wz g S):
 Fn (bb Q g0) 58 [hc g aT aQ aL ci,.slice eA S.length fk,.int .i64 p,.bool EJ] [] J (fun u m' ag=>J.le ag/\m'=[]/\∃b c R,u=.slice b g.ns.length c/\dG ag u R/\wx g.ns.length R):=by
 have fW:addrEq aL aL=true:=aq.i.addr;have gn:addrEq aT aT=true:=aq.n.addr;have EQ:addrEq eA eA=true:=j4.addr;obtain⟨_,fD⟩:=aq.n.at;obtain⟨_,OS⟩:=j4.at;have b0:=hw.b0;have dn:=hw.dn;obtain⟨bR,off,Ez,ne,rfl,tK,jP⟩:=fD (by omega);refine Fn.cH (cQ Tryz.func58) rfl rfl fun H=>?_;refine rg ?_;refine dJ fun a4=>?_;refine I V.aA ?_;refine bj ?_;refine I V.bc ?_;refine I V.aF ?_;refine I V.bP ?_;refine' W.step rfl (.of (pT rfl rfl rfl rfl rfl (eX Q g0) ?bD ?aa ?ae fun u4=>?_));case bD=>exact cf
 case aa=>exact cf
 case ae=>exact cf
 refine I V.aA ?_;refine a8 ?_;rw[yi,cy];refine rg ?_;refine I V.ah ?_;refine I V.aX ?_;refine' W.step rfl (.of (hz rfl rfl rfl rfl (fY rfl) rfl rfl rfl ?aa ?af ?aw ?_));case aw=>repeat first|exact .head _ _ _ _|apply cR.tail|apply cR.app
 case af=>exact jo 0 (by simp;omega)
 case aa=>first|rfl|assumption
 refine bj ?_;refine I V.aA ?_;refine ns ?_;refine ab.block ?_;refine' ab.c2 (l':=[(10,.int .i64 ((0):Int)),(1,_),(2,_),(3,_),(4,_),(9,_)]) ⟨?pQ,rfl,rfl,rfl,rfl,rfl,trivial⟩ (bA _) ?_;case pQ=>exact bS
 refine aj ?_;refine' ab.dF (fun(bH:Nat×(List Int))=>match bH with|(i,R)=>⟨[(10,.int .i64 (i:Int))],[ld u4 R,dm a4 g (some ⟨bR,off,none⟩) aQ aL ci],J,i<=g.ns.length/\wx g.ns.length R,g.ns.length -i⟩) ⟨0,(List.replicate g.ns.length 0).set 0 1073741824⟩ ?af ?bE
 case af=>exact⟨cB _,wx.zero.set (by omega) (by omega)⟩
 case bE=>
  rintro⟨i,R⟩ hinv;try simp only at hinv
  obtain⟨ao,ey⟩:=hinv;refine rg ?_;refine aM ?_;refine I V.aF ?_;refine I V.bP ?_;refine I V.a1 ?_;refine ns ?_;refine If (fun nY=>?_) fun nY=>?_
  ·obtain⟨x,cs,U,gV,ir,nF⟩:=jP i (by omega) (by omega);obtain⟨bm,bt,bl,bw,b8,dh,rfl,eo,ga,gz⟩:=nF;have za:=ir 3 _ (by decide) rfl;rw[cy] at U;have jR:=cd U;have sB:=hw.kids i x U;have bd:addrEq bm bm=true:=eo.addr;have a6:addrEq bl bl=true:=ga.addr;have b9:addrEq b8 b8=true:=gz.addr;have KM:x.ak.length<=3:=by
    rcases hw.kind x jR with⟨_,h,_⟩|⟨_,_,_,h,_⟩|⟨_,_,h,_⟩
    ·rw[h];simp
    ·exact h
    ·exact h
   refine c5 ?_;refine aj ?_;refine ab.block ?_;refine rg ?_;refine I V.bc ?_;refine I V.aF ?_;refine I V.ah ?_;refine I V.aX ?_;refine I V.c8 ?_;refine' W.step rfl (.of (e4 rfl rfl rfl (om Q g0) rfl rfl rfl fun kJ=>?_));refine dN ?_;refine a8 ?_;refine fT [1,2,3,4,9,10,11] ?_;refine aj ?_;refine' ab.ht 0 [(12,.bool (decide ((x.k=2/\x.p=p))))] ?Ni ?Ns;case Ni=>
    refine ab.region ?_;refine I V.bc ?_;refine I V.aF ?_;refine I V.a1 ?_;refine I V.ah ?_;refine dq 35 (fun N1=>?_) fun N1=>?_
    ·refine aW V.bc ?_;refine aW V.aF ?_;refine aW V.ah ?_;refine aW V.a1 ?_;refine I V.aV ?_;refine I V.aA ?_;refine a8 ?_;exact ce
    ·refine al ?_;refine al ?_;refine al ?_;refine al ?_;refine I V.aV ?_;refine I V.aA ?_;refine a8 ?_;exact ce
   case Ns=>
    refine rg ?_;refine I V.aA ?_;refine ns ?_;refine ab.block ?_;refine' ab.c2 (l':=[(13,.int .i64 ((0):Int)),(1,_),(2,_),(3,_),(4,_),(9,_),(10,_),(11,_),(12,_)]) ⟨?rY,rfl,rfl,rfl,rfl,rfl,rfl,rfl,rfl,trivial⟩ (bA _) ?_;case rY=>exact bS
    refine aj ?_;refine' ab.dF (fun(bH:Nat×(List Int))=>match bH with|(k,pg)=>⟨[(13,.int .i64 (k:Int))],[qy kJ x bm bt bl bw b8 dh,ld u4 pg,dm a4 g (some ⟨bR,off,none⟩) aQ aL ci],J,k<=x.ak.length/\wx g.ns.length pg,x.ak.length -k⟩) ⟨0,R⟩ ?af ?bE
    case af=>exact⟨cB _,ey⟩
    case bE=>
     rintro⟨k,pg⟩ hinv;try simp only at hinv
     obtain⟨aU,qc⟩:=hinv;refine rg ?_;refine aM ?_;refine I V.aF ?_;refine I V.bP ?_;refine I V.a1 ?_;refine ns ?_;refine If (fun k1=>?_) fun k1=>?_
     ·have DN:=qc.1;obtain⟨mh,iW,oD,ex,rfl,rc,ia⟩:=eo.iY (by omega);obtain⟨bU,fs,zf⟩:=ia k (by omega);have xi:=sB bU (cd fs);obtain⟨rv,Wf⟩:∃v,pg[i]?=some v:=⟨_,de (by omega)⟩;have rB:=qc.2 rv (cd Wf);have asD:=nh (off:=0+i*1) i Wf (by omega);have za:¬x.k=3:=fun q=>by
        rcases hw.kind x jR with⟨_,h,_⟩|⟨h,_⟩|⟨h,_⟩
        ·rw[h] at fs;cases fs
        ·omega
        ·omega
      refine c5 ?_;refine aj ?_;refine ab.block ?_;refine aj ?_;refine ab.block ?_;refine rg ?_;refine aM ?_;refine' W.step rfl (Exec.val rfl rfl (aow rfl rfl rfl (.inr ⟨rfl,rfl⟩) (by kernel_rfl)) ?_);refine I V.aA ?_;refine ns ?_;refine If (fun to=>?_) fun to=>?_
      ·
        refine aj ?_;refine ab.draw rfl (by kernel_rfl) (bf:=[.val 0,.val 1,.val 2,.val 3,.val 4,.val 5,.val 6,.val 7,.val 8,.val 9,.val 10,.bV 11]) (by kernel_rfl) ?_;refine cq ?_;refine an rfl V.aF ?_;refine an rfl V.ah ?_;refine an rfl V.aX ?_;refine an rfl V.aF ?_;refine cq ?_;refine an rfl V.aX ?_;refine an rfl V.aF ?_;refine an rfl V.aX ?_;refine' a7.fO rfl rfl (hz rfl rfl rfl rfl (fY rfl) rfl rfl rfl ?aa ?af ?aw ?_);case aw=>repeat first|exact .head _ _ _ _|apply cR.tail|apply cR.app
        case af=>exact jo bU.toNat (by omega)
        case aa=>first|rfl|assumption
        refine a7.nil ?_;refine rg ?_;refine I V.ah ?_;refine I V.bx ?_;refine I V.aA ?_;refine a8 ?_;refine cA ⟨k+1,pg.set bU.toNat rv⟩ ?_;first|exact⟨by omega,qc.set rB.1 rB.2⟩|exact⟨by omega,qc.set dO.1 dO.2.1⟩
      ·
        obtain⟨W,D,Kp,ss,G3,DH,gU,mZ,qj,cr,ah9⟩:=Xx hw ax jR za;obtain⟨w,kO⟩:∃w,W[k]?=some w:=⟨_,de (by omega)⟩;have PT:=ss w (cd kO);have asU:=L0 ss kO;have dO:=X1 (r:=rv) (w:=w) (D:=D) rB.1 rB.2 (by omega) PT (by omega) DH gU;refine rg ?_;refine I V.bc ?_;refine I V.aF ?_;refine I V.a1 ?_;refine I V.aA ?_;refine ns ?_;refine If (fun M2=>?_) fun M2=>?_
        ·obtain⟨agO,tG⟩:=mZ M2;subst agO;subst tG;obtain⟨dd,alJ,De,y0,rfl,DL,rm⟩:=ga.iY (by omega);obtain⟨e3,nK,Pp⟩:=rm k (by omega);obtain rfl:w=e3:=by rw[kO] at nK;injection nK
         have xH:x.ws.length=x.ak.length:=Kp;clear mZ qj
         refine aj ?_;refine ab.draw rfl (by kernel_rfl) (bf:=[.val 0,.val 1,.val 2,.val 3,.val 4,.val 5,.val 6,.val 7,.val 8,.val 9,.val 10,.val 11,.val 12,.val 13,.val 14,.val 15,.val 16,.val 17,.bV 18,.val 19,.val 20,.cF [15,14,13,12,11,10,9,8,7,6,5,4,3,2,1,0],.bV 21]) (by kernel_rfl) ?_;refine cq ?_;refine an rfl V.aF ?_;refine an rfl V.ah ?_;refine an rfl V.aX ?_;refine an rfl V.aF ?_;refine cq ?_;refine an rfl V.aX ?_;refine an rfl V.aF ?_;refine an rfl V.bc ?_;refine an rfl V.aF ?_;refine an rfl V.ah ?_;refine an rfl V.aX ?_;refine an rfl V.aF ?_;refine an rfl V.bx ?_;refine an rfl V.bc ?_;refine an rfl V.aF ?_;refine dl rfl (G:=Zv ga ss (by omega) (by omega)) (h:=?_);rintro v' m' eZ cE ⟨rfl,rfl,rfl⟩;refine an rfl V.yW ?_;refine an rfl V.aX ?_;refine a7.cF fC ?_;refine' a7.fO rfl rfl (hz rfl rfl rfl rfl (fY rfl) rfl rfl rfl ?aa ?af ?aw ?_);case aw=>repeat first|exact .head _ _ _ _|apply cR.tail|apply cR.app
         case af=>exact jo bU.toNat (by omega)
         case aa=>first|rfl|assumption
         refine a7.nil ?_;refine rg ?_;refine I V.ah ?_;refine I V.bx ?_;refine I V.aA ?_;refine a8 ?_;refine cA ⟨k+1,pg.set bU.toNat ((rv*w).tdiv x.ws.sum)⟩ ?_;first|exact⟨by omega,qc.set rB.1 rB.2⟩|exact⟨by omega,qc.set dO.1 dO.2.1⟩
        ·obtain⟨_,tG,_,_,ii,pv,oT,A8⟩:=qj M2;subst tG;have k':=eT A8;obtain⟨wE,ni,Dd,Dq,rfl,y7,OX⟩:=OS (by omega);obtain⟨ti,vh,tO,vC,l2,jd,ko,rfl,Bv⟩:=OX x.i (by omega) (by omega);have sC:=l2 0 _ (by decide) rfl;rw[pv,cy,A8] at tO;injection tO with tO;subst tO
         have amG:addrEq jd jd=true:=Bv.addr;obtain⟨dd,alJ,De,y0,rfl,DL,rm⟩:=Bv.iY (by omega);obtain⟨e3,nK,Pp⟩:=rm k (by omega);obtain rfl:w=e3:=by rw[kO] at nK;injection nK
         clear mZ qj
         refine aj ?_;refine ab.draw rfl (by kernel_rfl) (bf:=[.val 0,.val 1,.val 2,.val 3,.val 4,.val 5,.val 6,.val 7,.val 8,.val 9,.val 10,.val 11,.val 12,.val 13,.val 14,.val 15,.val 16,.val 17,.val 18,.val 19,.val 20,.bV 21]) (by kernel_rfl) ?_;refine cq ?_;refine an rfl V.aF ?_;refine an rfl V.ah ?_;refine an rfl V.aX ?_;refine an rfl V.aF ?_;refine cq ?_;refine an rfl V.aX ?_;refine an rfl V.aF ?_;refine cq ?_;refine an rfl V.aF ?_;refine an rfl V.aX ?_;refine an rfl V.aF ?_;refine an rfl V.ah ?_;refine an rfl V.aX ?_;refine an rfl V.aF ?_;refine an rfl V.bx ?_;refine an rfl V.yW ?_;refine an rfl V.aX ?_;refine' a7.fO rfl rfl (hz rfl rfl rfl rfl (fY rfl) rfl rfl rfl ?aa ?af ?aw ?_);case aw=>repeat first|exact .head _ _ _ _|apply cR.tail|apply cR.app
         case af=>exact jo bU.toNat (by omega)
         case aa=>first|rfl|assumption
         refine a7.nil ?_;refine rg ?_;refine I V.ah ?_;refine I V.bx ?_;refine I V.aA ?_;refine a8 ?_;refine cA ⟨k+1,pg.set bU.toNat ((rv*w).tdiv 65536)⟩ ?_;first|exact⟨by omega,qc.set rB.1 rB.2⟩|exact⟨by omega,qc.set dO.1 dO.2.1⟩
     ·refine aj ?_;refine ab.exit ?_;refine rg ?_;refine I V.ah ?_;refine I V.bx ?_;refine I V.aA ?_;refine a8 ?_;refine cA ⟨i+1,pg⟩ ?_ (hm:=.cons _ (.refl _));exact⟨by omega,qc⟩
  ·refine aj ?_;refine ab.exit ?_;refine ab.mD rfl fun hle=>?_;refine rg ?_;refine aM ?_;refine ns ?_;refine ab.ret ?_;refine c' ?_;refine⟨hle,rfl,some ⟨u4,0,none⟩,g.ns.length,R,rfl,?_,ey⟩;have:=dG.lit (a:=u4) (l:=R) (e:=3) (by rw[ey.1];exact wu dn (by decide)) (aI.oy J u4 (R.map (Value.int .i64),3));rwa [ey.1] at this
end
end
end Go.Opn
namespace Go.Opn
noncomputable section
def fh(g:bz)(s p:List (List Int))(n:Nat):Prop:=lo g s (-(6144*(n:Int))) (6144*n)/\lo g p 0 (1073741824*n)
theorem fh.wide{g:bz}{s p:List (List Int)}{n nL:Nat}(h:fh g s p n)(aP:n<=nL):fh g s p nL:=
 ⟨h.1.wide (by omega) (by omega),h.2.wide (by omega) (by omega)⟩
theorem fh.zero{g:bz}(hw:iP g){n:Nat}:fh g (jb g) (jb g) n:=⟨(aak hw).wide (by omega) (by omega),(aak hw).wide (by omega) (by omega)⟩
theorem fh.sum{g:bz}{s p:List (List Int)}{n i k:Nat}{r:List Int}{v:Int}(h:fh g s p n)(ay:s[i]?=some r)(aa:-(6144*(n:Int)+6144)<=v)(ae:v<=6144*n+6144):fh g (s.set i (r.set k v)) p (n+1):=
 ⟨(h.1.wide (lo':=-(6144*((n+1:Nat):Int))) (hi':=6144*((n+1:Nat):Int)) (by omega) (by omega)).put ay (by omega) (by omega),(h.wide (Nat.le_succ n)).2⟩
theorem fh.pl{g:bz}{s p:List (List Int)}{n i k:Nat}{r:List Int}{v:Int}(h:fh g s p n)(ay:p[i]?=some r)(aa:0<=v)(ae:v<=1073741824*n+1073741824):fh g s (p.set i (r.set k v)) (n+1):=
 ⟨(h.wide (Nat.le_succ n)).1,(h.2.wide (lo':=0) (hi':=1073741824*((n+1:Nat):Int)) (by omega) (by omega)).put ay (by omega) (by omega)⟩
theorem fh.both{g:bz}{s p:List (List Int)}{n i k HW ft:Nat}{r dw:List Int}{v v':Int}(h:fh g s p n)(ay:s[i]?=some r)(aa:-(6144*(n:Int)+6144)<=v)(ae:v<=6144*n+6144)(nc:p[HW]?=some dw)(N3:0<=v')(N4:v'<=1073741824*n+1073741824):fh g (s.set i (r.set k v)) (p.set HW (dw.set ft v')) (n+1):=
 ⟨(h.sum (k:=k) ay aa ae).1,(h.pl (k:=ft) nc N3 N4).2⟩
theorem fh.at{g:bz}{s p:List (List Int)}{n i k:Nat}{y:Int×Int}(h:fh g s p n)(ai:g.is[i]?=some y)(aU:(k:Int)<y.2):∃r x,s[i]?=some r/\(r.length:Int)=y.2/\r[k]?=some x/\-(6144*(n:Int))<=x/\x<=6144*n:=by
 obtain⟨r,aa,ae,aG⟩:=h.1.get ai;have U:=de (l:=r) (i:=k) (by omega);have:=aG k _ U;exact⟨r,_,aa,ae,U,this.1,this.2⟩
theorem fh.S2{g:bz}{s p:List (List Int)}{n i k:Nat}{y:Int×Int}(h:fh g s p n)(ai:g.is[i]?=some y)(aU:(k:Int)<y.2):∃r x,p[i]?=some r/\(r.length:Int)=y.2/\r[k]?=some x/\0<=x/\x<=1073741824*n:=by
 obtain⟨r,aa,ae,aG⟩:=h.2.get ai;have U:=de (l:=r) (i:=k) (by omega);have:=aG k _ U;exact⟨r,_,aa,ae,U,this.1,this.2⟩
theorem YH{cm:Int}:∀{l:List (List Int)} {ys:List (Int×Int)},(∀(i:Nat) (r:List Int) (y:Int×Int),l[i]?=some r->ys[i]?=some y->(r.length:Int)=y.2/\∀v∈r,cm<=v/\v<=70368744177664)->rQ cm l ys=0
 |[],_,_=>rfl
 |_::_,[],_=>rfl
 |r::l,y::ys,h=>by
  obtain⟨aa,ae⟩:=h 0 r y rfl rfl;have aG:r.any (hG cm 70368744177664)=false:=by
   rw[List.any_eq_false];intro v az;have:=ae v az;simp[hG];omega
  show(if(r.length:Int)≠y.2 then 3 else if r.any (hG cm 70368744177664)=true then 2 else rQ cm l ys)=0;rw[ap (by omega),aG,ap RW];exact YH fun i dw iM bd a6=>h (i+1) dw iM bd a6
theorem lo.ok{g:bz}{l:List (List Int)}{cm ao lo':Int}(h:lo g l cm ao)(aa:lo'<=cm)(ae:ao<=70368744177664):ng g l lo'=0:=by
 unfold ng;rw[ap (by rw[h.1];simp)];exact YH fun i r y bd a6=>⟨(h.2 i r y bd a6).1,fun v az=>by have:=(h.2 i r y bd a6).2 v az;omega⟩
theorem fh.valid{g:bz}{t:gI}{n:Nat}(h:fh g t.sum t.pl n)(aP:n<=60000)(aa:0<=t.r)(ae:t.r<=1000000)(aG:0<=t.s)(br:t.s<=2147483646):rX g t=0:=by
 have aN:ng g t.sum (-70368744177664)=0:=h.1.ok (by omega) (by omega);have bn:ng g t.pl 0=0:=h.2.ok (by omega) (by omega);unfold rX;rw[ap (by omega),aN,ap (by simp),bn]
theorem fh.len{g:bz}{s p:List (List Int)}{n:Nat}(aq:iP g)(h:fh g s p n):s.length=g.is.length/\p.length=g.is.length/\(∀r∈s,1<=r.length/\r.length<=3)/\∀r∈p,1<=r.length/\r.length<=3:=
 ⟨h.1.1,h.2.1,(h.1.len aq).2,(h.2.len aq).2⟩
end
end Go.Opn
