/- A part of the proof of ResumeBytes. -/
import Derived.Test.YtkmfhjilfjecmaaGreatDoorCbl
import Derived.Test.YtkmfhjilfjecmaaGreatDoorCby
import Derived.Test.YtkmfhjilfjecmaaGreatDoorCbk
import Derived.Test.YtkmfhjilfjecmaaGreatDoorCap
import Derived.Test.YtkmfhjilfjecmaaGreatDoorProg
import Derived.KernelRfl
import Derived.Test.YtkmfhjilfjecmaaGreatDoorCau
import Derived.Test.YtkmfhjilfjecmaaGreatDoorCav
import Derived.Conc.Holds
import Derived.SevenTiedAt
import Derived.Shelf.Strings.Builder1
import Derived.Shelf.Strconv.Itoa0
import Derived.Shelf.Strconv.Itoa1
import Derived.Shelf.LaysM
import Derived.Shelf.Strconv.Itoa2
import Derived.Shelf.Strconv.Itoa3
import Derived.Shelf.Slices.Turned
import Derived.Ground.Names2Prog
import Derived.Shelf.Slices.SearchI
import Derived.Test.YtkmfhjilfjecmaaGreatDoorCards
import Derived.Test.YtkmfhjilfjecmaaGreatDoorTie
import Derived.WalkKit
import Derived.ProofKit
import Derived.OpenShut
import Derived.Deep.DeepHandedRow
import Derived.Lib.LaidTab
import Derived.LaidHandle
import Derived.LaidMore
import Derived.Stop.LaidErr
import Derived.Carry
set_option linter.unusedVariables false
set_option linter.unusedSimpArgs false
namespace Go.Opn
noncomputable section
open Go.Cre Go.RowKit
theorem akv(b:UInt8):isByte (.int .u8 (b.toNat:Int))=true:=by
 show Nat.blt b.toNat 256=true;exact j8 b.toNat_lt
theorem ab3(bs:List UInt8):∀v∈l5 bs,isByte v=true:=fun v ay=>by
 obtain⟨b,_,rfl⟩:=uZ.1 ay;exact akv b
theorem adM:∀(k:Nat) (l:List Value),2 ^ k<=l.length->(∀v∈l,isByte v=true)->pu k l=some (l.drop (2 ^ k)):=by
 intro k;induction k with
 |zero=>
  intro l av a1;cases l with
  |nil=>exact absurd av (by decide)
  |cons v t=>
   show Bool.rec (motive:=fun _=>Option (List Value)) none (some t) (isByte v)=_;rw[a1 v (.head _)];rfl
 |succ k aI=>
  intro l av a1;rw[C2] at av;show Option.rec (motive:=fun _=>Option (List Value)) none (pu k) (pu k l)=_;rw[aI l (by omega) a1];show pu k (l.drop (2 ^ k))=_;rw[aI _ (by rw[ms];omega) (fun v ay=>a1 v (MZ ay)),yz,C2,Nat.mul_two]
theorem adJ:∀(k n:Nat) (l:List Value),n<2 ^ k->n<=l.length->(∀v∈l,isByte v=true)->tG k n l=true:=by
 intro k;induction k with
 |zero=>
  intro n l aP _ _;obtain rfl:n=0:=by omega
  rfl
 |succ k aI=>
  intro n l aP av a1;show Bool.rec (motive:=fun _=>Bool) (Option.rec (motive:=fun _=>Bool) false (fun r=>tG k (Nat.sub n (Nat.pow 2 k)) r) (pu k l)) (tG k n l) (Nat.blt n (Nat.pow 2 k))=true;rw[C2] at aP;cases ap:Nat.blt n (Nat.pow 2 k) with
  |true=>exact aI n l (hV ap) av a1
  |false=>
   have lM:2 ^ k<=n:=by
    rcases ji n (2 ^ k) with q|q
    ·rw[show Nat.blt n (Nat.pow 2 k)=true from j8 (show n<Nat.pow 2 k from q)] at ap;cases ap
    ·exact q
   show Option.rec (motive:=fun _=>Bool) false (fun r=>tG k (Nat.sub n (Nat.pow 2 k)) r) (pu k l)=true;rw[adM k l (by omega) a1];exact aI _ _ (show n -2 ^ k<2 ^ k by omega) (show n -2 ^ k<=_ by rw[ms];omega) fun v ay=>a1 v (MZ ay)
theorem aoS:∀(bs:List UInt8),Mo bs.length (l5 bs)=bs:=by
 intro bs;induction bs with
 |nil=>rfl
 |cons b bs aI=>
  show Go.Cre.byteOf (Value.int .u8 (b.toNat:Int))::Mo bs.length (l5 bs)=_;rw[aI];show UInt8.ofNat b.toNat::bs=_;rw[UInt8.ofNat_toNat]
theorem ab':∀(bs:List UInt8),nF (l5 bs)=some bs:=by
 intro bs;induction bs with
 |nil=>rfl
 |cons b bs aI=>
  show(bif Nat.blt b.toNat 256 then(match nF (l5 bs) with|some r=>some (UInt8.ofNat b.toNat::r)|none=>none) else none)=_
  rw[show Nat.blt b.toNat 256=true from j8 b.toNat_lt,b7,aI,UInt8.ofNat_toNat]
section
variable {g0:Nat}{B:dV}{H:aA}{J:aH}{m m':aN}
theorem Inv.alr(h:Inv g0 B J m H)(cells:List Value)(e:TypeId):
 ∃H1,H.nl cells e true=some (H.ak,H1)/\Inv g0 B J ((H.ak,.h6 cells e)::m) H1:=by
 obtain⟨H1,aL,aa,gF,f1,QR⟩:=h.bI;obtain⟨cv,bk⟩:=aa.wf.new (.row cells e true H.cn 0 true);obtain⟨_,de,kC,s3,pL,lp⟩:=aA.pM bk;refine⟨cv,?_,?_⟩
 ·unfold aA.nl;rw[aL];simp only;rw[bk,gF]
 ·have:=aa.new (p:=.h6 cells e) bk ⟨H.cn,.inl QR,by rw[lp,aE rfl],by rw[kC,f1,gF]⟩;rwa [gF] at this
theorem Inv.an5{a:Nat}{cells:List Value}{e:TypeId}(h:Inv g0 B J ((a,.h6 cells e)::m) H)(cells':List Value):
 ∃f H1 cv,H.mem.get a=some (.row cells e true f 0 true)/\H.upd a (.row cells' e true f 0 true)=some H1/\wb H1 a f=some cv/\Inv g0 B J ((a,.h6 cells' e)::m) cv:=by
 obtain⟨bl,bp,bQ,cU⟩:=h.own a _ (.head _);obtain⟨f,f1,f2,f3⟩:=bl;have cV:=h.lt (.head _);have dM:=h.gd;rw[show ids ((a,cC.h6 cells e)::m)=a::ids m from rfl,se] at dM;obtain⟨vV,Bz⟩:=dM;obtain⟨H1,aL⟩:=h.wf.upd (.row cells' e true f 0 true) cV;have eK:=h.wf.Mw cV aL;obtain⟨jB,lX,jc,qQ,nV⟩:=aA.wB aL;obtain⟨cv,bk,hi⟩:=Qy (o9:=a) [a] eK fun x U=>by
  rw[jB,JI.1 U];exact cV
 obtain⟨v1,v2,v3,v4,v5,v6⟩:=Il bk;have h1:f<cv.cn:=by rw[v3,jc];exact h.wf.DS f3
 obtain⟨l3,cG⟩:=hi.qK [a] h1;obtain⟨s2,s1,wv,zY,pU⟩:=aA.Cu cG;have PC:l3.mem.get a=some (.row cells' e true f 0 true):=by rw[s1,v6 a (.inr rfl),nV,aE rfl]
 have uk:∀x,x≠a->l3.mem.get x=H.mem.get x:=fun x bb=>by
  rw[s1,v6 x (.inl (fun q=>bb (JI.1 q))),nV,an bb]
 have zj:∀g,g≠f->l3.bI.get g=H.bI.get g:=fun g q=>by rw[pU,an q,v2,lX]
 have e4:l3.ak=H.ak:=by rw[s2,v1,jB]
 refine⟨f,H1,l3,f2,aL,?_,⟨hi.Me h1 cG,by rw[zY,v4,qQ];exact h.bW,by rw[e4];exact h.ak,by rw[wv,v3,jc];exact h.cn,fun x U hC=>?_,fun g aq=>?_,fun x c bz a'=>?_,h.le,h.fresh,fun x b ap=>?_,fun x b ap y ai=>?_,?_⟩⟩
 ·unfold wb;rw[lX,f3];simp only[bk,cG]
 ·rw[uk x (fun q=>by
   subst q;rcases bp with q|q
   ·omega
   ·exact hC q)]
  exact h.eC x U hC
 ·rw[zj g (fun q=>aq (by rw[q];exact f1))];exact h.nQ g aq
 ·obtain⟨o,cP,z0,s,q⟩:=h.fw x c bz a';exact⟨o,cP,z0,s,by rw[uk x (fun r=>by subst r;rw[bQ] at a';cases a')];exact q⟩
 ·rcases e3.1 ap with q|q
  ·injection q with bb a7;subst bb;subst a7
   exact⟨⟨f,f1,PC,by rw[pU,aE rfl]⟩,bp,bQ,cU⟩
  ·obtain⟨cN,dW,lT,pK⟩:=h.own x b (.tail _ q);have iX:x∈ids m:=xW q;refine⟨?_,dW,lT,pK⟩;refine cC.wZ cN (uk x (fun r=>vV (r▸iX))) fun g r aq=>?_;rw[zj g (fun du=>by
    subst du;rw[f3] at aq;injection aq with aq;injection aq with aq
    exact vV (aq▸iX))]
   exact aq
 ·rcases e3.1 ap with q|q
  ·injection q with bb a7;subst bb;subst a7;cases ai
  ·rw[e4];exact h.opn x b (.tail _ q) y ai
 ·show(a::ids m).Nodup;rw[se];exact⟨vV,Bz⟩
end
section
variable {K:eE}{B:dV}{o:Oper}{n:Nat}{ds:e7}{l:List (Nat×Value)}{m m':aN}{J:aH}{ey:cf->aN->aH->Prop}{d:Nat}
theorem aqh{s t e:TypeId}{x:Operand}{bs:List UInt8}(ar:o.op=.convert s t x)(aV:o.dst=some d)(aP:Nat.blt d n=true)(U:b6 l x=some (.string ⟨⟨bs⟩⟩))(aB:Ja K.P s t=some e)(h:∀a,ey ⟨n,ds,(d,.slice (some ⟨a,0,none⟩) bs.length cZ)::l⟩ ((a,.h6 (l5 bs) e)::m) J):hq K B o ⟨n,ds,l⟩ m J ey:=by
 refine hq.wD aV aP fun S H ax aJ=>?_;obtain⟨H1,aL,bk⟩:=aJ.alr (l5 bs) e;refine⟨.slice (some ⟨H.ak,0,none⟩) bs.length cZ,H1,_,J,fun call aR=>?_,bk,h H.ak⟩;have aC:∀l:List UInt8,strCells l=l5 l:=fun l=>by
  induction l with
  |nil=>rfl
  |cons b l aI=>show Value.int .u8 _::strCells l=_;rw[aI];rfl
 unfold cJ fe;simp only[ar];show rZ K.P _ s t (bj S.T H x)=_;rw[dy ax H U];show orElse (mq (sC K.P H s t ⟨⟨bs⟩⟩)) _=_;have:sC K.P H s t ⟨⟨bs⟩⟩=some (.slice (some ⟨H.ak,0,none⟩) bs.length cZ,H1):=by
  unfold Ja at aB;split at aB
  ·rename_i bz aa ae;split at aB
   ·rename_i aF;cases ap:Nat.beq (K.P.cellsOf bz) 1 with
    |false=>rw[ap] at aB;cases aB
    |true=>
     rw[ap,b7] at aB;injection aB with aB;subst aB
     unfold sC;simp only[aa,ae,aF,ap,b7];rw[aC,aL];rfl
   ·cases aB
  ·cases aB
 rw[this];rfl
theorem aaB{t:TypeId}{x y:Operand}{a off k:Nat}{v:Value}{vs cells cells':List Value}{e:TypeId}{m0:aN}(ar:o.op=.store t x y)(aV:o.dst=none)(U:b6 l x=some (.pointer (some ⟨a,off,none⟩)))(ai:b6 l y=some v)(aO:ef K.P t=some k)(aC:v.cells.toList=vs)(av:Nat.beq vs.length k=true)(bw:Nat.blt 0 vs.length=true)(aa:vs.all eM=true)(hs:gg off cells vs=some cells')(au:m.Perm ((a,.h6 cells e)::m0))(h:ey ⟨n,ds,l⟩ ((a,.h6 cells' e)::m0) J):hq K B o ⟨n,ds,l⟩ m J ey:=by
 refine hq.skip aV fun S H ax aJ=>?_;have aJ:=aJ.perm au;obtain⟨f,H1,cv,aL,bk,cG,eL⟩:=aJ.an5 cells';obtain⟨bl,bp,bQ,cU⟩:=aJ.own _ _ (.head _);refine⟨cv,_,J,fun call aR=>?_,eL,h⟩;unfold cJ fe;simp only[ar];show Ci K.P _ t (bj S.T H x) (bj S.T H y)=_;rw[dy ax H U,dy ax H ai];show Hf (xj K.P H t (.pointer (some ⟨a,off,none⟩)) v)=_;unfold xj;simp only[aO,aC,av,b7];unfold rl;cases vs with
 |nil=>cases bw
 |cons v0 vs=>
  simp only
  rw[QT aJ cU,dT,aL];simp only[show Nat.ble 0 off=true from j8 (cy _),Fy,aa,b7,hs,bk,cG];rfl
theorem Z4{s t e:TypeId}{x:Operand}{a c k:Nat}{bs:List UInt8}(ar:o.op=.convert s t x)(U:b6 l x=some (.slice (some ⟨a,0,none⟩) k c))(aB:Ja K.P t s=some e)(aw:hW m J a (l5 bs))(aO:k=bs.length)(ap:bs.length<=1000000):dm K B o n ds l m J (.string ⟨⟨bs⟩⟩):=by
 subst aO;intro call aR S H ax aJ;obtain⟨bz,o',f,z,sh,fV⟩:=aw.get aJ;have hlen:(l5 bs).length=bs.length:=by unfold l5;rw[lB]
 unfold cJ fe;simp only[ar];show rZ K.P _ s t (bj S.T H x)=_;rw[dy ax H U];show fZ (DP K.P H s t (.slice (some ⟨a,0,none⟩) bs.length c)) H=_;have:DP K.P H s t (.slice (some ⟨a,0,none⟩) bs.length c)=some (.string ⟨⟨bs⟩⟩):=by
  unfold Ja at aB;split at aB
  ·rename_i aL aa ae;split at aB
   ·rename_i aF;unfold DP;cases av:Lv (.slice (some ⟨a,0,none⟩) bs.length c) with
    |true=>
     rw[b7];unfold Kt;simp only[aa,ae,aF,fV];show Mu bs.length (nJ 0 (l5 bs))=_;rw[tJ,mr];unfold Mu;rw[adJ 21 _ _ (by omega) (by omega) (ab3 bs),b7,aoS]
    |false=>
     rw[dT];unfold A0;simp only[aa,ae,aF];have aD:js H 1 bs.length (.slice (some ⟨a,0,none⟩) bs.length 0)=some (l5 bs):=by
      cases bs with
      |nil=>rfl
      |cons b bs=>
       unfold js;simp only[fV,jh];show takeN ((bs.length+1)*1) (nJ 0 (l5 (b::bs)))=_;rw[yE,tJ,mr];rw[jh] at hlen;rw[wA (by omega),show bs.length+1=(l5 (b::bs)).length from hlen.symm,tm]
     rw[aD];simp only[ab'];rfl
   ·cases aB
  ·cases aB
 rw[this];rfl
end
end
end Go.Opn
set_option maxRecDepth 100000
set_option maxHeartbeats 8000000
namespace Go.Opn
noncomputable section
open Go.Cre Go.RowKit Go.Proofs
theorem an8{i:Int}:∀{ns:List cR} {j:Nat} {x:Int},x∈eJ i j ns->eJ i j ns≠[]:=fun h q=>by rw[q] at h;cases h
theorem ahN{l:List Int}(h:l≠[]):fj l∈l:=by
 cases l with
 |nil=>exact absurd rfl h
 |cons x l=>exact .head _
theorem af2{aY:Int}{pl:Nat}{l:List Int}(hm:1<=aY)(K3:aY<=25)(rL:1<=pl)(HI:pl<=3):jg (vB aY pl l)/\h8 (vB aY pl l)=0/\kj (vB aY pl l)=0:=by
 obtain⟨bl,bp⟩:=XD (pl:=pl) (k:=(1+ej l 5).toNat) (l:=fY l 5);have ajv:=pN (l:=l) (n:=5) (by omega);have kb:BY pl (Iq pl l):=fun p au=>by
  obtain⟨aa,ae,aF,bo,_⟩:=bl p au;exact⟨aa,ae,aF,bo⟩
 have av:(Iq pl l).length<=40:=by show(uy pl _ _).1.length<=40;rw[bp];omega
 have hw:jg (vB aY pl l):=af5 kb hm K3 rL HI;have aD:h8 (vB aY pl l)=0:=af3 kb hm (by omega) rL (by omega) av;refine⟨hw,aD,?_⟩;unfold kj;rw[an (by simp[aD]),an ?_];rintro⟨p,_,_,aP⟩;refine aP fun i s y hs ai akb=>fun x U=>?_;have Es:s=eJ (i:Int) 0 (vB aY pl l).ns:=by
  unfold gC at hs;rw[oF,FJ (eU ai)] at hs;injection hs with hs;exact hs.symm
 have aB:=IU (GX aD);rw[Es] at U ⊢;rw[<-akb];exact af4 kb hm aB ai U (ahN (an8 U))
section
variable {Q:dD Tryz.prog}{g0:Nat}{J:aH}
theorem aoF{l:List Int}{cY:Option Addr}{kl:Nat}{E0 E9 rounds:Int}(av:dI J (.slice cY l.length kl) l)(hE:l.length<=1000000):
 Fn (bd Q g0) 5 [.slice cY l.length kl,.int .i64 E0,.int .i64 E9,.int .i64 rounds] [] J (fun u m' af=>J.le af/\m'=[]/\∃g t aT aQ aK ci bs cs ct cE,u=.tuple #[hb g aT aQ aK ci,nu t bs cs ct cE]/\fH af g aT aQ aK ci/\jj af t bs cs ct cE/\jg g/\h8 g=0/\kj g=0/\fp g t.sum t.pl 13500/\0<=t.r/\t.r<=30/\0<=t.s/\t.s<=2147483646):=by
 have YT:addrEq cY cY=true:=av.addr;obtain⟨pl,dE⟩:∃pl:Nat,1+E0 % 3=(pl:Int):=⟨(1+E0 % 3).toNat,by omega⟩;obtain⟨N,mZ⟩:∃N:Nat,rounds % 30=(N:Int):=⟨(rounds % 30).toNat,by omega⟩;obtain⟨hw,aD,au⟩:=af2 (aY:=25) (pl:=pl) (l:=l) (by decide) (by decide) (by omega) (by omega);refine Fn.cH (cM Tryz.func5) rfl rfl fun H=>?_;refine rg ?_;refine' W.step rfl (.of (eT rfl rfl rfl (MK Q g0) rfl rfl rfl fun hr=>?_));refine' W.step rfl (.of (eT rfl rfl rfl (kY Q g0) rfl rfl rfl fun a9=>?_));refine bi ?_;refine aM ?_;refine cl (G:=Ix (n:=3) (by decide) (by decide)) (h:=?_);rintro v m' af hle ⟨rfl,rfl,rfl⟩;refine I V.bt ?_;rw[dE];refine cl (G:=af6 (pl:=pl) av hE (by omega) (by omega) (by decide) (by decide)) (h:=?_);rintro v m' dO ch ⟨_,rfl,aT,aQ,aK,ci,rfl,aq⟩;have fX:addrEq aK aK=true:=aq.i.addr;have gq:addrEq aT aT=true:=aq.n.addr;refine' W.step rfl (.of (eT rfl rfl rfl (MK Q g0) rfl rfl rfl fun si=>?_));refine dC ?_;refine bi ?_;refine I V.c9 ?_;refine cl (G:=XT hw aq au) (h:=?_);rintro v m' e2 cF ⟨_,rfl,bs,cs,ct,cE,rfl,dn⟩;have o1:=aq.mono cF;have ta:addrEq bs bs=true:=dn.s.addr;have zT:addrEq ct ct=true:=dn.p.addr;refine aM ?_;refine' W.step rfl (.of (eT rfl rfl rfl (kY Q g0) rfl rfl rfl fun kL=>?_));refine dC ?_;refine I V.az ?_;refine bi ?_;refine I V.ag ?_;refine cl (G:=Ix (n:=30) (by decide) (by decide)) (h:=?_);rintro v m' af hle ⟨rfl,rfl,rfl⟩;refine I V.az ?_;refine a6 ?_;rw[mZ];refine rg ?_;refine I V.ag ?_;refine cl (G:=Ix (n:=2147483647) (by decide) (by decide)) (h:=?_);rintro v m' af hle ⟨rfl,rfl,rfl⟩
 refine I V.az ?_;refine bi ?_;refine I V.ag ?_;refine I V.aZ ?_;refine ns ?_;refine If (fun yY=>?_) fun yY=>?_
 ·refine rg ?_;refine I V.c9 ?_;refine I V.c9 ?_;refine I V.ag ?_;refine cl (G:=anT hw o1 dn (fp.zero hw) au (by omega) rfl (by show(0:Int)<=0;decide) (by show(0:Int)<=_;decide)) (h:=?_);rintro v m' jV dU ⟨_,rfl,ek,b1,c1,b2,c2,rfl,xw,dd,aw,hs⟩;have bb:addrEq b1 b1=true:=xw.s.addr;have a7:addrEq b2 b2=true:=xw.p.addr;refine aM ?_;refine dC ?_;refine ns ?_;refine ab.draw rfl (by kernel_rfl) (bc:=[.val 0,.val 1,.bR 2,.cA [1],.bR 3]) (by kernel_rfl) ?_;refine al rfl V.c9 ?_;refine al rfl V.c9 ?_;refine kn rfl ?_;refine a8.cA eX ?_;refine kn rfl ?_;refine a8.nil ?_;refine aj ?_;refine ab.ret ?_;refine'⟨.inr rfl,rfl,_,[],.cell rfl (by repeat first|exact .head _|refine .tail _ ?_|refine hT _ ?_) (mm (eW rfl) rfl) (.cell rfl (by repeat first|exact .head _|refine .tail _ ?_|refine hT _ ?_) (mm (eW rfl) rfl) (.nil)),h5 _,?_⟩;first
   |(have c:=yY
     exact⟨ch.trans (cF.trans dU),rfl,_,ek,aT,aQ,aK,ci,b1,c1,b2,c2,rfl,o1.mono dU,xw,hw,aD,au,dd.wide (by omega),by omega,by omega,by rw[hs];exact JB _,by rw[hs];show(0:Int)<=_;decide⟩)
   |exact⟨ch.trans (cF.trans (dU.trans ie)),rfl,_,ek,aT,aQ,aK,ci,b1,c1,b2,c2,rfl,Pc.mono ie,xw,hw,aD,au,dd.wide (by omega),by omega,by omega,by omega,Es⟩
 ·refine aj ?_;refine ab.skip ?_;refine rg ?_;refine I V.c9 ?_;refine I V.ag ?_;refine cl (G:=alq hw o1 au (by omega) (by omega)) (h:=?_);rintro v m' jV dU ⟨_,rfl,b3,c3,b4,p',rfl,OO⟩;have Pc:=o1.mono dU;have b8:addrEq b3 b3=true:=OO.s.addr;have fl:addrEq b4 b4=true:=OO.p.addr;refine aM ?_;refine dC ?_;refine bi ?_;refine I V.c9 ?_;refine I V.c9 ?_;refine I V.ag ?_;refine cl (G:=anU hw Pc OO (fp.zero hw) au (by omega) rfl (by show 1<=E9 % 2147483647;omega) (by show E9 % 2147483647<=2147483646;omega)) (h:=?_);rintro v m' q1 ie ⟨_,rfl,ek,b1,c1,b2,c2,rfl,xw,dd,aw,hs,Es⟩;have bb:addrEq b1 b1=true:=xw.s.addr;have a7:addrEq b2 b2=true:=xw.p.addr;refine aM ?_;refine dC ?_;refine ns ?_;refine ab.draw rfl (by kernel_rfl) (bc:=[.val 0,.val 1,.bR 2,.cA [1],.bR 3]) (by kernel_rfl) ?_;refine al rfl V.c9 ?_;refine al rfl V.c9 ?_;refine kn rfl ?_;refine a8.cA eX ?_;refine kn rfl ?_;refine a8.nil ?_;refine aj ?_;refine ab.ret ?_;refine'⟨.inr rfl,rfl,_,[],.cell rfl (by repeat first|exact .head _|refine .tail _ ?_|refine hT _ ?_) (mm (eW rfl) rfl) (.cell rfl (by repeat first|exact .head _|refine .tail _ ?_|refine hT _ ?_) (mm (eW rfl) rfl) (.nil)),h5 _,?_⟩;first
   |(have c:=yY
     exact⟨ch.trans (cF.trans dU),rfl,_,ek,aT,aQ,aK,ci,b1,c1,b2,c2,rfl,o1.mono dU,xw,hw,aD,au,dd.wide (by omega),by omega,by omega,by rw[hs];exact JB _,by rw[hs];show(0:Int)<=_;decide⟩)
   |exact⟨ch.trans (cF.trans (dU.trans ie)),rfl,_,ek,aT,aQ,aK,ci,b1,c1,b2,c2,rfl,Pc.mono ie,xw,hw,aD,au,dd.wide (by omega),by omega,by omega,by omega,Es⟩
theorem ao3{s:List UInt8}{i off:Nat}{x:UInt8}(h:s[i]?=some x)(ar:off=i):nth (l5 s) off=some (.int .u8 (x.toNat:Int)):=by
 subst ar;rw[kE];unfold l5;rw[oF,h];rfl
theorem ao5(y:UInt8):IntKind.u8.wrap ((y.toNat:Int)+1)=((y+1).toNat:Int):=by
 have:=y.toNat_lt;rw[UInt8.toNat_add];show _=(((y.toNat+1) % 256:Nat):Int);by_cases h:y.toNat=255
 ·rw[h];rfl
 ·rw[wrap_u8 (by omega) (by omega)];omega
theorem ao4(x:UInt8):x≠x+1:=fun h=>by
 have h:=cD UInt8.toNat h;rw[UInt8.toNat_add] at h;have h:x.toNat=(x.toNat+1) % 256:=h;have:=x.toNat_lt;omega
def Jc:gI:=⟨0,0,[],[]⟩
theorem Mr{J:aH}:jj J Jc none 0 none 0:=⟨⟨[],.nil,fun i x h=>by cases h⟩,⟨[],.nil,fun i x h=>by cases h⟩⟩
theorem akN(vQ:JC Q g0)(bS:∀J,Fn (bd Q g0) 4 [] [] J (M3 (.bool true) J)){l:List Int}{cY:Option Addr}{kl:Nat}{E0 E9 rounds at_:Int}{fO:UInt8}(av:dI J (.slice cY l.length kl) l)(hE:l.length<=9223372036854775807):
 Fn (bd Q g0) 3 [.slice cY l.length kl,.int .i64 E0,.int .i64 E9,.int .i64 rounds,.int .i64 at_,.int .u8 (fO.toNat:Int)] [] J (fun v m' af=>v=.bool true):=by
 have YT:addrEq cY cY=true:=av.addr;refine Fn.cH (cM Tryz.func3) rfl rfl fun H=>?_;refine rg ?_;refine I V.az ?_;refine bi ?_;refine ks (G:=bS _) (h:=?_);refine I V.ou ?_;refine ns ?_;refine If (fun yX=>?_) fun yX=>?_
 ·exfalso;simp at yX
 ·refine aj ?_;refine ab.skip ?_;refine rg ?_;refine aM ?_;refine I V.aZ ?_;refine ns ?_;refine If (fun mU=>?_) fun mU=>?_
  ·refine rg ?_;refine I V.az ?_;refine ns ?_;refine ab.ret ?_;refine c5 ?_;rfl
  ·refine aj ?_;refine ab.skip ?_;refine rg ?_;refine aM ?_;refine cl (G:=aoF av (by omega)) (h:=?_);rintro v m' dO ch ⟨_,rfl,g,t,aT,aQ,aK,ci,bs,cs,ct,cE,rfl,aq,aB,hw,aD,au,dd,qs,rN,Et,ig⟩;refine aM ?_;refine' W.step rfl (.of (eT rfl rfl rfl (MK Q g0) rfl rfl rfl fun yJ=>?_));refine' W.step rfl (.of (eT rfl rfl rfl (kY Q g0) rfl rfl rfl fun wU=>?_));refine dC ?_;refine dC ?_;refine a6 ?_;have fX:addrEq aK aK=true:=aq.i.addr;have gq:addrEq aT aT=true:=aq.n.addr;have ta:addrEq bs bs=true:=aB.s.addr;have zT:addrEq ct ct=true:=aB.p.addr;have ld:nH g t=0:=dd.check au (by omega) qs (by omega) Et ig;have ajT:Ct g t=.tuple #[.string ⟨⟨jS g t⟩⟩,.int .i64 0]:=by unfold Ct;rw[aE ld,ld]
   have hlen:=dd.len hw;have i2:=hw.i2;have cN:C0 t.sum:=⟨by omega,fun r aw=>by have:=hlen.2.2.1 r aw;omega⟩;have dW:C0 t.pl:=⟨by omega,fun r aw=>by have:=hlen.2.2.2 r aw;omega⟩;have dq:=Uc ld;have jO:(jS g t).length<=100000/\1<=(jS g t).length:=by
    have aa:=V1 dq;have ae:=Y9 cN dW dq.l dq.bs dq.ct t.sum.length (cW _);have aF:=s6 (s7 (R1 (IntKind.i64.wrap (65536*(k' 1 0 (jm g t)).2)+(k' 1 0 (jm g t)).1))) (cW 1);rw[show IntKind.i64.wrap (IntKind.i64.wrap (65536*(k' 1 0 (jm g t)).2)+(k' 1 0 (jm g t)).1)=ri (jm g t) from rfl] at aF;have cu:Fl.length=3:=rfl;unfold jS;simp only[dP,tl];have bo:(jm g t).length=(od g t).length+(tb t t.sum.length).length:=by unfold jm;rw[dP]
    omega
   have gK:∀x∈jE g,x.length<=1000:=fun x U=>by
    obtain⟨y,ai,rfl⟩:=uZ.1 U;have:=hw.yL y ai;rw[sc];omega
   refine rg ?_;refine I V.c9 ?_;refine I V.c9 ?_;refine cl (G:=anZ vQ aq aB cN dW) (h:=?_);rintro v m' e2 cF ⟨rfl,rfl,_⟩;rw[ajT];have o1:=aq.mono cF;refine aM ?_;refine a6 ?_;refine fR [16,4,5,13,15] ?_;refine aj ?_;refine' ab.hl 1 [(45,.bool (decide (False)))] ?Gv ?GF;case Gv=>
    refine ab.region ?_;refine I V.ag ?_;refine I V.aZ ?_;refine I V.ag ?_;refine dr 41 (fun Vg=>?_) fun Vg=>?_
    ·exfalso;exact Vg rfl
    ·refine aX V.ag ?_;refine aX V.x2 ?_;refine aX V.aZ ?_;refine I V.aU ?_;refine a6 ?_;refine'⟨⟨_,rfl,⟨?alm,rfl,rfl,rfl,rfl,trivial⟩⟩,bu _,rfl⟩;case alm=>first|exact iV rfl (by first|exact id|omega|(simp;omega))|exact iT rfl (by first|exact id|omega|(simp;omega))|exact iU rfl (by first|exact id|omega|(simp;omega))
   case GF=>
    refine aj ?_;refine If (fun j9=>?_) fun j9=>?_
    ·exfalso;exact j9
    ·refine aj ?_;refine ab.skip ?_;refine rg ?_;refine I V.ag ?_;refine' W.step rfl (.of (aqh rfl rfl rfl rfl (RG Q g0) fun aqT=>?_));refine I V.az ?_;refine bi ?_;refine aM ?_;refine cl (G:=Ix (n:=((jS g t).length:Int)) (by omega) (by omega)) (h:=?_);rintro v m' af hle ⟨rfl,rfl,rfl⟩;refine I V.az ?_;refine a6 ?_;obtain⟨i,ao⟩:∃i:Nat,at_ % ((jS g t).length:Int)=(i:Int):=⟨(at_ % ((jS g t).length:Int)).toNat,by have:=MT at_ (show((jS g t).length:Int)≠0 by omega);omega⟩;have mE:i<(jS g t).length:=by have:=MS at_ (show(0:Int)<(jS g t).length by omega);omega
     rw[ao];obtain⟨x,U⟩:∃x,(jS g t)[i]?=some x:=⟨_,dj mE⟩;refine rg ?_;refine aM ?_;refine I V.aW ?_;refine' W.step rfl (Exec.val rfl rfl (gP rfl rfl ?aw (ho (eW rfl) ?ay)) ?_);case aw=>exact .h6 (.head _)
     case ay=>exact ao3 U (by simp)
     refine I V.ag ?_;refine I V.aZ ?_;refine ns ?_;refine If (fun TZ=>?_) fun TZ=>?_
     ·have bE:x≠fO+1:=by
        obtain rfl:x=fO:=UInt8.toNat_inj.1 (by omega);exact ao4 x
      refine rg ?_;refine I V.ag ?_;refine' W.step rfl (Exec.val rfl rfl (My rfl rfl rfl rfl ?hw) ?_);case hw=>exact ao5 fO
      refine I V.az ?_;refine bi ?_;refine aM ?_;refine I V.aW ?_;refine' W.step rfl (.of (aaB rfl rfl rfl rfl (fQ rfl) rfl rfl rfl ?aa ?hs ?au ?_));case au=>exact .refl _
      case hs=>exact TK mE (by simp)
      case aa=>first|rfl|assumption
      refine bi ?_;refine I V.c9 ?_;refine I V.ag ?_;refine' W.step rfl (Exec.val rfl rfl (Z4 rfl rfl (RG Q g0) ?aw ?aO ?ap) ?_);case aw=>exact .h6 (.head _)
      case aO=>rw[fz]
      case ap=>rw[fz];omega
      refine cl (G:=Xz hw o1 au aD (by omega) gK (by rw[fz];omega)) (h:=?_);rintro v m' jV dU ⟨_,rfl,dn⟩;rcases dn with⟨ek,zt,bl,bp⟩|⟨e,a,he,rfl⟩;exact(TL hlen.1 hlen.2.1 bl bp U bE zt).elim
      refine aM ?_;refine' W.step rfl (.of (eT rfl rfl rfl (kY Q g0) rfl rfl rfl fun FV=>?_));refine' W.step rfl (.of (eT rfl rfl rfl (R9 Q g0) rfl rfl rfl fun k6=>?_));refine dC ?_;refine dC ?_;refine bi ?_;refine I V.ba ?_;refine I V.aG ?_;refine I V.aZ ?_;refine I V.ag ?_;refine dr 74 (fun G2=>?_) fun G2=>?_
      ·
        refine aX V.c9 ?_;refine aX V.jl ?_;refine AN (G:=Xs (t:=Jc) (u:=Jc) (b1:=none) (c1:=0) (b2:=none) (c2:=0) (b3:=none) (c3:=0) (b4:=none) (p':=0) Mr Mr (by decide) (fun r aw=>by cases aw) (by decide) (fun r aw=>by cases aw) rfl) (h:=?_);rintro v m' wJ ke ⟨rfl,rfl,rfl⟩;refine I V.aU ?_;refine I V.az ?_;refine ns ?_;refine ab.ret ?_;refine c5 ?_;rfl
      ·
        exfalso;exact G2 he
     ·have bE:x≠fO:=fun q=>TZ (by rw[q]);refine ln ?_;refine aM ?_;refine I V.aW ?_;refine' W.step rfl (.of (aaB rfl rfl rfl rfl (fQ rfl) rfl rfl rfl ?aa ?hs ?au ?_));case au=>exact .refl _
      case hs=>exact TK mE (by simp)
      case aa=>first|rfl|assumption
      refine bi ?_;refine I V.c9 ?_;refine I V.ag ?_;refine' W.step rfl (Exec.val rfl rfl (Z4 rfl rfl (RG Q g0) ?aw ?aO ?ap) ?_);case aw=>exact .h6 (.head _)
      case aO=>rw[fz]
      case ap=>rw[fz];omega
      refine cl (G:=Xz hw o1 au aD (by omega) gK (by rw[fz];omega)) (h:=?_);rintro v m' jV dU ⟨_,rfl,dn⟩;rcases dn with⟨ek,zt,bl,bp⟩|⟨e,a,he,rfl⟩;exact(TL hlen.1 hlen.2.1 bl bp U bE zt).elim
      refine aM ?_;refine' W.step rfl (.of (eT rfl rfl rfl (kY Q g0) rfl rfl rfl fun FV=>?_));refine' W.step rfl (.of (eT rfl rfl rfl (R9 Q g0) rfl rfl rfl fun k6=>?_));refine dC ?_;refine dC ?_;refine bi ?_;refine I V.ba ?_;refine I V.aG ?_;refine I V.aZ ?_;refine I V.ag ?_;refine dr 74 (fun G2=>?_) fun G2=>?_
      ·
        refine aX V.c9 ?_;refine aX V.jl ?_;refine AN (G:=Xs (t:=Jc) (u:=Jc) (b1:=none) (c1:=0) (b2:=none) (c2:=0) (b3:=none) (c3:=0) (b4:=none) (p':=0) Mr Mr (by decide) (fun r aw=>by cases aw) (by decide) (fun r aw=>by cases aw) rfl) (h:=?_);rintro v m' wJ ke ⟨rfl,rfl,rfl⟩;refine I V.aU ?_;refine I V.az ?_;refine ns ?_;refine ab.ret ?_;refine c5 ?_;rfl
      ·
        exfalso;exact G2 he
end
end
end Go.Opn
namespace Go.Opn
noncomputable section
open Go Go.Cre Go.RowKit Go.Proofs
def QY:List Int:=[0,1,28,2,29,14,24,3,30,22,20,15,25,17,4,8,31,27,13,23,21,19,16,7,26,12,18,6,11,5,10,9]
def T':List Value:=QY.map fun z=>Value.int .u8 z
def QZ:List Int:=[0,1,56,2,57,49,28,3,61,58,42,50,38,29,17,4,62,47,59,36,45,43,51,22,53,39,33,30,24,18,12,5,63,55,48,27,60,41,37,16,46,35,44,21,52,32,23,11,54,26,40,15,34,20,31,10,25,14,19,9,13,8,7,6]
def Ua:List Value:=QZ.map fun z=>Value.int .u8 z
def Q0:List Int:=[1,10,100,1000,10000,100000,1000000,10000000,100000000,1000000000,10000000000,100000000000,1000000000000,10000000000000,100000000000000,1000000000000000,10000000000000000,100000000000000000,1000000000000000000,10000000000000000000]
def Dp:List Value:=Q0.map fun z=>Value.int .u64 z
def ZN:List (Nat×TypeId×List Value):=[(1,187,T'),(2,188,Ua),(0,181,Dp)]
def H0:aA:=U1 3 3 ZN
theorem akU:isTrue ((vy Tryz.prog (DU Tryz.prog) 10000).body 4 [] false .run H0)=true:=by kernel_rfl
end
end Go.Opn
namespace Go.Opn
noncomputable section
open Go Go.Cre Go.RowKit
section
variable {H:Type}{P:Program}{enc:TypeId×Value->H}{W:World}{fuel:Nat}{t e:TypeId}{cs:List Value}{x:DataW H×List MemPlace}
end
end
end Go.Opn
namespace Go.Cre
noncomputable section
end
end Go.Cre
namespace Go.Proofs
open Go.Shelf
def Tryz.laysM171_ren:Go.Shelf.Ren:=⟨fun|171=>42|243=>66|246=>87|283=>101|284=>102|285=>103|286=>104|129=>113|317=>112|318=>114|319=>115|320=>116|337=>118|338=>119|n=>n,fun|3=>3|9=>9|2=>2|4=>4|171=>172|0=>0|53=>173|37=>36|5=>5|173=>176|212=>181|51=>182|20=>20|213=>183|46=>184|232=>187|233=>188|n=>n,fun|17=>0|18=>1|19=>2|n=>n⟩
theorem Tryz.laysM171:Go.Proofs.LaysM.n171 Tryz.prog Tryz.laysM171_ren:={
 mixed:=by kernel_rfl
 f129:=Tryz.func113.trans (cD some (by kernel_rfl))
 f171:=Tryz.func42.trans (cD some (by kernel_rfl))
 f243:=Tryz.func66.trans (cD some (by kernel_rfl))
 f246:=Tryz.func87.trans (cD some (by kernel_rfl))
 f283:=Tryz.func101.trans (cD some (by kernel_rfl))
 f284:=Tryz.func102.trans (cD some (by kernel_rfl))
 f285:=Tryz.func103.trans (cD some (by kernel_rfl))
 f286:=Tryz.func104.trans (cD some (by kernel_rfl))
 f317:=Tryz.func112.trans (cD some (by kernel_rfl))
 f318:=Tryz.func114.trans (cD some (by kernel_rfl))
 f319:=Tryz.func115.trans (cD some (by kernel_rfl))
 f320:=Tryz.func116.trans (cD some (by kernel_rfl))
 f337:=Tryz.func118.trans (cD some (by kernel_rfl))
 f338:=Tryz.func119.trans (cD some (by kernel_rfl))
 t0:=Tryz.underlying0
 a0:=Tryz.isAgg0
 z0:=Tryz.sizeOf0
 v0:=Tryz.zeroValue0
 t2:=Tryz.underlying2
 a2:=Tryz.isAgg2
 z2:=Tryz.sizeOf2
 v2:=Tryz.zeroValue2
 t3:=Tryz.underlying3
 a3:=Tryz.isAgg3
 z3:=Tryz.sizeOf3
 v3:=Tryz.zeroValue3
 t4:=Tryz.underlying4
 a4:=Tryz.isAgg4
 z4:=Tryz.sizeOf4
 v4:=Tryz.zeroValue4
 t5:=Tryz.underlying5
 a5:=Tryz.isAgg5
 z5:=Tryz.sizeOf5
 v5:=Tryz.zeroValue5
 t9:=Tryz.underlying9
 a9:=Tryz.isAgg9
 z9:=Tryz.sizeOf9
 v9:=Tryz.zeroValue9
 t20:=Tryz.underlying20
 a20:=Tryz.isAgg20
 z20:=Tryz.sizeOf20
 v20:=Tryz.zeroValue20
 t37:=Tryz.underlying36
 a37:=Tryz.isAgg36
 z37:=Tryz.sizeOf36
 v37:=Tryz.zeroValue36
 t46:=Tryz.underlying184
 a46:=Tryz.isAgg184
 z46:=Tryz.sizeOf184
 v46:=Tryz.zeroValue184
 t51:=Tryz.underlying182
 a51:=Tryz.isAgg182
 z51:=Tryz.sizeOf182
 v51:=Tryz.zeroValue182
 t53:=Tryz.underlying173
 a53:=Tryz.isAgg173
 z53:=Tryz.sizeOf173
 v53:=Tryz.zeroValue173
 t171:=Tryz.underlying172
 a171:=Tryz.isAgg172
 z171:=Tryz.sizeOf172
 v171:=Tryz.zeroValue172
 t173:=Tryz.underlying176
 a173:=Tryz.isAgg176
 z173:=Tryz.sizeOf176
 v173:=Tryz.zeroValue176
 t212:=Tryz.underlying181
 a212:=Tryz.isAgg181
 z212:=Tryz.sizeOf181
 v212:=Tryz.zeroValue181
 t213:=Tryz.underlying183
 a213:=Tryz.isAgg183
 z213:=Tryz.sizeOf183
 t232:=Tryz.underlying187
 a232:=Tryz.isAgg187
 z232:=Tryz.sizeOf187
 v232:=Tryz.zeroValue187
 t233:=Tryz.underlying188
 a233:=Tryz.isAgg188
 z233:=Tryz.sizeOf188
 v233:=Tryz.zeroValue188
 g17:=by kernel_rfl
 g18:=by kernel_rfl
 g19:=by kernel_rfl
 i0:=by kernel_rfl
 i2:=by kernel_rfl
 i3:=by kernel_rfl
 i4:=by kernel_rfl
 i5:=by kernel_rfl
 i9:=by kernel_rfl
 i20:=by kernel_rfl
 i37:=by kernel_rfl
 i46:=by kernel_rfl
 i51:=by kernel_rfl
 i53:=by kernel_rfl
 i171:=by kernel_rfl
 i173:=by kernel_rfl
 i212:=by kernel_rfl
 i232:=by kernel_rfl
 i233:=by kernel_rfl
 m17:=by kernel_rfl
 m18:=by kernel_rfl
 m19:=by kernel_rfl}
open Go.RowKit Go.Sort Go.Lib in
theorem Tryz.strconv_Itoa(n:Int)(bw:-9223372036854775808<=n)(aa:n<=9223372036854775807)(w:World)(ajV:Lib.TabIs Tryz.prog w "internal/strconv.uint64pow10" .u64 Lib.pow10Tab):
 Calls Tryz.prog 42 #[.int .i64 n] w fun e br=>e=.returned (.string ⟨(Lib.itoa n).toArray⟩)/\∃k os,br=grow (w.drewN k) os:=Any.strconv_Itoa Tryz.laysM171 n bw aa w ajV
end Go.Proofs
namespace Go.Opn
noncomputable section
open Go Go.Cre Go.RowKit Go.Proofs Go.ChangeShapes Go.WideShapes Go.ChangeAt
open Go.Proofs.YtkmfhjilfjecmaaGreatDoor
abbrev PP:=Tryz.prog
theorem jc:PP.underlying 3=some (.int .i64):=by kernel_rfl
theorem RQ:PP.underlying 22=some (.slice 3):=by kernel_rfl
theorem c3:PP.cellsOf 3=1:=by kernel_rfl
theorem nV:PP.underlying 5=some (.int .u8):=by kernel_rfl
theorem Ij{P:Program}{W:World}{base:Nat}{t:TypeId}{v:Value}{k:IntKind}(hu:P.underlying t=some (.int k))(h:Value.okWide P W .any base t v):v.cells.toList=[v]:=by
 unfold Value.okWide at h;rw[hu] at h;simp only at h;unfold Cell.okWide at h;rw[hu] at h;cases v with
 |agg cs=>simp[Cell.ok,hu] at h
 |_=>rfl
theorem ab6{H:Type}{enc:TypeId×Value->H}{P:Program}{W:World}{fuel:Nat}{t:TypeId}{cs:List Value}{x:DataW H×List MemPlace}(aB:P.underlying t=some (.int .u8))(h:CD enc P W fuel t cs=some x):∃y:UInt8,cs=[.int .u8 (y.toNat:Int)]/\cs.map (mT P W)=[.int .u8 (y.toNat:Int)]:=by
 obtain⟨i,rfl,_,H5⟩:=DataW.trod_int aB h;have aw:0<=i/\i<=255:=by
  have H5:(decide (IntKind.u8.min<=i)&&decide (i<=IntKind.u8.max))=true:=H5;rw[fS] at H5;exact⟨lV H5.1,lV H5.2⟩
 have e:((UInt8.ofNat i.toNat).toNat:Int)=i:=by rw[UInt8.toNat_ofNat'];omega
 exact⟨UInt8.ofNat i.toNat,by rw[e],by rw[nz,J0 rfl,e];rfl⟩
theorem ao1{H:Type}{enc:TypeId×Value->H}{P:Program}{w:World}{base:Nat}{spare:Nat->Bool}{held:Bool}{t0 t1 t2 t3 t4 t5:TypeId}{args:Array Value}{ds:List (DataW H)}{ew:List MemPlace}(h:DataW.TrodAll enc P w base spare held [t0,t1,t2,t3,t4,t5] args.toList ds ew):
 ∃v0 v1 v2 v3 v4 v5 d0 d1 d2 d3 d4 d5 hH dH hP ij ki lr,args=#[v0,v1,v2,v3,v4,v5]/\ds=[d0,d1,d2,d3,d4,d5]/\ew=hH++dH++hP++ij++ki++lr/\DataW.Trod enc P w base spare held t0 v0 d0 hH/\DataW.Trod enc P w base spare held t1 v1 d1 dH/\DataW.Trod enc P w base spare held t2 v2 d2 hP/\DataW.Trod enc P w base spare held t3 v3 d3 ij/\DataW.Trod enc P w base spare held t4 v4 d4 ki/\DataW.Trod enc P w base spare held t5 v5 d5 lr:=by
 obtain⟨v0,aan,d0,ar3,hH,np,a1,rfl,rfl,bw,h⟩:=trodAll_cons h;obtain⟨v1,apK,d1,vr,dH,bb,rfl,rfl,rfl,aa,h⟩:=trodAll_cons h;obtain⟨v2,avg,d2,ar4,hP,a7,rfl,rfl,rfl,ae,h⟩:=trodAll_cons h;obtain⟨v3,avh,d3,ar5,ij,b8,rfl,rfl,rfl,aF,h⟩:=trodAll_cons h;obtain⟨v4,avi,d4,ar6,ki,fl,rfl,rfl,rfl,bo,h⟩:=trodAll_cons h;obtain⟨v5,avj,d5,ar7,lr,jb,rfl,rfl,rfl,eB,h⟩:=trodAll_cons h;obtain⟨rfl,rfl,rfl⟩:=trodAll_nil h;exact⟨v0,v1,v2,v3,v4,v5,d0,d1,d2,d3,d4,d5,hH,dH,hP,ij,ki,lr,by cases args;simp_all,rfl,by simp,bw,aa,ae,aF,bo,eB⟩
theorem aoh{P:Program}{W:World}{base:Nat}{t e:TypeId}{v:Value}(hu:P.underlying t=some (.slice e))(h:Value.okWide P W .any base t v):v.cells.toList=[v]:=by
 unfold Value.okWide at h;rw[hu] at h;simp only at h;unfold Cell.okWide at h;rw[hu] at h;cases v with
 |agg cs=>simp[Cell.ok,hu] at h
 |_=>rfl
theorem abP(w:World)(k:Nat)(os:Array Obj):Below w.heap.size w (Go.Sort.grow (w.drewN k) os):=by
 have aV:∀(k:Nat) (w:World),(w.drewN k).os=w.os/\(w.drewN k).tape=w.tape/\(w.drewN k).output=w.output/\(w.drewN k).heap=w.heap:=by
  intro k;induction k with
  |zero=>intro w;exact⟨rfl,rfl,rfl,rfl⟩
  |succ k aI=>intro w;exact aI w.drew
 obtain⟨aa,ae,aF,bo⟩:=aV k w;refine⟨aa,ae,aF,?_,fun i ao=>?_⟩
 ·show w.heap.size<=((w.drewN k).heap++os).size;rw[bo,Array.size_append];omega
 ·show((w.drewN k).heap++os)[i]?=_;rw[bo,Sj ao]
theorem afS:Tryz.prog.globalNamed "internal/strconv.uint64pow10"=some 0:=by kernel_rfl
theorem am0{w:World}(h:Laid Tryz.prog w H0):Lib.TabIs Tryz.prog w "internal/strconv.uint64pow10" .u64 Lib.pow10Tab:=by
 rcases h.rows 0 (.row Dp 181 false 0 sD true) (by kernel_rfl) with q|⟨cells,e,f,bb,_,b8,_,_⟩
 ·cases q
 ·injection bb with bb _
  subst bb;show w.var? Tryz.prog _=_;unfold World.var?;rw[afS];show(match w.heap[0]? with|some (.cells cs _ _)=>some cs|_=>none)=_
  rw[b8];rfl
theorem akB{g0:Nat}:JC (Js Tryz.prog H0) g0:=fun n J bw aa=>by
 obtain⟨c,aC⟩:∃c,Tryz.f42.body=some c:=⟨_,rfl⟩;exact Fn.alM (K:=bd (Js Tryz.prog H0) g0) (R:=fun v'=>v'=.string ⟨⟨Lib.itoa n⟩⟩) rfl Tryz.func42 aC (fun μ v' h=>by subst h;exact .atom _ rfl) (fun B w0 w fU aO=>
  (Tryz.strconv_Itoa n bw aa w (am0 (fU.1.eC fU.2 aO))).mono fun e br ⟨he,k,os,hw⟩=>⟨⟨_,he,rfl⟩,hw▸abP w k os⟩)
end
end Go.Opn
