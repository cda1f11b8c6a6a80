/- A part of the proof of TableBounds. -/
import Derived.Test.YtccpobhlccjkiaaGreatDoorCan
import Derived.Test.YtccpobhlccjkiaaGreatDoorCam
import Derived.Test.YtccpobhlccjkiaaGreatDoorCal
import Derived.Test.YtccpobhlccjkiaaGreatDoorCak
import Derived.Test.YtccpobhlccjkiaaGreatDoorCaj
set_option linter.defProp false
set_option maxRecDepth 100000
set_option maxHeartbeats 8000000
set_option linter.unusedVariables false
set_option linter.unusedSimpArgs false
namespace Go.Opn
noncomputable section
open Go.Cre Go.RowKit Go.Proofs
def atG{u y k:Nat}(h:u<1000000000*y)(an:(aq y).length<=k):(aq u).length<=k+1:=kK (kw h (by
 rw[lz,hn];exact hJ _ (G8 (ud an))))
def Om{x f k:Nat}(U:(aq x).length<=k)(ay:f<1000000000):(aq (x*f)).length<=k+1:=by
 refine kK ?_;have ae:=ud U;rw[lz];exact aiI ae aa bI
def aej{J:ai}:ei J (.slice none 0 0) 0:=by
 show dZ .u32 J _ (aq 0);rw[m1];exact dZ.nil
def alp{x y:Nat}(h:¬j' x y<0):y<=x:=by
 rcases ha x y with q|q
 ·exact absurd (Ae.2 q) h
 ·exact q
def p2{x y:Nat}(h:y<=x):(aq y).length<=(aq x).length:=by
 rcases ha (aq x).length (aq y).length with q|q
 ·have:=UY q;omega
 ·exact q
abbrev aiT(J:ai)(x y:Nat):Value->aJ->ai->Prop:=fun u m' ah=>J.le ah/\m'=[]/\∃bE ct,u=.tuple #[bE,ct]/\ei ah bE (x / y)/\ei ah ct (x % y)
section
variable {K:dW}{B:dN}{o:Oper}{n:Nat}{ds:er}{l:List (Nat×Value)}{m m':aJ}{J:ai}
def KO{c:Call}{x y:Operand}{k:IntKind}{a b:Int}(al:o.op=.call c)(ax:c.callee=.builtin .min)(iI:c.args.toList=[x,y])(U:bS l x=some (.int k a))(an:bS l y=some (.int k b)):dr K B o n ds l m J (.int k (min a b)):=by
 intro call aO S H au aD;rw[H9 al ax];have qI:c.args=#[x,y]:=by rw[<-Array.toList_inj];exact iI
 have:fQ K.P S.T H o=some (.val (.int k (min a b)) H):=by
  refine p9 au ?_ U an I I ?_ I
  ·rw[al]
   show(Call.operands c).toList=_;simp[Call.operands,ax,qI]
  ·unfold execOp;simp only[al]
   have ar:fw K.P (resolve (s' S.T H) c o.type)=some {target:=.builtin .min c.argTypes o.type (c.args.map fun|.const _=>true|_=>false),args:=#[.int k a,.int k b]}:=by
        unfold resolve;simp only[ax,qI];show some _=some _;simp[jb au H U,jb au H an];exact⟨by cases x<;>rfl,by cases y<;>rfl⟩
   rw[e' ar];show fw K.P ((Builtin.min_ c.argTypes o.type #[.int k a,.int k b]) >>= fun v=>pure (Next.value v))=_;have:fw K.P (Builtin.min_ c.argTypes o.type #[.int k a,.int k b])=some (.int k (min a b)):=by
        show some (Value.int k (if b<a then b else a))=_;congr 2
        split<;>omega
   rw[e' this];rfl
 unfold tB;rw[pQ au H (vs:=[.int k a,.int k b]) (by rw[iI];simp only[jH,U,an])];exact this
def dY.rd{g0:Nat}{e:TypeId}{sz k:Nat}{v:Value}{cells:List Value}{aS:aJ}(h:dY e sz v k cells aS)(hm:∀x∈aS,x∈m):pe g0 B J m sz v k cells:=by
 rcases oC k with rfl|hk
 ·intro H aD
  rcases h with⟨h,_,aA⟩|⟨a,full,rest,rfl,_,_,ae,_⟩
  ·cases h with
   |nil=>exact⟨I,I⟩
   |kA a=>exact⟨I,I⟩
   |opn ae ag=>exact⟨I,by rw[nM] at ae;rw[mQ ae];rfl⟩
   |cap=>exact absurd (.head _) (aA _ _ _)
  ·exact⟨I,by rw[nM] at ae;rw[<-ae];rfl⟩
 ·obtain⟨a,full,rest,rfl,rfl,ae,ag⟩:=h.row hk
  intro H aD;refine⟨I,?_⟩;obtain⟨f,_,g,_⟩:=(aD.own _ _ (hm _ (.head _))).1;unfold kB;cases k with
  |zero=>
   simp only
   rw[nM] at ae;rw[<-ae];rfl
  |succ k=>
   simp only[g];rw[wS,iD,zC aa,ae]
end
def dY.tD{e:TypeId}{sz k:Nat}{v:Value}{cells:List Value}{aS:aJ}(h:dY e sz v k cells aS):∃b c,v=.slice b k c:=by
 rcases h.form with⟨b,aN,aH,_⟩|⟨a,full,rest,aN,_⟩
 ·exact⟨_,_,by rw[aH];exact aN⟩
 ·exact⟨_,_,aN⟩
def agf{l:List Value}{i:Nat}{v:Value}(h:i<l.length):gO i l [v]=some (l.set i v):=by
 rw[xT _ _ _ (by rw[x8];omega),XZ,aP h,j6];rfl
def dY.put{e:TypeId}{a k i x:Nat}{full:List Value}{rest:List Nat}{l:List Nat}(ay:full.take (k*1)=cc .u32 l)(hk:k*1<=full.length)(aj:l.length=k)(hi:i<k):dY e 1 (.slice (some ⟨a,0,none⟩) k cK) (l.set i x).length (cc .u32 (l.set i x)) [(a,.opn (full.set i (.int .u32 (x:Int))) e rest 0)]:=by
 have h:=dY.of (e:=e) (sz:=1) (k:=k) (a:=a) (full:=full.set i (.int .u32 (x:Int))) (rest:=rest) (by rw[hy];exact hk);have ag:(full.set i (.int .u32 (x:Int))).take (k*1)=cc .u32 (l.set i x):=by
  rw[List.take_set,ay];unfold cc;rw[P']
 rw[ag] at h;rw[hy,aj];exact h
section
variable {Q:da Tryz.prog}{g0:Nat}{J:ai}
def VQ{v w:Value}{x y:Nat}(ae:ei J v x)(ag:ei J w y)(an:y≠0)(tO:(aq x).length<=60000)(pZ:(aq y).length<=60000):Fn (aU Q g0) 73 [v,w] [] J (aiT J x y):=by
 have lI:=ae;have kZ:=ag;have ae:dZ .u32 J v (aq x):=ae;have ag:dZ .u32 J w (aq y):=ag;obtain⟨bc,bb,rfl⟩:=ae.form;obtain⟨bl,bt,rfl⟩:=ag.form;have hF:=ze an;obtain⟨BB,vk⟩:∃BB,(aq y)[(aq y).length -1]?=some BB:=⟨_,cU aa⟩;have aa7:BB≠0:=N' y _ (by rw[x7];exact vk);have aDp:=uq (k5 y) vk;obtain⟨f,ay⟩:∃f,f=1000000000 / (BB+1):=⟨_,I⟩;have Cl:0<f:=by rw[ay];exact Nat.div_pos aa aa
 have I4:f<1000000000:=by rw[ay];exact Nat.div_lt_self bI aa
 have aqr:(1000000000:Int).tdiv ((BB:Int)+1)=(f:Int):=by rw[ay];exact(uK 1000000000 (BB+1)).symm
 have aC9:(aq f).length<=1:=kK (by rw[D3];exact I4);have ao2:aq f=[f]:=JQ aa I4;obtain⟨X,eO⟩:∃X,X=x*f:=⟨_,I⟩;obtain⟨Y,kD⟩:∃Y,Y=y*f:=⟨_,I⟩;have aDu:(aq X).length<=60001:=by rw[eO];exact Om tO I4
 have Cc:(aq Y).length<=60001:=by rw[kD];exact Om pZ I4
 have yJ:0<Y:=by rw[kD];exact ib aa Cl
 have SQ:=ze (jP yJ);obtain⟨T,cq⟩:∃T,(aq Y)[(aq Y).length -1]?=some T:=⟨_,cU aa⟩;have aDr:T≠0:=N' Y _ (by rw[x7];exact cq);have aDq:=uq (k5 Y) cq;obtain⟨a,o,BN,e,rfl,gX,az⟩:=ag.eG aa;have aEb:nth BN (o+(((aq y).length:Int) -1).toNat*1)=some (.int .u32 (BB:Int)):=by
  rw[show(((aq y).length:Int) -1).toNat=(aq y).length -1 by omega];exact az _ _ vk
 refine Fn.b9 (b1 Tryz.func73) I I fun H=>?_;refine af 0x439c0859 ?_;refine cl (G:=VP lI kZ aa) (h:=?_);rintro v' m' ah hle ⟨rfl,rfl,rfl⟩;refine af 0x5f04 ?_;refine If (fun jt=>?_) fun jt=>?_
 ·have cI:x<y:=Ae.1 jt;refine af 0x6af810839 ?_;refine b4 ?_
  exact⟨ai.le.refl _,I,_,_,I,by rw[G4 cI];exact aej,by rw[wu cI];exact lI⟩
 ·have ln:y<=x:=alp jt;have ao4:Y<=X:=by rw[eO,kD];exact hJ _ ln
  have rJ:=p2 ao4;refine af 0xe78dc930ca10e757 ?_;rw[aqr,show IntKind.u64.wrap (f:Int)=(f:Int) from wrap_u64 aa aa,show IntKind.u32.wrap (f:Int)=(f:Int) from wrap_u32 aa aa];refine cl (G:=Wt (x:=f) I4) (h:=?_);rintro az6 m' bj a8 ⟨_,rfl,bC⟩;have IC:=bC.hO;refine af 0x10e702 ?_;refine cl (G:=zD (lI.mono a8) IC aa aa) (h:=?_);rintro v' m' c3 bN ⟨_,rfl,IT⟩;rw[<-eO] at IT;refine af 0x21 ?_;refine cl (G:=zD (kZ.mono (a8.trans bN)) (IC.mono bN) aa aa) (h:=?_);rintro v' m' e3 cQ ⟨_,rfl,SR⟩;rw[<-kD] at SR;have IT:=IT.mono cQ;refine af 0x6042 ?_;have IC:=(IC.mono bN).mono cQ;have abc:dZ .u32 e3 _ (aq X):=IT.hO;have SQ:dZ .u32 e3 _ (aq Y):=SR.hO;obtain⟨b0,cE,rfl⟩:=abc.form;obtain⟨dp,eA,rfl⟩:=SQ.form;have abd:=SR.hO;obtain⟨Yq,VB,alg,amS,rfl,ao7,asn⟩:=abc.eG aa;obtain⟨aBZ,avo,alh,aCZ,rfl,aDf,aso⟩:=SQ.eG aa;have aEd:nth alh (avo+(((aq Y).length:Int) -1).toNat*1)=some (.int .u32 (T:Int)):=by
   rw[show(((aq Y).length:Int) -1).toNat=(aq Y).length -1 by omega];exact aso _ _ cq
  have apt:fg e3 92 1 (.slice (some ⟨Yq,VB,none⟩) (aq X).length cE) (aq X).length (cc .u32 (aq X)):=IT;obtain⟨W6,pw⟩:∃w,HU Yq VB cE 1 (((aq X).length:Int) -((aq Y).length:Int)+1) ((aq X).length:Int)=w:=⟨_,I⟩;have M4:=alO apt (a:=((aq X).length:Int) -((aq Y).length:Int)+1) (b:=((aq X).length:Int)) aa aa aa aa;rw[pw] at M4;obtain⟨N,mU⟩:∃N,N=(aq X).length -(aq Y).length+1:=⟨_,I⟩;have ZS:(((aq X).length:Int) -((aq Y).length:Int)+1).toNat=N:=aa
  have RL:(((aq X).length:Int) -(((aq X).length:Int) -((aq Y).length:Int)+1)).toNat=(aq Y).length -1:=aa
  rw[ZS,RL,jr,jr] at M4;have amR:((cc .u32 (aq X)).drop N).take ((aq Y).length -1)=cc .u32 ((aq X).drop N):=by
   unfold cc;rw[<-List.map_drop,ft (by rw[e9,jO];omega)]
  rw[amR] at M4;have aaM:((aq X).drop N).length=(aq Y).length -1:=by rw[jO];omega
  have aoY:(aq X).drop N=aq (bf ((aq X).drop N)):=ty (Zr (wO X));have w4:bf ((aq X).drop N)<Y:=amK (m:=(aq Y).length -1) (k5 X) aa aa;refine af 0xbe0450e702724c328439 ?_;refine aK.draw I (by kernel_rfl) (a0:=[.val 0,.val 1,.val 2,.val 3,.val 4,.iF 5,.val 6,.val 7,.val 8,.val 9,.val 10,.val 11,.val 12,.val 13,.b6 [4,3,2,1,0],.bw 14,.val 15,.b6 [4,3,2,1,0],.bw 16]) (by kernel_rfl) ?_;refine af 0x3184a1 ?_;refine bX.makeSlice I I I I I I I (ee I) ?aQ ?ae ?ag fun Hi=>?_;case aQ=>exact cJ
  case ae=>exact cJ
  case ag=>exact cJ
  refine af 0xc6128421 ?_;refine' bX.val I I I I (aAs I I (ee I) ?az ?hk I I ?aQ ?ae ?ag ?hw) ?_;case az=>assumption
  case hk=>exact cJ
  case aQ=>exact cJ
  case ae=>exact cJ
  case ag=>exact cJ
  case hw=>assumption
  refine bX.b6 eN ?_;refine' bX.nP I I (uD I I I I I I (ee I) (zG Q g0) (fun i q=>by cases q) ?c1 ?hm ?U ?cH ?c7 ?aj fun W5 adX abn acL=>?_);case c1=>exact .nil
  case hm=>exact Kr
  case U=>exact M4.rd
  case cH=>exact(by rw[vL,aaM,jr])
  case c7=>exact Kd _
  case aj=>exact(show 0+((aq Y).length -1)<=1000000 by omega)
  refine af 0xc0ba2 ?_;rw[ZS,zero_num];have ar5:N<=N/\e3.le e3/\(List.replicate N 0).length=N/\hh (List.replicate N 0)/\bf ((List.replicate N 0).drop N)=bf ((aq X).drop N) / Y/\dY 92 1 W5 (aq (bf ((aq X).drop N) % Y)).length (cc .u32 (aq (bf ((aq X).drop N) % Y))) adX:=by
   refine⟨b2 _,ai.le.refl _,kU,aey,?_,?_⟩
   ·rw[to (by rw[kU];exact b2 _),G4 w4];rfl
   ·rw[wu w4,<-aoY,aaM]
    rw[j8,nL] at abn;exact .inl ⟨abn,acL.1 xZ,acL.2 xA⟩
  refine af 0x1abe04309439 ?_;refine dV [(9,.int .i64 (((N):Int) -1)),(5,(W5)),(0,_),(1,_),(4,_),(6,_),(7,_)] ?_;refine bp ?_;refine' aK.bK (fun(b8:Nat×(List Nat)×Value×aJ×ai)=>match b8 with|(k,d,ov,aS,cv)=>⟨[(9,.int .i64 ((k:Int) -1)),(5,ov)],aS++[pF .u32 92 Hi d],cv,k<=N/\e3.le cv/\d.length=N/\hh d/\bf (d.drop k)=bf ((aq X).drop k) / Y/\dY 92 1 ov (aq (bf ((aq X).drop k) % Y)).length (cc .u32 (aq (bf ((aq X).drop k) % Y))) aS,k⟩) ⟨N,List.replicate N 0,W5,adX,e3⟩ ?hs ?bn
  case hs=>exact ar5
  case bn=>
   rintro⟨k,d,ov,aS,cv⟩ hinv;try simp only at hinv
   obtain⟨hk,cr,rE,abz,Th,c1⟩:=hinv;refine af 0x17c1039 ?_;refine If (fun akm=>?_) fun akm=>?_
   ·obtain⟨z,aR⟩:∃z,(aq X)[k -1]?=some z:=⟨_,cU aa⟩;have aEh:nth alg (VB+((k:Int) -1).toNat*1)=some (.int .u32 (z:Int)):=by
     rw[show((k:Int) -1).toNat=k -1 by omega];exact asn _ _ aR
    have aDe:=cr _ _ ao7;have AH:=uq (k5 X) aR;obtain⟨R,dU⟩:∃R,R=bf ((aq X).drop k) % Y:=⟨_,I⟩;rw[<-dU] at c1;have apk:R<Y:=by rw[dU];exact lh _ yJ
    have apl:(aq R).length<=60001:=dT (p2 (G8 apk)) Cc;obtain⟨eJ,iH⟩:∃eJ,eJ=z+1000000000*R:=⟨_,I⟩;have M5:eJ<1000000000*Y:=aa
    have apq:bf (z::aq R)=eJ:=by rw[iH];show z+1000000000*bf (aq R)=_;rw[h0]
    have aa':(aq eJ).length<=60002:=atG M5 Cc;have ZX:k -1+1=k:=aa
    have b3:=afi (d:=d) yJ aR aa (by rw[ZX];exact dU) (by rw[ZX];exact Th) iH;have arp:hh (z::aq R):=fun u hu=>by
     rcases fs.1 hu with rfl|hu
     ·exact AH
     ·exact k5 R u hu
    refine af 0x930439d5f57 ?_;refine jG fun aja=>?_;refine hA V.eC ?_;refine' W.step I (.of (uD I I I I I I (ee I) (zG Q g0) (fun i q=>by cases q) ?c1 ?hm ?U ?cH ?c7 ?aj fun aGk aE9 apI aEG=>?_));case c1=>exact Acc.cap (a:=aja) (el:=92) (k:=1) (C:=1) (full:=[.int .u32 (z:Int)]) I I (b2 _) Kf
    case hm=>exact .refl _
    case U=>exact c1.rd (fun x U=>.tail _ (tq _ U))
    case cH=>exact(by rw[vL,jr])
    case c7=>exact Kd _
    case aj=>exact(show 1+(aq R).length<=1000000 by omega)
    refine W.awZ apI I fun lx fa yI=>?_;refine cl (G:=KH (l:=z::aq R) (by rw[ks,G3];exact yI) arp (by rw[ks];omega)) (h:=?_);rintro v' m' ah hle ⟨rfl,rfl,EW⟩;rw[apq] at EW;have aba:dZ .u32 lx v' (aq eJ):=EW.hO;obtain⟨ev,dJ,rfl⟩:=aba.form;have EW:=EW.hO;have h6:bf ((aq eJ).drop (aq eJ).length)=0:=(by rw[XQ];rfl);refine af 0x1abe0432873816702 ?_;refine dV [(11,.int .i64 ((((aq eJ).length):Int) -1)),(10,.int .u64 (bf ((aq eJ).drop ((aq eJ).length)):Int)),(0,_),(1,_),(4,_),(5,_),(6,_),(7,_),(9,_)] ?_;refine bp ?_;refine' aK.og (fun(j:Nat)=>⟨[(11,.int .i64 ((j:Int) -1)),(10,.int .u64 (bf ((aq eJ).drop j):Int))],j<=(aq eJ).length/\((aq Y).length -1<=j\/j=(aq eJ).length),j⟩) ((aq eJ).length) ?hs ?bn;case hs=>exact⟨b2 _,.inr I⟩
    case bn=>
     rintro j hinv;try simp only at hinv
     obtain⟨aW,abP⟩:=hinv;refine af 0xbe08328439 ?_;refine If (fun akt=>?_) fun akt=>?_
     ·obtain⟨h8,NM⟩:∃z,(aq eJ)[j -1]?=some z:=⟨_,cU aa⟩;obtain⟨aBY,avn,alf,aCY,rfl,aDd,asm⟩:=aba.eG aa;have aEc:nth alf (avn+((j:Int) -1).toNat*1)=some (.int .u32 (h8:Int)):=by
       rw[show((j:Int) -1).toNat=j -1 by omega];exact asm _ _ NM
      have ZU:=Gs NM;rw[show j -1+1=j by omega] at ZU;have sJ:=abL (n:=(aq Y).length -1) aa M5 (j -1) aa;have amU:(bf ((aq eJ).drop j):Int)*1000000000+(h8:Int)=(bf ((aq eJ).drop (j -1)):Int):=aa
      refine af 0x6043724c108c39d5f57 ?_;rw[amU];refine af 0x1810c39 ?_;refine om (j -1) ?_;exact⟨aa,.inl aa⟩
     ·have ZW:(aq eJ).drop j=(aq eJ).drop ((aq Y).length -1):=by
       rcases abP with q|q
       ·rw[show j=(aq Y).length -1 by omega]
       ·rw[to aa,to aa]
      have jv:=abL (n:=(aq Y).length -1) aa M5 _ (b2 _);rw[<-ZW] at jv;have ln:=am5 cq aa M5;rw[<-ZW] at ln;obtain⟨e8,So⟩:∃e8,e8=bf ((aq eJ).drop j) / T:=⟨_,I⟩;have aDN:e8<=bf ((aq eJ).drop j):=by rw[So];exact si _ _
      rw[<-So] at ln;obtain⟨E,gW⟩:∃E,E=Nat.min e8 999999999:=⟨_,I⟩;rw[<-gW] at ln;have MR:E<=999999999:=by rw[gW];exact Nat.min_le_right _ _
      have aoZ:min (IntKind.u64.wrap ((bf ((aq eJ).drop j):Int).tdiv (T:Int))) 999999999=(E:Int):=by
       rw[show(bf ((aq eJ).drop j):Int).tdiv (T:Int)=(e8:Int) by rw[So];exact(uK _ _).symm];rw[wrap_u64 aa aa,gW];show min (e8:Int) 999999999=((min e8 999999999:Nat):Int);omega
      refine af 0x357 ?_;refine fc [10,0,1,4,5,6,7,9] ?_;refine bp ?_;refine' aK.hp 1 [(12,.int .u64 (E:Int))] ?HP ?HY;case HP=>
       refine af 0x7843a ?_;refine' W.step I (Exec.val I I (KO I I I I I) ?_);refine af 0x302 ?_;refine ho ?_;exact dh some (dh (Value.int .u64) aoZ)
      case HY=>
       refine af 0x357 ?_;refine dV [(12,.int .u64 ((E):Int)),(0,_),(1,_),(4,_),(5,_),(6,_),(7,_),(9,_)] ?_;refine bp ?_;refine' aK.bK (fun(b8:Nat×ai)=>match b8 with|(t,nJ)=>⟨[(12,.int .u64 (t:Int))],aS++[pF .u32 92 Hi d],nJ,eJ / Y<=t/\t<=999999999/\lx.le nJ,t⟩) ⟨E,lx⟩ ?hs ?bn
       case hs=>exact⟨ln,MR,ai.le.refl _⟩
       case bn=>
        rintro⟨t,nJ⟩ hinv;try simp only at hinv
        obtain⟨Uq,xk,ES⟩:=hinv;have Cw:t<1000000000:=aa;refine af 0x70439 ?_;refine cl (G:=Wt (x:=t) Cw) (h:=?_);rintro v' m' wj ij ⟨_,rfl,Cb⟩;have Cb:=Cb.hO;refine cl (G:=zD (abd.mono (cr.trans (fa.trans (ES.trans ij)))) Cb aa (dT (kK (k:=1) (by rw[D3];exact Cw)) bI)) (h:=?_);rintro v' m' DO l' ⟨_,rfl,cZ⟩;refine hA V.eC ?_;refine cl (G:=VP cZ.hO (EW.mono (ES.trans (ij.trans l'))) (dT (Om Cc Cw) bI)) (h:=?_);rintro v' m' ah hle ⟨rfl,rfl,rfl⟩;refine af 0x5f04 ?_;refine If (fun L8=>?_) fun L8=>?_
        ·have jJ:eJ<Y*t:=by
           rcases ha eJ (Y*t) with q|q
           ·exact q
           ·exfalso
            rcases uP q with q|q
            ·rw[Mk q] at L8;omega
            ·rw[Em q] at L8;omega
         have ab3:eJ / Y<t:=Nat.div_lt_of_lt_mul jJ;have aEx:1<=t:=jg (c6 _) ab3;have ar7:eJ / Y<=t -1/\t -1<=999999999/\lx.le DO:=⟨Nat.le_sub_one_of_lt ab3,aa,ES.trans (ij.trans l')⟩;refine af 0x1810c39d5f57 ?_;rw[show(t:Int) -1=((t -1:Nat):Int) by omega];refine eS ⟨t -1,DO⟩ ?_;exact ar7
        ·have lL:Y*t<=eJ:=by
           rcases ha eJ (Y*t) with q|q
           ·rw[En q] at L8;omega
           ·exact q
         have Uu:t=eJ / Y:=Nat.le_antisymm ((Lw yJ).2 (by rw[hn];exact lL)) Uq;have aq9:eJ -Y*t=eJ % Y:=by
           have:=G' eJ Y;rw[<-Uu] at this;omega
         refine af 0xe084210e757 ?_;refine cl (G:=Wt (x:=t) Cw) (h:=?_);rintro v' m' P1 kG ⟨_,rfl,Cb⟩;have Cb:=Cb.hO;refine cl (G:=zD (abd.mono (cr.trans (fa.trans (ES.trans (ij.trans (l'.trans kG)))))) Cb aa (dT (kK (k:=1) (by rw[D3];exact Cw)) bI)) (h:=?_);rintro v' m' DP mW ⟨_,rfl,cZ⟩;refine cl (G:=adH (EW.mono (ES.trans (ij.trans (l'.trans (kG.trans mW))))) cZ.hO lL aa (dT (Om Cc Cw) bI)) (h:=?_);rintro ahx adP ah hle ⟨rfl,sE⟩;rw[aq9] at sE;refine af 0x309c1 ?_;refine' n4 ?hs ?_;case hs=>exact s7 (l:=d) (x:=t) (k -1) aa aa
         refine nh ?_;rw[Uu];have bn:k -1<=N/\e3.le DP/\(d.set (k -1) (eJ / Y)).length=N/\hh (d.set (k -1) (eJ / Y))/\bf ((d.set (k -1) (eJ / Y)).drop (k -1))=bf ((aq X).drop (k -1)) / Y/\dY 92 1 ahx (aq (bf ((aq X).drop (k -1)) % Y)).length (cc .u32 (aq (bf ((aq X).drop (k -1)) % Y))) adP:=⟨aa,cr.trans (fa.trans (ES.trans (ij.trans (l'.trans (kG.trans mW))))),by rw[hy];exact rE,OF abz (by rw[<-Uu];exact Cw),b3.1,by rw[<-b3.2];exact sE⟩;refine af 0x1810c39 ?_;refine eS ⟨k -1,d.set (k -1) (eJ / Y),ahx,adP,DP⟩ ?_ (hm:=(iC _).append (DV _ _));exact bn
   ·obtain rfl:k=0:=aa
    rw[iD,iD,h0] at Th;rw[iD,h0] at c1;obtain⟨R,dU⟩:∃R,R=X % Y:=⟨_,I⟩;rw[<-dU] at c1;have apl:(aq R).length<=60001:=dT (p2 (G8 (by rw[dU];exact lh _ yJ))) Cc;obtain⟨fD,fZ,rfl⟩:=c1.tD;have St:dZ .u32 cv _ (aq f):=IC.mono cr;rw[ao2] at St;have ao3:∃b c,az6=.slice b 1 c:=St.form;obtain⟨aB5,aCe,rfl⟩:=ao3;obtain⟨aBW,avl,ale,aCT,rfl,aDc,asl⟩:=St.eG Nat.one_pos;have aEa:nth ale (avl+(0:Int).toNat*1)=some (.int .u32 (f:Int)):=asl 0 f I;refine af 0x1abe0432873816757 ?_;refine dV [(14,.int .i64 ((((aq R).length):Int) -1)),(13,.int .u64 ((0):Int)),(4,_),(5,_),(6,_)] ?_;refine bp ?_;refine' aK.bK (fun(b8:Nat×Nat×(List Nat)×aJ)=>match b8 with|(j,c,L,AO)=>⟨[(14,.int .i64 ((j:Int) -1)),(13,.int .u64 (c:Int))],AO++[pF .u32 92 Hi d],cv,j<=(aq R).length/\L.length=(aq R).length/\hh L/\L.take j=(aq R).take j/\bf (L.drop j)=bf ((aq R).drop j) / f/\c=bf ((aq R).drop j) % f/\dY 92 1 (.slice fD (aq R).length fZ) L.length (cc .u32 L) AO,j⟩) ⟨(aq R).length,0,aq R,aS⟩ ?hs ?bn
    case hs=>exact⟨b2 _,I,k5 R,I,by rw[XQ];exact(Nat.zero_div f).symm,by rw[XQ];exact(Nat.zero_mod f).symm,c1⟩
    case bn=>
     rintro⟨j,c,L,AO⟩ hinv;try simp only at hinv
     obtain⟨aW,SB,MW,aaY,SA,ax,abi⟩:=hinv;refine af 0x17c1039 ?_;refine If (fun aj8=>?_) fun aj8=>?_
     ·obtain⟨z,aR⟩:∃z,(aq R)[j -1]?=some z:=⟨_,cU aa⟩;have asJ:L[j -1]?=some z:=by
       have aF:(L.take j)[j -1]?=L[j -1]?:=P6 aa;have aV:((aq R).take j)[j -1]?=(aq R)[j -1]?:=P6 aa;rw[<-aF,aaY,aV,aR]
      have AH:=uq (k5 R) aR;obtain⟨cN,full,rest,bE,rfl,jd,E4⟩:=abi.row aa;injection bE with bE ct gP
      subst bE;subst gP;have ard:nth full (0+((j:Int) -1).toNat*1)=some (.int .u32 (z:Int)):=by
       rw[Vx jd aa];exact uo asJ aa
      have Nb:c<f:=by rw[ax];exact lh _ Cl
      obtain⟨s,hs⟩:∃s,s=z+1000000000*c:=⟨_,I⟩;have Uh:(c:Int)*1000000000+(z:Int)=(s:Int):=aa
      have xj:s<1000000000000000000:=aa
      have I1:s / f<1000000000:=by rw[hs];exact amb AH Nb
      have Ci:(s:Int).tdiv (f:Int)=((s / f:Nat):Int):=(uK s f).symm;have yW:(s:Int).tmod (f:Int)=((s % f:Nat):Int):=(DN s f).symm;have ast:IntKind.u64.wrap ((s / f:Nat):Int)=((s / f:Nat):Int):=wrap_u64 (sc _) aa;have aF:j -1+1=j:=aa
      have b3:=afi (d:=L) Cl aR aa (by rw[aF];exact ax) (by rw[aF];exact SA) hs;have ar8:j -1<=(aq R).length/\(L.set (j -1) (s / f)).length=(aq R).length/\hh (L.set (j -1) (s / f))/\(L.set (j -1) (s / f)).take (j -1)=(aq R).take (j -1)/\bf ((L.set (j -1) (s / f)).drop (j -1))=bf ((aq R).drop (j -1)) / f/\s % f=bf ((aq R).drop (j -1)) % f/\dY 92 1 (.slice (some ⟨cN,0,none⟩) (aq R).length cK) (L.set (j -1) (s / f)).length (cc .u32 (L.set (j -1) (s / f))) [(cN,.opn (full.set (j -1) (.int .u32 ((s / f:Nat):Int))) 92 [] 0)]:=⟨aa,by rw[hy];exact SB,OF MW I1,by
       rw[Qa (b2 _)];have aN:(L.take j).take (j -1)=L.take (j -1):=by rw[qq,gv aa]
       have aH:((aq R).take j).take (j -1)=(aq R).take (j -1):=by rw[qq,gv aa]
       rw[<-aN,<-aH,aaY],b3.1,b3.2,by
       rw[<-SB];exact dY.put jd E4 I aa⟩
      refine af 0x6043724c108c39d5f57 ?_;rw[Uh];refine af 0xf724c108439 ?_;rw[Ci,ast];refine hA V.i' ?_;rw[show IntKind.u32.wrap ((s / f:Nat):Int)=((s / f:Nat):Int) from wrap_u32 (sc _) aa];refine hA V.dM ?_;refine' W.step I (.of (GA I I I I (o6 I) I I I ?ae ?hs ?aR ?ap ?_));case ap=>exact .refl _
      case hs=>exact agf aa
      case ae=>rfl
      case aR=>exact c6 _
      refine nh ?_;rw[show 0+((j:Int) -1).toNat*1=j -1 by omega];refine af 0x1813dc930439 ?_;rw[yW];refine af 0x1810c39 ?_;refine eS ⟨j -1,s % f,L.set (j -1) (s / f),[(cN,.opn (full.set (j -1) (.int .u32 ((s / f:Nat):Int))) 92 [] 0)]⟩ ?_;exact ar8
     ·obtain rfl:j=0:=aa
      rw[iD,iD,h0] at SA;refine dY.k7 abi (.refl _) fun Lf rI apn=>?_;refine aK.k8 I fun kb=>?_;have arG:bf d=x / y:=by rw[Th,eO,kD,Ya _ _ Cl]
      have arP:bf L=x % y:=by rw[SA,dU,eO,kD,aiK,wv _ Cl]
      have yI:fg (Lf.add Hi (cc .u32 d,92)) 92 1 (.slice (some ⟨Hi,0,none⟩) N N) d.length (cc .u32 d):=by
       rw[<-rE];exact .row (ai.lC _ _ _) (by rw[iD,jr];exact ft (by rw[vL];exact b2 _)) (by rw[vL,jr]) (fun _=>⟨b2 _,Of aa⟩) (fun q=>absurd q (Ha (Of aa)))
      refine af 0xe757 ?_;refine cl (G:=KH (l:=d) yI abz aa) (h:=?_);rintro v' m' ah hle ⟨rfl,rfl,gn⟩;rw[arG] at gn;refine hA V.eC ?_;refine cl (G:=KH (l:=L) (fg.mono kb apn) MW aa) (h:=?_);rintro v' m' ah hle ⟨rfl,rfl,du⟩;rw[arP] at du;refine af 0x1abe042 ?_;refine b4 ?_
      exact⟨a8.trans (bN.trans (cQ.trans (cr.trans (rI.trans kb)))),I,_,_,I,gn.hO,du.hO⟩
def Rn{v w:Value}{x y:Nat}(ae:ei J v x)(ag:ei J w y)(tO:(aq x).length<=60000)(pZ:(aq y).length<=60000):Fn (aU Q g0) 35 [v,w] [] J (fun u m' ah=>J.le ah/\m'=[]/\ei ah u (Nat.gcd x y)):=by
 have lI:dZ .u32 J v (aq x):=ae;have kZ:dZ .u32 J w (aq y):=ag;obtain⟨bc,bb,rfl⟩:=lI.form;obtain⟨bl,bt,rfl⟩:=kZ.form;refine Fn.b9 (b1 Tryz.func35) I I fun H=>?_;refine af 0x1abe059 ?_;refine dV [(0,.slice (bc) (aq (x)).length (bb)),(1,.slice (bl) (aq (y)).length (bt))] ?_;refine bp ?_;refine' aK.bK (fun(b8:Nat×Nat×(Option Addr)×(Option Addr)×Nat×Nat×ai)=>match b8 with|(a,b,QL,ni,st,HJ,cv)=>⟨[(0,.slice QL (aq a).length st),(1,.slice ni (aq b).length HJ)],[],cv,J.le cv/\ei cv (.slice QL (aq a).length st) a/\ei cv (.slice ni (aq b).length HJ) b/\(aq a).length<=60000/\(aq b).length<=60000/\Nat.gcd a b=Nat.gcd x y,b⟩) ⟨x,y,bc,bl,bb,bt,J⟩ ?hs ?bn
 case hs=>exact⟨ai.le.refl _,ae,ag,tO,pZ,I⟩
 case bn=>
  rintro⟨a,b,QL,ni,st,HJ,cv⟩ hinv;try simp only at hinv
  obtain⟨cr,gn,du,sS,xc,aB⟩:=hinv;refine af 0x2f821439 ?_;refine If (fun eZ=>?_) fun eZ=>?_
  ·have jI:b≠0:=Oa aa;have Nn:a % b<b:=lh _ aa;refine af 0x439d5f57 ?_;refine cl (G:=VQ gn du jI sS xc) (h:=?_);rintro v' m' bj hle ⟨a8,rfl,bE,ct,rfl,b3,ar⟩;have dL:dZ .u32 bj ct (aq (a % b)):=ar;obtain⟨dp,eA,rfl⟩:=dL.form;refine af 0xc08410e70211ce1 ?_;have bn:J.le bj/\ei bj (.slice ni (aq b).length HJ) b/\ei bj (.slice dp (aq (a % b)).length eA) (a % b)/\(aq b).length<=60000/\(aq (a % b)).length<=60000/\Nat.gcd b (a % b)=Nat.gcd x y:=⟨cr.trans a8,du.mono a8,ar,xc,dT (p2 (G8 Nn)) xc,by
    rw[<-aB,uQ a b,G5 b a,uQ (a % b) b]⟩
   refine eS ⟨b,a % b,ni,dp,HJ,eA,bj⟩ ?_;exact bn
  ·have jI:b=0:=by
    rcases oC b with q|q
    ·exact q
    ·have:=ze (jP q);omega
   rw[jI,G6] at aB;refine af 0xd5f020e757 ?_;refine b4 ?_;exact⟨cr,I,by rw[<-aB];exact gn⟩
def oZ{x y j k:Nat}(U:(aq x).length<=j)(an:(aq y).length<=k):(aq (x*y)).length<=j+k:=by
 refine kK ?_;rw[sk];exact aiI (ud U) (G8 (ud an)) (wy bI)
def N9{x y k:Nat}(U:(aq x).length<=k)(an:(aq y).length<=k):(aq (x+y)).length<=k+1:=by
 refine kK ?_;have ae:=ud U;have ag:=ud an;rw[lz];omega
def ei.Dq{J ah:ai}{v:Value}{x y:Nat}(h:ei J v x)(h4:ei ah v y)(hle:J.le ah):x=y:=by
 have e:aq x=aq y:=dZ.Dq h h4 hle;rw[<-h0 x,<-h0 y,e]
def ei.Dr{J ah:ai}{v w:Value}{x y:Nat}(h:ei J v x)(h4:ei ah w y)(hle:J.le ah)(e:v=w):x=y:=by subst e;exact h.Dq h4 hle
def qv.hs{J qo:ai}{x hT:Nat}(hle:qo.le J)(eU:hT=x){a1:aJ}(hm:a1=[]):a1=[]/\qo.le J/\∀v m' bj c3,qv qo hT v m' bj->bj.le c3->J.le c3->qv J x v m' c3:=
 ⟨hm,hle,fun v m' bj c3 ⟨_,ag,aE⟩ a6 dK=>⟨dK,ag,eU▸aE.mono a6⟩⟩
abbrev yb(J:ai)(r:a2):Value->aJ->ai->Prop:=fun u m' ah=>J.le ah/\m'=[]/\∃v1 v2,u=di r v1 v2/\hz ah r v1 v2
def aeq{z:Int}{d:Nat}(av:0<d):(a4 z d).z.natAbs=z.natAbs / Nat.gcd z.natAbs d/\(a4 z d).d=d / Nat.gcd z.natAbs d:=by
 obtain⟨g,e,q,aB,he,aR,I2,_,aA,Cm⟩:=AU (z:=z) av;rw[aA,<-Cm];refine⟨?_,?_⟩
 ·rw[aR,kT,gR,BA _ aB]
 ·rw[I2,BA _ aB]
def adn{J:ai}{a:Nat}{e:TypeId}(h:J a=some ([.int .u32 1],e)):ei J (.slice (some ⟨a,0,none⟩) 1 1) 1:=by
 show dZ .u32 J _ (aq 1);rw[JQ (x:=1) bI bI];exact⟨e,.row h I I (fun _=>⟨b2 _,Kf⟩) (fun q=>absurd q (Ha Kf))⟩
def awM{a b:Int}{d e x y:Nat}{z:Int}(av:0<d)(he:0<e)(U:x=a.natAbs*e)(an:y=b.natAbs*d)(aR:z=a*e+b*d):
 ((a<0↔b<0)->z.natAbs=x+y/\(z≠0->(a<0↔z<0)))/\(¬(a<0↔b<0)->(y<=x->z.natAbs=x -y/\(z≠0->(a<0↔z<0)))/\(x<y->z.natAbs=y -x/\(z≠0->(b<0↔z<0)))):=by
 have ae:(a*(e:Int)).natAbs=x:=by rw[kT,gR,U]
 have ag:(b*(d:Int)).natAbs=y:=by rw[kT,gR,an]
 have s1:a<0↔a*(e:Int)<0:=⟨fun h=>DK h aa,fun h=>by
  rcases wg a 0 with q|q
  ·exact q
  ·have:=DL q (show(0:Int)<=(e:Int) by omega);omega⟩
 have s2:b<0↔b*(d:Int)<0:=⟨fun h=>DK h aa,fun h=>by
  rcases wg b 0 with q|q
  ·exact q
  ·have:=DL q (show(0:Int)<=(d:Int) by omega);omega⟩
 rw[s1,s2];generalize a*(e:Int)=X at*;generalize b*(d:Int)=Y at*;refine⟨fun h=>⟨aa,fun aA=>by omega⟩,fun h=>⟨fun k=>⟨aa,fun aA=>by omega⟩,fun k=>⟨aa,fun aA=>by omega⟩⟩⟩
def FJ{neg:Bool}{v w:Value}{z:Int}{n d:Nat}(av:0<d)(aR:z.natAbs=n)(Jg:z≠0->neg=decide (z<0))(ae:ei J v n)(ag:ei J w d)(tO:(aq n).length<=60000)(pZ:(aq d).length<=60000):Fn (aU Q g0) 37 [.bool neg,v,w] [] J (yb J (a4 z d)):=by
 subst aR;have lI:dZ .u32 J v (aq z.natAbs):=ae;have kZ:dZ .u32 J w (aq d):=ag;obtain⟨bc,bb,rfl⟩:=lI.form;obtain⟨bl,bt,rfl⟩:=kZ.form;obtain⟨Jb,I'⟩:=aeq (z:=z) av;refine Fn.b9 (b1 Tryz.func37) I I fun H=>?_;refine rg ?_;refine eu fun ef=>?_;refine af 0x5f0428738 ?_;refine If (fun dt=>?_) fun dt=>?_
 ·have jw:z=0:=by
   rcases oC z.natAbs with q|q
   ·omega
   ·have:=ze (jP q);omega
  refine rg ?_;refine jG fun l1=>?_;refine W.eG I fun a8 w5=>?_;refine af 0x1abe390 ?_;refine b4 ?_
  exact⟨a8,I,.slice none 0 0,_,by rw[jw,xG av];rfl,by rw[jw,xG av];exact aej,by rw[jw,xG av];exact adn w5⟩
 ·have jw:z≠0:=fun q=>by
   rw[q] at dt;rw[show(0:Int).natAbs=0 from I,m1] at dt;exact dt I
  have kH:0<z.natAbs:=aa
  refine af 0x10e757 ?_;refine cl (G:=Rn ae ag tO pZ) (h:=?_);rintro v' m' bj hle ⟨a8,rfl,aB⟩;have yR:(aq (Nat.gcd z.natAbs d)).length<=60000:=dT (p2 (Nat.gcd_le_left d kH)) tO;have tJ:Nat.gcd z.natAbs d≠0:=jP (wq _ av);refine af 0x10e702 ?_;refine cl (G:=VQ (ae.mono a8) aB tJ tO yR) (h:=?_);rintro v' m' c3 hle ⟨bN,rfl,bE,ct,rfl,jU,nt⟩;rw[<-Jb] at jU;obtain⟨fD,fZ,rfl,fH⟩:=jU.ch;refine af 0x873811ce1 ?_;refine cl (G:=VQ ((ag.mono a8).mono bN) (aB.mono bN) tJ pZ yR) (h:=?_);rintro v' m' e3 hle ⟨cQ,rfl,gP,Bl,rfl,lq,nu⟩;rw[<-I'] at lq;obtain⟨ev,dJ,rfl,hS⟩:=lq.ch;refine af 0x357c72010873811ce1 ?_;refine b4 ?_
  exact⟨a8.trans (bN.trans cQ),I,.slice fD _ fZ,.slice ev _ dJ,by rw[Jg jw,<-u3.2 (Oz (z:=z) av).2.1];rfl,jU.mono cQ,lq⟩
def dY.vQ{g0:Nat}{B:dN}{J:ai}{H:aw}{e:TypeId}{sz k:Nat}{v:Value}{cells:List Value}{aS:aJ}(h:dY e sz v k cells aS)(aD:Inv g0 B J aS H):∃ah,J.le ah/\Inv g0 B ah [] H/\fg ah e sz v k cells:=by
 rcases oC k with rfl|hk
 ·rcases h with⟨h,aR,aA⟩|⟨a,full,rest,rfl,rfl,aE,a6,dK⟩
  ·cases h with
   |nil=>exact⟨J,ai.le.refl _,aD,.nil⟩
   |kA a=>exact⟨J,ai.le.refl _,aD,.kA _ _ _ bI⟩
   |opn ae ag=>
    obtain⟨aX,aT⟩:=aD.k8 (x:=(_,e)) I;exact⟨_,aT,aX,.row (ai.lC _ _ _) (by rw[nM] at ae ⊢;rw[mQ ae];rfl) ae (fun q=>absurd I q) (fun _=>rfl)⟩
   |cap=>exact absurd (.head _) (aA _ _ _)
  ·obtain⟨aX,aT⟩:=aD.k8 (x:=(full,e)) I
   exact⟨_,aT,aX,.row (ai.lC _ _ _) (by rw[iD];exact a6) (by rw[<-a6,eL];omega) (fun q=>absurd I q) (fun _=>rfl)⟩
 ·obtain⟨a,full,rest,rfl,rfl,a6,aE⟩:=h.row hk
  obtain⟨aX,aT⟩:=aD.k8 (x:=(full,e)) I;exact⟨_,aT,aX,.row (ai.lC _ _ _) (by rw[iD];exact a6) (by rw[<-a6,eL];omega) (fun q=>absurd I q) (fun _=>rfl)⟩
def xP(z:Int):Int:=if z=0 then 0 else if z<0 then -1 else 1
def ays{z:Int}:xP z<=0↔z<=0:=by unfold xP;split<;>(try split)<;>omega
def adJ{v w:Value}{x y:Nat}(ae:ei J v x)(ag:ei J w y)(eU:y<=x)(aj:(aq x).length<=200000)(pZ:(aq y).length<=200000):Fn (aU Q g0) 40 [v,w] [] J (qv J (x -y)):=fun H aD=>by
 obtain⟨u,H',ah,m',aX,aT,rfl,sE⟩:=adH ae ag eU aj pZ H aD;obtain⟨c3,aN,aH,bo⟩:=sE.vQ aT;exact⟨u,H',c3,[],aX,aH,aN,I,bo⟩
def VW{r s:a2}{x y:Bool}{v1 v2 bE ct:Value}(apW:x=decide (r.z<0))(iR:y=decide (s.z<0))(ar:hz J r v1 v2)(hs:hz J s bE ct)(rd:0<r.d)(iM:0<s.d)(eR:(aq r.z.natAbs).length<=20000)(eo:(aq r.d).length<=20000)(kJ:(aq s.z.natAbs).length<=20000)(m0:(aq s.d).length<=20000):Fn (aU Q g0) 14 [.agg #[.bool x,v1,v2],.agg #[.bool y,bE,ct]] [] J (yb J (a4 (r.z*s.d+s.z*r.d) (r.d*s.d))):=by
 subst apW;subst iR
 have dL:=ar;have gL:=hs;obtain⟨bc,bb,rfl,aN⟩:=ar.n.ch;obtain⟨bl,bt,rfl,aH⟩:=ar.d.ch;obtain⟨b0,cE,rfl,bo⟩:=hs.n.ch;obtain⟨dp,eA,rfl,db⟩:=hs.d.ch;obtain⟨X,eO⟩:∃X,X=r.z.natAbs*s.d:=⟨_,I⟩;obtain⟨Y,kD⟩:∃Y,Y=s.z.natAbs*r.d:=⟨_,I⟩;obtain⟨D,dS⟩:∃D,D=r.d*s.d:=⟨_,I⟩;obtain⟨Z,sF⟩:∃Z,Z=r.z*s.d+s.z*r.d:=⟨_,I⟩;have UU:(aq X).length<=40000:=by rw[eO];exact oZ eR m0
 have ac':(aq Y).length<=40000:=by rw[kD];exact oZ kJ eo
 have UT:(aq D).length<=40000:=by rw[dS];exact oZ eo m0
 have aEW:(aq (X+Y)).length<=40001:=N9 UU ac';have aEX:(aq (X -Y)).length<=40000:=dT (p2 (Nat.sub_le _ _)) UU;have aEY:(aq (Y -X)).length<=40000:=dT (p2 (Nat.sub_le _ _)) ac';have Ar:0<D:=by rw[dS];exact ib rd iM
 obtain⟨dj,ht⟩:=awM rd iM eO kD sF;rw[<-sF,<-dS];refine Fn.b9 (b1 Tryz.func14) I I fun H=>?_;refine rg ?_;refine fq fun br=>?_;refine fq fun bG=>?_;refine eu fun cD=>?_;refine ns ?_;refine aK.draw I (by kernel_rfl) (a0:=[.val 0,.val 1,.val 2,.val 3,.val 5,.val 6,.val 7,.val 8,.val 10,.val 11,.val 12,.val 13,.bw 4,.b6 [13,12,11,10,8,7,6,5],.bw 9,.b6 [13,12,11,10],.bw 14,.val 15,.val 16,.val 17]) (by kernel_rfl) ?_;refine af 0x1e5354d5354d5354d ?_;refine' bB.ej I I I I I I I I I ec (zD dL.n gL.d aa aa) ?_;rintro v' m' bj a8 ⟨_,rfl,gn⟩;have jh:=gn.hO;obtain⟨fD,fZ,rfl,fH⟩:=jh.ch;refine bB.b6 eN ?_;refine' bB.ej I I I I I I I I I (dF (fun _ aI=>qv.hs a8 (by rw[dL.n.Dr (gL.n.mono a8) a8 (ot aI).1,gL.d.Dr (dL.d.mono a8) a8 (ot aI).2]) I) ec) (zD (gL.n.mono a8) (dL.d.mono a8) aa aa) ?_;rintro v' m' c3 bN ⟨_,rfl,du⟩;have k0:=du.hO;obtain⟨ev,dJ,rfl,hS⟩:=k0.ch;refine bB.b6 eN ?_;refine' bB.ej I I I I I I I I I (dF (fun _ aI=>qv.hs bN (by rw[(gL.n.mono a8).Dr ((dL.d.mono a8).mono bN) bN (ot aI).1,(dL.d.mono a8).Dr ((gL.d.mono a8).mono bN) bN (ot aI).2]) I) (dF (fun _ aI=>qv.hs (a8.trans bN) (by rw[dL.n.Dr ((dL.d.mono a8).mono bN) (a8.trans bN) (ot aI).1]) I) ec)) (zD ((dL.d.mono a8).mono bN) ((gL.d.mono a8).mono bN) aa aa) ?_;rintro v' m' e3 cQ ⟨_,rfl,l6⟩;have EQ:=l6.hO;obtain⟨gH,eY,rfl,mI⟩:=EQ.ch;rw[<-eO] at jh;rw[<-kD] at k0;rw[<-dS] at EQ;have jh:=(jh.mono bN).mono cQ;have k0:=k0.mono cQ;rw[<-eO,<-kD,<-dS];refine af 0x181085e ?_;refine fc [2,3,4,5,6,7] ?_
 refine bp ?_;refine' aK.hp 0 [(27,.bool (decide (((r.z<0)↔(s.z<0)))))] ?u2 ?u5;case u2=>
  refine af 0xa6a9ba ?_;refine' W.step I (Exec.val I I (Bj I I I (.inl ⟨I,I⟩) (by kernel_rfl)) ?_);refine nh ?_;refine ho (hC ?_);((by_cases a:r.z<0<;>by_cases b:s.z<0<;>simp[a,b]))
 case u5=>
  refine bp ?_;refine If (fun ll=>?_) fun ll=>?_
  ·have p:=dj ll;refine bp ?_;refine aK.draw I (by kernel_rfl) (a0:=[.val 0,.val 1,.val 2,.val 3,.val 5,.bw 4,.b6 [5,1,0],.bw 6,.bw 7]) (by kernel_rfl) ?_;refine af 0x3c10854d ?_;refine' bB.ej I I I I I I I I I ec (awL jh k0 aa aa) ?_;rintro v' m' lx fa ⟨_,rfl,au⟩;have w6:=au.hO;obtain⟨iy,gm,rfl,o4⟩:=w6.ch;refine bB.b6 eN ?_;refine' bB.ej I I I I I I I I I (dF (e5 I) ec) (FJ (z:=Z) Ar p.1 (fun h=>u3.2 (p.2 h)) w6 (EQ.mono fa) aa aa) ?_;rintro v' m' nJ fk ⟨_,rfl,dH,eP,rfl,bC⟩;have cS:=bC;obtain⟨g3,eZ,rfl,m4⟩:=bC.n.ch;obtain⟨iP,dt,rfl,mh⟩:=bC.d.ch;refine af 0x1abe39e ?_;refine b4 ?_;exact⟨a8.trans (bN.trans (cQ.trans (fa.trans fk))),I,_,_,I,cS⟩
  ·have ae3:=ht ll;refine af 0x10e757 ?_;refine cl (G:=VP jh k0 aa) (h:=?_);rintro v' m' ah hle ⟨rfl,rfl,rfl⟩;refine af 0x5f04 ?_;refine If (fun Eh=>?_) fun Eh=>?_
   ·have ln:Y<=X:=by
      rcases ha X Y with q|q
      ·rw[Em q] at Eh;omega
      ·exact q
    have p:=ae3.1 ln;refine bp ?_;refine aK.draw I (by kernel_rfl) (a0:=[.val 0,.val 1,.val 2,.val 3,.val 5,.bw 4,.b6 [5,1,0],.bw 6,.bw 7]) (by kernel_rfl) ?_;refine af 0x3c10854d ?_;refine' bB.ej I I I I I I I I I ec (adJ jh k0 ln aa aa) ?_;rintro v' m' lx fa ⟨_,rfl,au⟩;have w6:=au.hO;obtain⟨iy,gm,rfl,o4⟩:=w6.ch;refine bB.b6 eN ?_;refine' bB.ej I I I I I I I I I (dF (e5 I) ec) (FJ (z:=Z) Ar p.1 (fun h=>u3.2 (p.2 h)) w6 (EQ.mono fa) aa aa) ?_;rintro v' m' nJ fk ⟨_,rfl,dH,eP,rfl,bC⟩;have cS:=bC;obtain⟨g3,eZ,rfl,m4⟩:=bC.n.ch;obtain⟨iP,dt,rfl,mh⟩:=bC.d.ch;refine af 0x1abe39e ?_;refine b4 ?_;exact⟨a8.trans (bN.trans (cQ.trans (fa.trans fk))),I,_,_,I,cS⟩
   ·have cI:X<Y:=by
      rcases ha X Y with q|q
      ·exact q
      ·exfalso
       rcases uP q with q|q
       ·rw[Mk q.symm] at Eh;omega
       ·rw[En q] at Eh;omega
    have p:=ae3.2 cI;refine af 0x5f57 ?_;refine aK.draw I (by kernel_rfl) (a0:=[.val 0,.val 1,.val 2,.val 3,.val 5,.bw 4,.b6 [5,1,0],.bw 6,.bw 7]) (by kernel_rfl) ?_;refine af 0x3c10854d ?_;refine' bB.ej I I I I I I I I I ec (adJ k0 jh (G8 cI) aa aa) ?_;rintro v' m' lx fa ⟨_,rfl,au⟩;have w6:=au.hO;obtain⟨iy,gm,rfl,o4⟩:=w6.ch;refine bB.b6 eN ?_;refine' bB.ej I I I I I I I I I (dF (e5 I) ec) (FJ (z:=Z) Ar p.1 (fun h=>u3.2 (p.2 h)) w6 (EQ.mono fa) aa aa) ?_;rintro v' m' nJ fk ⟨_,rfl,dH,eP,rfl,bC⟩;have cS:=bC;obtain⟨g3,eZ,rfl,m4⟩:=bC.n.ch;obtain⟨iP,dt,rfl,mh⟩:=bC.d.ch;refine af 0x1abe39e ?_;refine b4 ?_;exact⟨a8.trans (bN.trans (cQ.trans (fa.trans fk))),I,_,_,I,cS⟩
def adI{r:a2}{v1 v2:Value}(ar:hz J r v1 v2):Fn (aU Q g0) 16 [di r v1 v2] [] J (fun u m' ah=>u=di ⟨-r.z,r.d⟩ v1 v2/\m'=[]/\J=ah):=by
 obtain⟨bc,bb,rfl,aN⟩:=ar.n.ch;obtain⟨bl,bt,rfl,aH⟩:=ar.d.ch;refine Fn.b9 (b1 Tryz.func16) I I fun H=>?_;refine rg ?_;refine fq fun ba=>?_;refine eu fun br=>?_;refine af 0x3153738 ?_;refine eX 6 (fun jT=>?_) fun jT=>?_
 ·refine af 0x357c7179c71a82154d ?_;refine b4 ?_
  exact⟨dh (fun b=>Value.agg #[.bool b,.slice bc _ bb,.slice bl _ bt]) (show decide (0<((aq r.z.natAbs).length:Int))=decide (-r.z<0) from u3.2 ⟨fun h=>by have:=Oa (x:=r.z.natAbs) aa;omega,fun h=>by have:=ze (x:=r.z.natAbs) aa;omega⟩),I,I⟩
 ·refine af 0x357c7179c71a8def7b ?_;refine b4 ?_
  exact⟨dh (fun b=>Value.agg #[.bool b,.slice bc _ bb,.slice bl _ bt]) (show false=decide (-r.z<0) from(g5 aa).symm),I,I⟩
def awa{r s:a2}{v1 v2 bE ct:Value}(ar:hz J r v1 v2)(hs:hz J s bE ct)(rd:0<r.d)(iM:0<s.d)(eR:(aq r.z.natAbs).length<=20000)(eo:(aq r.d).length<=20000)(kJ:(aq s.z.natAbs).length<=20000)(m0:(aq s.d).length<=20000):Fn (aU Q g0) 17 [di r v1 v2,di s bE ct] [] J (fun u m' ah=>J.le ah/\m'=[]/\u=.int .i64 (xP (r.z*s.d -s.z*r.d))):=by
 have dL:=ar;have gL:=hs;obtain⟨bc,bb,rfl,aN⟩:=ar.n.ch;obtain⟨bl,bt,rfl,aH⟩:=ar.d.ch;obtain⟨b0,cE,rfl,bo⟩:=hs.n.ch;obtain⟨dp,eA,rfl,db⟩:=hs.d.ch;have Ar:0<r.d*s.d:=ib rd iM;have TT:hz J (⟨-s.z,s.d⟩:a2) (.slice b0 (aq s.z.natAbs).length cE) (.slice dp (aq s.d).length eA):=⟨by show ei J _ (-s.z).natAbs;rw[zQ];exact gL.n,gL.d⟩;have atN:(aq (-s.z).natAbs).length<=20000:=by rw[zQ];exact kJ
 obtain⟨Z,sF⟩:∃Z,Z=r.z*s.d+-s.z*r.d:=⟨_,I⟩;have apv:r.z*s.d -s.z*r.d=Z:=by rw[sF,GP,P0]
 rw[apv];have lp:=Oz (z:=Z) Ar;refine Fn.b9 (b1 Tryz.func17) I I fun H=>?_;refine rg ?_;refine fq fun br=>?_;refine fq fun bG=>?_;refine af 0x5f02 ?_;refine aK.draw I (by kernel_rfl) (a0:=[.iF 4,.val 0,.val 1,.bw 2,.b6 [0],.bw 3,.bw 5]) (by kernel_rfl) ?_;refine bX.alloc I I I I I (Pr I) I I I fun cN=>?_;refine af 0x796b ?_;refine' bB.ej I I I I I I I I I ec (adI gL) ?_;rintro v' m' ah hle ⟨rfl,rfl,rfl⟩;refine bB.b6 eN ?_;refine' bB.ej I I I I I I I I I (dF (e5 I) ec) (VW (s:=⟨-s.z,s.d⟩) I I dL TT rd iM eR eo atN m0) ?_;rintro v' m' bj a8 ⟨_,rfl,dH,eP,rfl,bC⟩;rw[show r.z*((⟨-s.z,s.d⟩:a2).d:Int)+(⟨-s.z,s.d⟩:a2).z*r.d=Z from sF.symm,show r.d*(⟨-s.z,s.d⟩:a2).d=r.d*s.d from I] at bC ⊢;have cS:=bC;obtain⟨g3,eZ,rfl,m4⟩:=bC.n.ch;obtain⟨iP,dt,rfl,mh⟩:=bC.d.ch;refine af 0x17c08855373abe39e ?_;refine If (fun dt=>?_) fun dt=>?_
 ·have aR:(a4 Z (r.d*s.d)).z=0:=by
   rcases oC (a4 Z (r.d*s.d)).z.natAbs with q|q
   ·omega
   ·have:=ze (jP q);omega
  refine af 0x1abe059 ?_;refine b4 ?_
  exact⟨a8,I,by rw[lp.2.2.1 aR];rfl⟩
 ·have aR:(a4 Z (r.d*s.d)).z≠0:=fun q=>by
   rw[q] at dt;rw[show(0:Int).natAbs=0 from I,m1] at dt;exact dt I
  refine af 0x2f8129b9 ?_;refine If (fun gh=>?_) fun gh=>?_
  ·refine af 0x1abe059 ?_;refine b4 ?_
   have c:=gh
   exact⟨a8,I,by
    have ae:=mt lp.2.2.2 aR;have ag:=lp.2.1.1 c;unfold xP;rw[aG ae,aP ag];rfl⟩
  ·refine af 0x6af816757 ?_;refine b4 ?_
   have c:=gh
   exact⟨a8,I,by
    have ae:=mt lp.2.2.2 aR;have ag:=mt lp.2.1.2 c;unfold xP;rw[aG ae,aG ag];rfl⟩
end
structure bO where
 neg:Bool
 num:List Nat
 den:List Nat
open Classical in
def p3 (l:List Nat):Int:=if kQ l then 0 else 3
open Classical in
def o3 (n d:List Nat):Int:=if kQ n/\kQ d then(if d=[] then 6 else 0) else 3
open Classical in
def qb (x:bO):Int:=if o3 x.num x.den=0 then(if(x.num=[]/\x.neg=true)\/Nat.gcd (bf x.num) (bf x.den)≠1 then 3 else 0) else o3 x.num x.den
open Classical in
def nQ (x:bO):Int:=if qb x=0 then(if x.neg=true then 2 else 0) else qb x
def FV{l:List Nat}(h:kQ l):p3 l=0:=aP h
def J6{l:List Nat}(h:¬kQ l):p3 l=3:=aG h
def Oo{l:List Nat}(h:p3 l=0):kQ l:=by
 apply ox
 intro q;rw[J6 q] at h;cases h
def als{l:List Nat}{i x:Nat}(U:l[i]?=some x)(h:1000000000<=x):¬kQ l:=fun q=>by
 have:=q.1 x (dq U)
 omega
def alt{l:List Nat}{x:Nat}(aj:l.length≠0)(U:l[l.length -1]?=some x)(h:x=0):¬kQ l:=fun q=>q.2 x (by rw[x7];exact U) h
def Zq{l:List Nat}(h:∀z∈l.take l.length,z<1000000000)(aj:l.length≠0->∃x,l[l.length -1]?=some x/\x≠0):kQ l:=by
 rw[uM] at h
 refine⟨h,fun x U=>?_⟩
 rw[x7] at U
 by_cases q:l.length=0
 ·rw[mQ q] at U;cases U
 ·obtain⟨y,ae,ag⟩:=aj q
  rw[ae] at U;injection U with U;rw[<-U];exact ag
def agE{α:Type}{P:α->Prop}{l:List α}{i:Nat}{x:α}(h:∀z∈l.take i,P z)(U:l[i]?=some x)(ap:P x):∀z∈l.take (i+1),P z:=fun z aR=>by
 rw[ly,U] at aR
 rcases mm.1 aR with q|q
 ·exact h z q
 ·rw[Bu.1 q];exact ap
def awX{n d:List Nat}(h:p3 n≠0):o3 n d=p3 n:=by
 have ae:¬kQ n:=fun q=>h (FV q)
 rw[J6 ae];exact aG fun q=>ae q.1
def awW{n d:List Nat}(h:p3 d≠0):o3 n d=p3 d:=by
 have ae:¬kQ d:=fun q=>h (FV q)
 rw[J6 ae];exact aG fun q=>ae q.2
def awV{n d:List Nat}(ae:p3 n=0)(ag:p3 d=0)(h:d.length=0):o3 n d=6:=by
 unfold o3;rw[aP ⟨Oo ae,Oo ag⟩,aP (mQ h)]
def ae5{n d:List Nat}(ae:p3 n=0)(ag:p3 d=0)(h:d.length≠0):o3 n d=0:=by
 unfold o3;rw[aP ⟨Oo ae,Oo ag⟩,aG fun q=>h (by rw[q];rfl)]
def ae6{n d:List Nat}(h:o3 n d=0):kQ n/\kQ d/\bf d≠0:=by
 unfold o3 at h
 split at h
 ·next ae=>
  split at h
  ·cases h
  ·next ag=>exact⟨ae.1,ae.2,fun q=>ag (WU ae.2 q)⟩
 ·cases h
def afm{x:bO}(h:o3 x.num x.den≠0):qb x=o3 x.num x.den:=aG h
def O6{x:bO}(h:o3 x.num x.den=0)(ag:(x.num=[]/\x.neg=true)\/Nat.gcd (bf x.num) (bf x.den)≠1):qb x=3:=by unfold qb;rw[aP h,aP ag]
def V'{x:bO}(h:o3 x.num x.den=0)(ag:¬((x.num=[]/\x.neg=true)\/Nat.gcd (bf x.num) (bf x.den)≠1)):qb x=0:=by unfold qb;rw[aP h,aG ag]
def axw{x:bO}(h:qb x=0):kQ x.num/\kQ x.den/\bf x.den≠0/\Nat.gcd (bf x.num) (bf x.den)=1:=by
 by_cases q:o3 x.num x.den=0
 ·obtain⟨ae,ag,aE⟩:=ae6 q
  refine⟨ae,ag,aE,ox fun e=>?_⟩
  rw[O6 q (.inr e)] at h;cases h
 ·rw[afm q] at h;exact absurd h q
def Z0{x:bO}(h:qb x≠0):nQ x=qb x:=aG h
def ZY{x:bO}(h:qb x=0)(aA:x.neg=true):nQ x=2:=by unfold nQ;rw[aP h,aP aA]
def ZZ{x:bO}(h:qb x=0)(aA:x.neg=false):nQ x=0:=by unfold nQ;rw[aP h,aG (by rw[aA];exact Bool.false_ne_true)]
def bO.rt(x:bO):a2:=⟨(bf x.num:Int),bf x.den⟩
def yv{x:bO}(h:nQ x=0):x.neg=false/\x.num=aq (bf x.num)/\x.den=aq (bf x.den)/\x.rt.g9:=by
 by_cases q:qb x=0
 ·obtain⟨ae,ag,aE,a6⟩:=axw q
  refine⟨?_,ty ae,ty ag,Hb aE,a6⟩
  cases aA:x.neg with
  |false=>rfl
  |true=>rw[ZY q aA] at h;cases h
 ·rw[Z0 q] at h;exact absurd h q
def va:List bO->Int
 |[]=>0
 |x::l=>if nQ x=0 then va l else nQ x
def fF:List bO->Nat
 |[]=>1
 |x::l=>bf x.den*fF l
def shr(s:Nat)(x:bO):Nat:=bf x.num*(s / bf x.den)
def iq(l:List bO):List Nat:=l.map (shr (fF l))
def k6(l:List bO):Prop:=∀x∈l,nQ x=0
def KA(l:List bO):Prop:=∀x∈l,x.num.length<=4/\x.den.length<=4
def RZ{x:bO}{l:List bO}(h:nQ x=0):va (x::l)=va l:=aP h
def Ii:∀{l:List bO} {i:Nat} {x:bO},(∀y∈l.take i,nQ y=0)->l[i]?=some x->nQ x≠0->va l=nQ x
 |[],_,_,_,U,_=>by cases U
 |y::l,0,x,_,U,h=>by
  have e:y=x:=by injection U
  subst e
  exact aG h
 |y::l,i+1,x,aM,U,h=>by
  rw[RZ (aM y (by rw[G1];exact .head _))]
  exact Ii (fun z aR=>aM z (by rw[G1];exact .tail _ aR)) U h
def R0:∀{l:List bO},k6 l->va l=0
 |[],_=>rfl
 |x::l,h=>by rw[RZ (h x (.head _))];exact R0 fun y an=>h y (.tail _ an)
def Rl:∀{l:List bO} {x:bO},x∈l->bf x.den ∣ fF l
 |y::l,x,h=>by
  rcases fs.1 h with q|q
  ·rw[q];exact Nat.dvd_mul_right _ _
  ·exact DX (Rl q) (Nat.dvd_mul_left _ _)
def ry:∀{l:List bO},k6 l->0<fF l
 |[],_=>Nat.one_pos
 |x::l,h=>ib (yv (h x (.head _))).2.2.2.1 (ry fun y an=>h y (.tail _ an))
def aga{x:bO}{s:Nat}(h:nQ x=0)(av:bf x.den ∣ s)(hs:0<s):a4 (shr s x:Int) s=x.rt:=by
 obtain⟨_,_,_,ax⟩:=yv h
 refine(AV ax hs ?_).symm
 obtain⟨k,hk⟩:=av
 have aqh:0<bf x.den:=ax.1
 show((bf x.num:Nat):Int)*s=(shr s x:Int)*(bf x.den:Nat)
 unfold shr
 rw[hk,BA _ aqh]
 norm_cast
 rw[lY,hn k]
def Gf{l:List bO}(h:k6 l):(iq l).map (fun p:Nat=>a4 (p:Int) (fF l))=l.map bO.rt:=by
 unfold iq
 rw[rh]
 exact GX fun x U=>aga (h x U) (Rl U) (ry h)
def Rm:∀{l:List bO},k6 l->KA l->(aq (fF l)).length<=4*l.length+1
 |[],_,_=>kK bI
 |x::l,h,a6=>by
  have ae:=Rm (l:=l) (fun y an=>h y (.tail _ an)) fun y an=>a6 y (.tail _ an)
  have ag:=(yv (h x (.head _))).2.2.1
  have aE:(aq (bf x.den)).length<=4:=by rw[<-ag];exact(a6 x (.head _)).2
  have:=oZ aE ae
  rw[ks]
  exact dT this aa
def agt{k:Nat}:∀{ps:List Nat},(∀p∈ps,(aq p).length<=k)->(aq ps.sum).length<=k+ps.length
 |[],_=>by rw[List.sum_nil,m1];exact c6 _
 |p::ps,h=>by
  have ae:=agt (k:=k) (ps:=ps) fun q b3=>h q (.tail _ b3)
  rw[lg,ks]
  exact N9 (k:=k+ps.length) (dT (h p (.head _)) (X7 _ _)) ae
def ayA{l:List bO}(h:k6 l)(a6:KA l):∀p∈iq l,(aq p).length<=4*l.length+5:=fun p ap=>by
 obtain⟨x,U,rfl⟩:=lf.1 ap
 have ag:=(yv (h x U)).2.1
 have aE:(aq (bf x.num)).length<=4:=by rw[<-ag];exact(a6 x U).1
 have dK:(aq (fF l / bf x.den)).length<=4*l.length+1:=dT (p2 (si _ _)) (Rm h a6)
 exact dT (oZ aE dK) aa
def q8(l:List bO):(iq l).length=l.length:=e9 _
def ax8{l:List bO}(h:k6 l)(a6:KA l):(aq (iq l).sum).length<=5*l.length+5:=by
 have:=agt (ayA h a6)
 rw[q8] at this;omega
def m7 (l:List bO):Int:=if l.length<1\/10<l.length then 3 else if va l=0 then(if(iq l).sum=fF l then 0 else 14) else va l
def afD{l:List bO}(h:l.length<1\/10<l.length):m7 l=3:=aP h
def Wc{l:List bO}(h:¬(l.length<1\/10<l.length))(ag:va l≠0):m7 l=va l:=by unfold m7;rw[aG h,aG ag]
def afE{l:List bO}(h:¬(l.length<1\/10<l.length))(ag:k6 l)(aE:(iq l).sum≠fF l):m7 l=14:=by unfold m7;rw[aG h,aP (R0 ag),aG aE]
def Wd{l:List bO}(h:¬(l.length<1\/10<l.length))(ag:k6 l)(aE:(iq l).sum=fF l):m7 l=0:=by unfold m7;rw[aG h,aP (R0 ag),aP aE]
def aaj:∀{l:List bO},va l=0->k6 l
 |[],_=>fun x U=>by cases U
 |x::l,h=>by
  by_cases q:nQ x=0
  ·rw[RZ q] at h
   intro y an
   rcases fs.1 an with e|e
   ·rw[e];exact q
   ·exact aaj h y e
  ·exact absurd ((aG q).symm.trans h) q
def tc{l:List bO}(h:m7 l=0):1<=l.length/\l.length<=10/\k6 l/\(iq l).sum=fF l:=by
 by_cases q:l.length<1\/10<l.length
 ·rw[afD q] at h;cases h
 ·by_cases aH:va l=0
  ·have ag:=aaj aH
   by_cases bo:(iq l).sum=fF l
   ·exact⟨aa,aa,ag,bo⟩
   ·rw[afE q ag bo] at h;cases h
  ·rw[Wc q aH] at h;exact absurd h aH
def pH(l:List bO):a2:=a4 ((iq l).sum:Int) (fF l)
def agM{l:List bO}(h:k6 l):(pH l).g9:=k4 (ry h)
def agN{l:List bO}(h:k6 l):¬(pH l).z<0:=vK (ry h)
def amW{x:bO}(h:nQ x=0)(a6:x.num.length<=4/\x.den.length<=4):(aq x.rt.z.natAbs).length<=4/\(aq x.rt.d).length<=4:=by
 obtain⟨_,ae,ag,_⟩:=yv h
 exact⟨by show(aq (bf x.num)).length<=4;rw[<-ae];exact a6.1,by show(aq (bf x.den)).length<=4;rw[<-ag];exact a6.2⟩
def azM{l:List bO}(h:k6 l):xP ((pH l).z*((1:Nat):Int) -1*((pH l).d:Int))=0↔(iq l).sum=fF l:=by
 have hs:=ry h
 have ae:=vJ (z:=((iq l).sum:Int)) hs
 have av:0<(pH l).d:=(agM h).1
 have e:xP ((pH l).z*((1:Nat):Int) -1*((pH l).d:Int))=0↔(pH l).z=((pH l).d:Int):=by
  unfold xP
  split
  ·omega
  ·split<;>omega
 rw[e]
 change (pH l).z*(fF l:Int)=((iq l).sum:Int)*((pH l).d:Int) at ae
 constructor
 ·intro q
  rw[q,oA] at ae
  have:=GO aa ae
  omega
 ·intro q
  rw[q,oA ((fF l:Nat):Int)] at ae
  exact GO aa ae
open Classical
def sx {α:Type}(f:α->Int):List α->Int
 |[]=>0
 |x::l=>if f x≠0 then f x else sx f l
def MD{α:Type}{f:α->Int}{x:α}:∀{l:List α} {i:Nat},(∀y∈l.take i,f y=0)->l[i]?=some x->f x≠0->sx f l=f x:=by
 intro l;induction l with
 |nil=>intro i _ h;cases h
 |cons y l aC=>
  intro i h U ak;cases i with
  |zero=>injection U with U;subst U;show(if f y≠0 then f y else _)=_;rw[aP ak]
  |succ i=>
   have aQ:f y=0:=h y (by rw[G1];exact .head _);show(if f y≠0 then f y else sx f l)=_;rw[aG (fun q=>q aQ)];exact aC (fun z aR=>h z (by rw[G1];exact .tail _ aR)) U ak
def ME{α:Type}{f:α->Int}:∀{l:List α},(∀y∈l,f y=0)->sx f l=0:=by
 intro l;induction l with
 |nil=>intro _;rfl
 |cons y l aC=>
  intro h;show(if f y≠0 then f y else sx f l)=_;rw[aG (fun q=>q (h y (.head _)))];exact aC fun z aR=>h z (.tail _ aR)
def aak{α:Type}{f:α->Int}:∀{l:List α},sx f l=0->∀y∈l,f y=0:=by
 intro l;induction l with
 |nil=>intro _ y h;cases h
 |cons y l aC=>
  intro h z aR;have h:(if f y≠0 then f y else sx f l)=0:=h;by_cases q:f y=0
  ·rw[aG (fun r=>r q)] at h;cases aR with
   |head=>exact q
   |tail _ aR=>exact aC h z aR
  ·rw[aP q] at h;exact absurd h q
def aez{α:Type}{f:α->Int}{x:α}{l:List α}{i:Nat}(h:∀y∈l.take i,f y=0)(U:l[i]?=some x)(aQ:f x=0):∀y∈l.take (i+1),f y=0:=by
 rw[ly,U];intro y an;rcases mm.1 an with q|q
 ·exact h y q
 ·cases q with
  |head=>exact aQ
  |tail _ q=>cases q
def mJ (M:Nat)(l:List Int):Int:=if l.length<1\/10<l.length then 3 else if ∃s∈l,s<0\/(M:Int)<s then 2 else if l.sum≠(M:Int) then 14 else 0
def nG (bits:Int)(ts:List (List Int)):Int:=if bits<1\/30<bits then 2 else if 200<ts.length then 4 else sx (mJ (2 ^ bits.toNat)) ts
def xQ(M:Nat)(l:List Int):Prop:=∀s∈l,0<=s/\s<=(M:Int)
section
variable {M:Nat}{l:List Int}{i:Nat}{x:Int}
def axX(h:l.length<1\/10<l.length):mJ M l=3:=aP h
def axY(h:¬(l.length<1\/10<l.length))(U:l[i]?=some x)(ak:x<0\/(M:Int)<x):mJ M l=2:=by
 unfold mJ;rw[aG h,aP ⟨x,dq U,ak⟩]
def afJ(h:xQ M l):¬∃s∈l,s<0\/(M:Int)<s:=fun⟨s,ae,ag⟩=>by have:=h s ae;omega
def axZ(h:¬(l.length<1\/10<l.length))(al:xQ M l)(hs:l.sum≠(M:Int)):mJ M l=14:=by
 unfold mJ;rw[aG h,aG (afJ al),aP hs]
def Wf(h:¬(l.length<1\/10<l.length))(al:xQ M l)(hs:l.sum=(M:Int)):mJ M l=0:=by
 unfold mJ;rw[aG h,aG (afJ al),aG (fun q=>q hs)]
def A8(h:mJ M l=0):1<=l.length/\l.length<=10/\xQ M l/\l.sum=(M:Int):=by
 unfold mJ at h;split at h
 ·cases h
 ·split at h
  ·cases h
  ·rename_i ae ag;split at h
   ·cases h
   ·rename_i aE;refine⟨aa,aa,fun s hs=>?_,ox aE⟩;have:¬(s<0\/(M:Int)<s):=fun q=>ag ⟨s,hs,q⟩;omega
def ayu:xQ M (l.take 0):=fun s hs=>by cases hs
def ayv(h:xQ M (l.take i))(U:l[i]?=some x)(ak:¬(x<0\/(M:Int)<x)):xQ M (l.take (i+1)):=by
 rw[ly,U];intro y an;rcases mm.1 an with q|q
 ·exact h y q
 ·cases q with
  |head=>omega
  |tail _ q=>cases q
def azo(U:l[i]?=some x):(l.take (i+1)).sum=(l.take i).sum+x:=by
 rw[ly,U,X1];simp
def azj:∀{l:List Int} {n:Nat},xQ M l->l.length<=n->0<=l.sum/\l.sum<=((n*M:Nat):Int):=by
 intro l;induction l with
 |nil=>intro n _ _;exact⟨Lc _,by show(0:Int)<=_;omega⟩
 |cons a l aC=>
  intro n h aj;cases n with
  |zero=>cases aj
  |succ n=>
   have ae:=h a (.head _);have ag:=aC (n:=n) (fun s hs=>h s (.tail _ hs)) (Nat.le_of_succ_le_succ aj);rw[lg,g',wx];omega
def azy{bits:Int}{ts:List (List Int)}(h:bits<1\/30<bits):nG bits ts=2:=aP h
def azz{bits:Int}{ts:List (List Int)}(h:¬(bits<1\/30<bits))(ag:200<ts.length):nG bits ts=4:=by unfold nG;rw[aG h,aP ag]
def agA{bits:Int}{ts:List (List Int)}(h:¬(bits<1\/30<bits))(ag:¬200<ts.length):nG bits ts=sx (mJ (2 ^ bits.toNat)) ts:=by unfold nG;rw[aG h,aG ag]
end
def tf(l:List Int)(j:Nat):List Int:=(l.set (j+1) (l.getD j 0)).set j (l.getD (j+1) 0)
def qE(f:Int->Int->Int):Nat->List Int->List Int
 |0,l=>l
 |j+1,l=>if f (l.getD (j+1) 0) (l.getD j 0)<0 then qE f j (tf l j) else l
def vA(f:Int->Int->Int):Nat->List Int->List Int
 |0,l=>l
 |k+1,l=>qE f (k+1) (vA f k l)
def px(n:Nat):List Int:=(List.range n).map fun(i:Nat)=>Int.ofNat i
def WE:∀{l:List Int} {j:Nat},j+1<l.length->(tf l j).Perm l
 |a::b::l,0,_=>.swap a b l
 |a::l,j+1,h=>.cons a (WE (l:=l) (j:=j) (by simp at h;omega))
def WD{l:List Int}{j:Nat}:(tf l j).length=l.length:=by unfold tf;rw[hy,hy]
def Pq{l:List Int}{j i:Nat}(h:j+1<l.length):(tf l j).getD i 0=if i=j then l.getD (j+1) 0 else if i=j+1 then l.getD j 0 else l.getD i 0:=by
 unfold tf;rw[ld,qp,qp,hy];by_cases ae:i=j
 ·subst ae;rw[aP I,aP I,aP aa];rfl
 ·rw[aG (fun q=>ae q.symm),aG ae];by_cases ag:i=j+1
  ·subst ag;rw[aP I,aP I,aP h];rfl
  ·rw[aG (fun q=>ag q.symm),aG ag,<-ld]
def ajZ{f:Int->Int->Int}:∀{j:Nat} {l:List Int},j<l.length->(qE f j l).Perm l:=by
 intro j;induction j with
 |zero=>intro l _;exact .refl _
 |succ j aC=>
  intro l aj;unfold qE;split
  ·exact(aC (by rw[WD];omega)).trans (WE aj)
  ·exact .refl _
def acS{f:Int->Int->Int}:∀{k:Nat} {l:List Int},k<l.length->(vA f k l).Perm l:=by
 intro k;induction k with
 |zero=>intro l _;exact .refl _
 |succ k aC=>
  intro l aj;have ae:=aC (l:=l) aa;exact(ajZ (by rw[ae.length_eq];omega)).trans ae
def aiZ(r:Int->Nat)(l:List Int)(k j:Nat):Prop:=(∀a b,a<b->b<=k->a≠j->b≠j->r (l.getD b 0)<=r (l.getD a 0))/\∀b,j<b->b<=k->r (l.getD b 0)<=r (l.getD j 0)
def Qp(r:Int->Nat)(l:List Int)(k:Nat):Prop:=∀a b,a<b->b<=k->r (l.getD b 0)<=r (l.getD a 0)
def aj0{r:Int->Nat}{f:Int->Int->Int}(ay:∀a b,f a b<0↔r b<r a){k:Nat}:∀{j:Nat} {l:List Int},j<=k->k<l.length->aiZ r l k j->Qp r (qE f j l) k:=by
 intro j;induction j with
 |zero=>
  intro l _ _ h a b hr ak;by_cases aQ:a=0
  ·subst aQ;exact h.2 b hr ak
  ·exact h.1 a b hr ak aQ aa
 |succ j aC=>
  intro l aW hk h;unfold qE;split
  ·rename_i cI;have cI:=(ay _ _).1 cI;have Nh:j+1<l.length:=aa;refine aC aa (by rw[WD];exact hk) ⟨fun a b hr ak aI yK=>?_,fun b ak apR=>?_⟩
   ·rw[Pq Nh,Pq Nh,aG aI,aG yK];by_cases ae:a=j+1
    ·rw[aP ae,aG (show ¬b=j+1 by omega)];exact h.1 j b aa ak aa aa
    ·rw[aG ae];by_cases ag:b=j+1
     ·rw[aP ag];exact h.1 a j aa aa aa aa
     ·rw[aG ag];exact h.1 a b hr ak ae ag
   ·rw[Pq Nh,Pq Nh,aG (show ¬b=j by omega),aP I];by_cases ag:b=j+1
    ·rw[aP ag];omega
    ·rw[aG ag];exact h.2 b aa apR
  ·rename_i cI;have cI:¬r (l.getD j 0)<r (l.getD (j+1) 0):=fun q=>cI ((ay _ _).2 q);intro a b hr ak;by_cases ae:a=j+1
   ·subst ae;exact h.2 b hr ak
   ·by_cases ag:b=j+1
    ·subst ag;by_cases aE:a=j
     ·subst aE;omega
     ·have:=h.1 a j aa aa ae aa;omega
    ·exact h.1 a b hr ak ae ag
def asX{r:Int->Nat}{f:Int->Int->Int}(ay:∀a b,f a b<0↔r b<r a):∀{k:Nat} {l:List Int},k<l.length->Qp r (vA f k l) k:=by
 intro k;induction k with
 |zero=>intro l _ a b ae ag;omega
 |succ k aC=>
  intro l aj;have ae:=aC (l:=l) aa;have dC:=(acS (f:=f) (k:=k) (l:=l) aa).length_eq;refine aj0 ay (b2 _) aa ⟨fun a b hr ak aI yK=>ae a b hr aa,fun b ag aE=>by omega⟩
def CG{n:Nat}:(px n).length=n:=by unfold px;rw[e9,XT]
def acU{n i:Nat}(h:i<n):(px n)[i]?=some (i:Int):=by unfold px;rw[h',GS h];rfl
def acV{n:Nat}:∀x∈px n,0<=x/\x<n:=fun x U=>by
 obtain⟨i,hi,rfl⟩:=lf.1 U;have:=XX.1 hi;show 0<=(i:Int)/\(i:Int)<n;omega
def as2{n:Nat}:(px n).Nodup:=by
 unfold px;refine List.Pairwise.map _ (fun a b h q=>h (by injection q)) List.nodup_range
def cf(M s p:Nat):Nat:=p*M % s
def jK(ps:List Nat)(s M:Nat):List Nat:=ps.map fun p=>p*M / s
def BL(ps:List Nat)(s M:Nat)(a b:Int):Int:=j' (cf M s (ps.getD b.toNat 0)) (cf M s (ps.getD a.toNat 0))
def kn(ps:List Nat)(s M:Nat):List Int:=vA (BL ps s M) (ps.length -1) (px ps.length)
def mC(o:List Nat)(i:Int):List Nat:=o.set i.toNat (o.getD i.toNat 0+1)
def pz(ps:List Nat)(s M:Nat):Nat:=M -(jK ps s M).sum
def Db(ps:List Nat)(s M:Nat):List Nat:=((kn ps s M).take (pz ps s M)).foldl mC (jK ps s M)
def alq{x y:Nat}:j' x y<0↔x<y:=by unfold j';split<;>(try split)<;>omega
def aeM{s M:Nat}:∀ps:List Nat,(jK ps s M).sum*s+(ps.map (cf M s)).sum=ps.sum*M
 |[]=>by simp[jK]
 |p::ps=>by
  have aC:=aeM (s:=s) (M:=M) ps;show(p*M / s+(jK ps s M).sum)*s+(cf M s p+(ps.map (cf M s)).sum)=(p::ps).sum*M;rw[lg,g',g',<-aC];have:p*M / s*s+cf M s p=p*M:=by rw[hn];exact uO _ _
  omega
def aue{α:Type}{r:Nat->α}(ps:List Nat):(px ps.length).map (fun i=>r (ps.getD i.toNat 0))=ps.map r:=by
 refine pK fun i=>?_;by_cases h:i<ps.length
 ·rw[h',acU h,h',cU h];show some (r (ps.getD ((i:Int)).toNat 0))=_;rw[ff,ld,cU h];rfl
 ·rw[jq (by rw[e9,CG];omega),jq (by rw[e9];omega)]
def WC{s:Nat}:∀{l:List Nat},(∀x∈l,x<s)->l≠[]->l.sum<l.length*s
 |[],_,h=>absurd I h
 |[a],h,_=>by have:=h a (.head _);simp;exact this
 |a::b::l,h,_=>by
  have ae:=h a (.head _);have ag:=WC (s:=s) (l:=b::l) (fun x q=>h x (.tail _ q)) (by simp);rw[lg,ks,g'];omega
def agv:∀{l:List Nat},(∀x∈l,x=0)->l.sum=0
 |[],_=>rfl
 |a::l,h=>by rw[lg,h a (.head _),agv (fun x q=>h x (.tail _ q))]
structure aiW (ps:List Nat) (s M:Nat):Prop where
 out:(jK ps s M).sum<=M
 U':pz ps s M<=ps.length
 aeD:(kn ps s M).length=ps.length
 OJ:∀x∈kn ps s M,0<=x/\x<ps.length
 VK:(kn ps s M).Nodup
 pos:∀x∈(kn ps s M).take (pz ps s M),0<cf M s (ps.getD x.toNat 0)
def afy{ps:List Nat}{s M:Nat}(aA:1<=ps.length)(hs:0<s)(ap:ps.sum=s):aiW ps s M:=by
 have Jr:=aeM (s:=s) (M:=M) ps;rw[ap] at Jr;have aco:∀p,cf M s p<s:=fun p=>lh _ hs;have aru:(jK ps s M).sum<=M:=by
  refine Nat.le_of_mul_le_mul_right (c:=s) ?_ hs;rw[hn M s];omega
 have Jc:pz ps s M*s=(ps.map (cf M s)).sum:=by
  unfold pz;rw[Nat.sub_mul,hn M s];omega
 have qQ:(ps.map (cf M s)).sum<ps.length*s:=by
  have:=WC (s:=s) (l:=ps.map (cf M s)) (fun x U=>by obtain⟨p,_,rfl⟩:=lf.1 U;exact aco p) (by intro q;rw[List.map_eq_nil_iff] at q;rw[q] at aA;simp at aA);rwa [e9] at this
 have rK:pz ps s M<ps.length:=X' (a:=s) aa;have Nu:(kn ps s M).Perm (px ps.length):=acS (by rw[CG];omega);have kd:(kn ps s M).length=ps.length:=Nu.length_eq.trans CG;have arq:∀x∈kn ps s M,0<=x/\x<ps.length:=fun x U=>acV x (Nu.mem_iff.1 U);have ars:(kn ps s M).Nodup:=Nu.nodup_iff.2 as2;have Um:Qp (fun i=>cf M s (ps.getD i.toNat 0)) (kn ps s M) (ps.length -1):=asX (f:=BL ps s M) (r:=fun i=>cf M s (ps.getD i.toNat 0)) (fun a b=>alq) (k:=ps.length -1) (by rw[CG];omega);refine⟨aru,aa,kd,arq,ars,fun x U=>Hb fun aQ=>?_⟩;obtain⟨k,hk⟩:=XS U;have aqV:k<pz ps s M:=by
  have:=(dO.1 hk).1;rw[eL] at this;omega
 rw[P6 aqV] at hk;have I8:(kn ps s M).getD k 0=x:=by rw[ld,hk];rfl
 --all aFK from place k on YD 0
 have hg:((kn ps s M).map fun i=>cf M s (ps.getD i.toNat 0)).sum=(ps.map (cf M s)).sum:=by
  rw[<-aue (r:=cf M s) ps];exact(Nu.map _).sum_nat
 have kI:(((kn ps s M).take k).map fun i=>cf M s (ps.getD i.toNat 0)).sum+(((kn ps s M).drop k).map fun i=>cf M s (ps.getD i.toNat 0)).sum=(ps.map (cf M s)).sum:=by
  rw[<-hg,<-List.sum_append_nat,<-zW,Lu]
 have aR:(((kn ps s M).drop k).map fun i=>cf M s (ps.getD i.toNat 0)).sum=0:=by
  refine agv fun v az=>?_;obtain⟨i,hi,rfl⟩:=lf.1 az;obtain⟨d,av⟩:=XS hi;rw[n2] at av;have rE:=(dO.1 av).1;have xa:(kn ps s M).getD (k+d) 0=i:=by rw[ld,av];rfl
  by_cases h6:d=0
  ·subst h6;rw[pc] at av xa;rw[av] at hk;injection hk with hk;subst hk;exact aQ
  ·have:=Um k (k+d) aa aa;simp only at this;rw[I8,xa,aQ] at this;omega
 rw[aR,pc] at kI;by_cases Ni:k=0
 ·subst Ni;rw[ku] at kI;have kI:0=(ps.map (cf M s)).sum:=kI;rw[<-kI] at Jc;rcases Nat.mul_eq_zero.1 Jc with h|h<;>omega
 ·have:=WC (s:=s) (l:=((kn ps s M).take k).map fun i=>cf M s (ps.getD i.toNat 0)) (fun x U=>by obtain⟨p,_,rfl⟩:=lf.1 U;exact aco _) (by
   intro q;have:=dh List.length q;rw[e9,eL,gv aa,DT] at this;exact Ni this)
  rw[e9,eL,gv aa,kI,<-Jc] at this;have:=X' this;omega
def UL{o:List Nat}{i:Int}:(mC o i).length=o.length:=hy
def azm{l:List Nat}{i x y:Nat}(h:l[i]?=some x):(l.set i y).sum+x=l.sum+y:=by
 induction l generalizing i with
 |nil=>cases h
 |cons a l aC=>
  cases i with
  |zero=>injection h with h;subst h;rw[G0,lg,lg];omega
  |succ i=>have:=aC (i:=i) h;rw[List.set_cons_succ,lg,lg];omega
def NT:∀(is:List Int) (o:List Nat),(∀x∈is,0<=x/\x<o.length)->is.Nodup->(is.foldl mC o).length=o.length/\(is.foldl mC o).sum=o.sum+is.length/\∀i:Nat,i<o.length->(is.foldl mC o).getD i 0=if(i:Int)∈is then o.getD i 0+1 else o.getD i 0
 |[],o,_,_=>⟨I,I,fun i _=>by rw[aG (by intro q;cases q)];rfl⟩
 |k::is,o,hm,aA=>by
  have hk:=hm k (.head _);have U:=cU (l:=o) (i:=k.toNat) aa;obtain⟨ae,ag,aE⟩:=NT is (mC o k) (fun x q=>by rw[UL];exact hm x (.tail _ q)) aA.of_cons;have Nq:k∉is:=(uL.1 aA).1;have hs:=azm (y:=o.getD k.toNat 0+1) U;have aB:o.getD k.toNat 0=o[k.toNat]:=by rw[ld,U];rfl
  refine⟨ae.trans UL,?_,fun i hi=>?_⟩
  ·rw[P5,ag,ks];show(o.set k.toNat (o.getD k.toNat 0+1)).sum+is.length=_;omega
  ·rw[P5,aE i (by rw[UL];exact hi)];have Aw:(mC o k).getD i 0=if(i:Int)=k then o.getD i 0+1 else o.getD i 0:=by
    unfold mC;rw[ld,qp];by_cases Az:(i:Int)=k
    ·rw[aP (show k.toNat=i by omega),aP Az,aP aa,show k.toNat=i by omega];rfl
    ·rw[aG (show ¬k.toNat=i by omega),aG Az,ld]
   rw[Aw];by_cases Az:(i:Int)=k
   ·rw[aP Az,aG (by rw[Az];exact Nq),aP (by rw[Az];exact .head _)]
   ·rw[aG Az];by_cases rL:(i:Int)∈is
    ·rw[aP rL,aP (.tail _ rL)]
    ·rw[aG rL,aG (by intro q;rcases fs.1 q with q|q;exact Az q;exact rL q)]
def awe{ps:List Nat}{s M i:Nat}(hi:i<ps.length):(jK ps s M).getD i 0=ps.getD i 0*M / s:=by
 unfold jK;rw[ld,h',ld,cU hi];rfl
structure aiX (ps:List Nat) (s M:Nat) (vs:List Nat):Prop where
 len:vs.length=ps.length
 sum:vs.sum=M
 at_:∀i,i<ps.length->vs.getD i 0=ps.getD i 0*M / s\/(vs.getD i 0=ps.getD i 0*M / s+1/\0<cf M s (ps.getD i 0))
def afz{ps:List Nat}{s M:Nat}(aA:1<=ps.length)(hs:0<s)(ap:ps.sum=s):aiX ps s M (Db ps s M):=by
 have F:=afy (M:=M) aA hs ap;have kd:(jK ps s M).length=ps.length:=e9 _;obtain⟨ae,ag,aE⟩:=NT ((kn ps s M).take (pz ps s M)) (jK ps s M) (fun x U=>by rw[kd];exact F.OJ x (DU U)) (F.VK.sublist (X3 _ _));refine⟨ae.trans kd,?_,fun i hi=>?_⟩
 ·show(((kn ps s M).take (pz ps s M)).foldl mC (jK ps s M)).sum=M;have:=F.out;have:=F.U';rw[ag,eL,F.aeD,gv F.U'];unfold pz;omega
 ·have a6:=aE i aa;show(((kn ps s M).take (pz ps s M)).foldl mC (jK ps s M)).getD i 0=_\/_;rw[awe hi] at a6;by_cases hm:(i:Int)∈(kn ps s M).take (pz ps s M)
  ·rw[aP hm] at a6;exact .inr ⟨a6,by have:=F.pos _ hm;rwa [ff] at this⟩
  ·rw[aG hm] at a6;exact .inl a6
def gk.aBj{J ah:ai}{r s:a2}{v1 v2 bE ct:Value}{x y:Bool}(h:gk J r v1 v2)(h4:gk ah s bE ct)(hle:J.le ah)(e:[Value.agg #[.bool x,v1,v2]]=[Value.agg #[.bool y,bE,ct]]):r.z.natAbs=s.z.natAbs:=by
 injection e with e
 injection e with e
 have e:[Value.bool x,v1,v2]=[.bool y,bE,ct]:=dh Array.toList e;injection e with _ e
 injection e with e _
 exact h.n.qg h4.n hle e
def qd(z:Int):Int:=if z=0 then 0 else 1
section
variable {Q:da Tryz.prog}{g0:Nat}{J:ai}
def agb{r:a2}{v1 v2:Value}(h:gk J r v1 v2)(aR:0<=r.z):Fn (aU Q g0) 94 [di r v1 v2] [] J (fun u m' ah=>u=.int .i64 (qd r.z)/\m'=[]/\J.le ah):=by
 obtain⟨bc,bH,bb,rfl,aN,iz,nt⟩:=h.n.bz;obtain⟨bl,c2,bt,rfl,aH,kc,nu⟩:=h.d.bz;refine Fn.b9 (b1 Tryz.func94) I I fun H=>?_;refine rg ?_;refine fq fun ba=>?_;refine af 0x17c10aa6e702 ?_;refine If (fun dJ=>?_) fun dJ=>?_
 ·have jw:r.z=0:=qn.1 (iz.z aa);refine af 0x1abe059 ?_;refine b4 ?_
  exact⟨by unfold qd;rw[aP jw];rfl,I,ai.le.refl _⟩
 ·have y7:r.z≠0:=fun q=>by have:=iz.iV (qn.2 q);omega
  refine af 0x5f0a6e757 ?_;refine If (fun gm=>?_) fun gm=>?_
  ·exfalso;omega
  ·refine af 0x6af816757 ?_;refine b4 ?_
   exact⟨by unfold qd;rw[aG y7];rfl,I,ai.le.refl _⟩
def Zn{r s:a2}{v1 v2 bE ct:Value}(ar:gk J r v1 v2)(hs:gk J s bE ct)(zz:0<=r.z)(sz:0<=s.z)(rd:0<r.d)(iM:0<s.d)(aQ:r.z=0\/s.z=0):Fn (aU Q g0) 59 [di r v1 v2,di s bE ct] [] J (fun u m' ah=>u=.int .i64 (j' (r.z.natAbs*s.d) (s.z.natAbs*r.d))/\m'=[]/\J.le ah):=by
 have dL:=ar;have gL:=hs;obtain⟨bc,bH,bb,rfl,aN,iz,nt⟩:=ar.n.bz;obtain⟨bl,c2,bt,rfl,aH,kc,nu⟩:=ar.d.bz;obtain⟨b0,fb,cE,rfl,bo,yX,xi⟩:=hs.n.bz;obtain⟨dp,gf,eA,rfl,db,Jf,y0⟩:=hs.d.bz;have tW:ep 8 (di r (.slice bc bH bb) (.slice bl c2 bt)) (di r (.slice bc bH bb) (.slice bl c2 bt))=true:=by simp[ep,js,aN,aH,mS]
 have AG:ep 8 (di s (.slice b0 fb cE) (.slice dp gf eA)) (di s (.slice b0 fb cE) (.slice dp gf eA))=true:=by simp[ep,js,bo,db,mS]
 have pr:min (max (qd r.z -qd s.z) (-1)) 1=j' (r.z.natAbs*s.d) (s.z.natAbs*r.d):=by
  unfold qd j';by_cases ae:r.z=0
  ·rw[aP ae,ae,XI,nM]
   by_cases ag:s.z=0
   ·rw[aP ag,ag,XI,nM];rfl
   ·have:=ib (Int.natAbs_pos.2 ag) rd
    rw[aG ag,aP this];rfl
  ·have ag:s.z=0:=by rcases aQ with h|h;exact absurd h ae;exact h
   have:=ib (Int.natAbs_pos.2 ae) iM;rw[aG ae,aP ag,ag,XI,nM,aG aa,aP this];rfl
 have hw:IntKind.i64.wrap (qd r.z -qd s.z)=qd r.z -qd s.z:=by
  unfold qd;split<;>split<;>rfl
 have fB:qd r.z=qd s.z->¬qd r.z=0->False:=fun ae ag=>by
  rcases aQ with h|h
  ·exact ag (by unfold qd;rw[aP h])
  ·exact ag (ae.trans (by unfold qd;rw[aP h]))
 refine Fn.b9 (b1 Tryz.func59) I I fun H=>?_;refine rg ?_;refine fq fun br=>?_;refine fq fun bG=>?_;refine af 0x5f02 ?_;refine aK.draw I (by kernel_rfl) (a0:=[.val 0,.val 2,.bw 1,.b6 [2],.bw 3,.val 4,.val 5]) (by kernel_rfl) ?_;refine af 0x796b ?_;refine' bB.ej I I I I I I I I I ec (agb dL zz) ?_;rintro v' m' aii sS ⟨rfl,rfl,_⟩;refine bB.b6 eN ?_;refine' bB.ej I I I I I I I I I (dF (fun _ aI=>⟨I,sS,fun v m' bj c3 ⟨a,b,c⟩ ae ag=>⟨by rw[a,show r.z=s.z by have:=dL.aBj gL (ai.le.refl _) aI;omega],b,ag⟩⟩) ec) (agb (gL.mono sS) sz) ?_;rintro v' m' aij xc ⟨rfl,rfl,_⟩;refine af 0x120439c085e ?_;refine eX 15 (fun B3=>?_) fun B3=>?_
 ·skip
  refine af 0x610e757c237b ?_;refine' W.step I (Exec.val I I (Bk I I I I I) ?_);refine' W.step I (Exec.val I I (KO I I I I I) ?_);refine af 0xd5f02 ?_;refine b4 ?_;exact⟨by(rw[hw,pr];rfl),I,sS.trans xc⟩
 ·refine af 0x17c2081 ?_;refine If (fun jt=>?_) fun jt=>?_
  ·refine af 0x18439 ?_;refine' W.step I (Exec.val I I (Bk I I I I I) ?_);refine' W.step I (Exec.val I I (KO I I I I I) ?_);refine af 0xd5f02 ?_;refine b4 ?_;exact⟨by(rw[pr];rfl),I,sS.trans xc⟩
  ·exfalso;exact fB (x4.1 B3) jt
def Rh{r s:a2}{v1 v2 bE ct:Value}(ar:gk J r v1 v2)(hs:gk J s bE ct)(gV:r.g9)(cs:s.g9)(zz:0<=r.z)(sz:0<=s.z){k j:Nat}(fr:h9 k r)(gi:h9 j s)(hk:k<=30000)(aW:j<=30000):Fn (aU Q g0) 59 [di r v1 v2,di s bE ct] [] J (fun u m' ah=>u=.int .i64 (j' (r.z.natAbs*s.d) (s.z.natAbs*r.d))/\m'=[]/\J.le ah):=by
 by_cases ae:r.z=0
 ·exact Zn ar hs zz sz gV.1 cs.1 (.inl ae)
 ·by_cases ag:s.z=0
  ·exact Zn ar hs zz sz gV.1 cs.1 (.inr ag)
  ·exact alr ar hs gV cs aa aa fr gi hk aW
def auc{v w:Value}{neg:Bool}(ae:c5 J v 0){d:Nat}(ag:c5 J w d):Fn (aU Q g0) 91 [.bool neg,v,w] [] J (pf J ⟨0,1⟩):=by
 have lI:=ae;have kZ:=ag;obtain⟨bc,bH,bb,rfl,aN,iz,nt⟩:=ae.bz;obtain⟨bl,c2,bt,rfl,aH,kc,nu⟩:=ag.bz;have aD8:=iz.iV I;refine Fn.b9 (b1 Tryz.func91) I I fun H=>?_;refine rg ?_;refine eu fun ef=>?_;refine af 0x5f0428738 ?_;refine If (fun eZ=>?_) fun eZ=>?_
 ·refine af 0x357c7219 ?_;refine b4 ?_;exact⟨ai.le.refl _,I,.slice none 0 0,.slice none 0 0,I,c5.nil,c5.nil⟩
 ·exfalso;omega
def uv(r:a2):a2:=a4 ((r.z.natAbs % r.d:Nat):Int) r.d
def ax7{r:a2}(gV:r.g9)(h:r.z.natAbs % r.d=0):uv r=⟨0,1⟩:=by unfold uv;rw[h];exact xG gV.1
def ax6{r:a2}(gV:r.g9):uv r=⟨((r.z.natAbs % r.d:Nat):Int),r.d⟩\/r.z.natAbs % r.d=0:=by
 refine .inl (Oy (r:=⟨((r.z.natAbs % r.d:Nat):Int),r.d⟩) ⟨gV.1,?_⟩);show Nat.gcd (((r.z.natAbs % r.d:Nat):Int)).natAbs r.d=1;rw[gR,<-G5,uQ];exact gV.2
def aud{r:a2}{v w:Value}(gV:r.g9)(ae:c5 J v (r.z.natAbs % r.d))(ag:c5 J w r.d)(aj:(a7 r.d).length<=100000):Fn (aU Q g0) 91 [.bool false,v,w] [] J (pf J (uv r)):=by
 by_cases aQ:r.z.natAbs % r.d=0
 ·rw[ax7 gV aQ]
  rw[aQ] at ae;exact auc ae ag
 ·rcases ax6 gV with e|e
  ·rw[e]
   exact FN (r:=⟨((r.z.natAbs % r.d:Nat):Int),r.d⟩) (by show c5 J v (((r.z.natAbs % r.d:Nat):Int)).natAbs;rw[gR];exact ae) ag (fun _=>(g5 (by show ¬((r.z.natAbs % r.d:Nat):Int)<0;omega)).symm) (fun h=>absurd h (by show ¬((r.z.natAbs % r.d:Nat):Int)=0;omega)) (jP gV.1) aj
  ·exact absurd e aQ
def aAZ{r:a2}{v1 v2:Value}(ar:gk J r v1 v2)(gV:r.g9)(fr:h9 30000 r)(qN:r.z.natAbs / r.d<9223372036854775808):Fn (aU Q g0) 56 [di r v1 v2] [] J (fun u m' ah=>J.le ah/\m'=[]/\∃bE ct,u=.tuple #[.int .i64 ((r.z.natAbs / r.d:Nat):Int),di (uv r) bE ct]/\gk ah (uv r) bE ct):=by
 have dL:=ar;obtain⟨bc,bH,bb,rfl,aN,iz,nt⟩:=ar.n.bz;obtain⟨bl,c2,bt,rfl,aH,kc,nu⟩:=ar.d.bz;have vC:=jP gV.1;have hO:=fr.n;have O7:=fr.d;have r0:=jk O7;have tW:ep 8 (di r (.slice bc bH bb) (.slice bl c2 bt)) (di r (.slice bc bH bb) (.slice bl c2 bt))=true:=by simp[ep,js,aN,aH,mS]
 refine Fn.b9 (b1 Tryz.func56) I I fun H=>?_;refine rg ?_;refine fq fun ba=>?_;refine hA V.LU ?_;refine eu fun bG=>?_;refine ns ?_;refine aK.draw I (by kernel_rfl) (a0:=[.val 0,.val 1,.val 2,.bw 3,.b6 [1,0],.bw 4,.val 5,.val 6,.val 7,.val 8,.val 9]) (by kernel_rfl) ?_;refine af 0xf2d4d ?_;refine' bB.ej I I I I I I I I I ec (qD dL vC) ?_;rintro v' m' bj a8 ⟨_,rfl,mB⟩;have pu:=mB;obtain⟨fD,hP,fZ,rfl,fH,_,_⟩:=mB.bz;refine bB.b6 eN ?_;refine' bB.ej I I I I I I I I I (dF (e5 I) ec) (ZE (dL.mono a8).n pu aa aa vC) ?_;rintro v' m' c3 bN ⟨_,rfl,aGh,W6,rfl,rS,tY⟩;have pv:=rS;have pw:=tY;obtain⟨ev,e2,dJ,rfl,hS,Fe,aEs⟩:=rS.bz;obtain⟨gH,k3,eY,rfl,mI,_,_⟩:=tY.bz;have T8:=(dL.mono a8).mono bN;refine af 0x161ce04239c3e ?_;refine cl (G:=qD T8 vC) (h:=?_);rintro v' m' e3 cQ ⟨_,rfl,tZ⟩;have sZ:=tZ;obtain⟨iy,o1,gm,rfl,o4,_,_⟩:=tZ.bz;refine cl (G:=aud gV (pw.mono cQ) sZ aa) (h:=?_);rintro v' m' lx fa ⟨_,rfl,gj,g2,rfl,bC⟩;have cS:=bC;obtain⟨g3,mE,eZ,rfl,m4,_,_⟩:=bC.n.bz;obtain⟨iP,nX,dt,rfl,mh,_,_⟩:=bC.d.bz;refine eu fun ef=>?_;refine af 0xbe0850e71c ?_;refine If (fun qG=>?_) fun qG=>?_
 ·have jw:r.z.natAbs / r.d=0:=Fe.z aa;have AG:ep 8 (di (uv r) (.slice g3 mE eZ) (.slice iP nX dt)) (di (uv r) (.slice g3 mE eZ) (.slice iP nX dt))=true:=by simp[ep,js,m4,mh,mS]
  refine bp ?_;refine aK.draw I (by kernel_rfl) (a0:=[.val 0,.val 1,.bw 2]) (by kernel_rfl) ?_;refine af 0x357c704b ?_;refine b4 ?_
  exact⟨((a8.trans bN).trans cQ).trans fa,I,_,_,by rw[jw];rfl,cS⟩
 ·have y7:=Fe.aev (fun q=>qG aa);obtain⟨ef,aFe,aCs,kX,rfl,aaP,UA⟩:=pv.at y7;have nv:=Dw y7 aa;rw[nv] at UA;obtain⟨GB,UH,UA,_⟩:=UA 0 Nat.one_pos;injection UH with UH;subst UH
  have aaP:=fa _ _ (cQ _ _ aaP);have AG:ep 8 (di (uv r) (.slice g3 mE eZ) (.slice iP nX dt)) (di (uv r) (.slice g3 mE eZ) (.slice iP nX dt))=true:=by simp[ep,js,m4,mh,mS]
  refine af 0x5f57 ?_;refine aK.draw I (by kernel_rfl) (a0:=[.val 0,.val 1,.val 2,.val 3,.val 4,.val 5,.bw 6]) (by kernel_rfl) ?_;refine af 0x357c704b728c1 ?_;refine b4 ?_
  exact⟨((a8.trans bN).trans cQ).trans fa,I,_,_,by rw[wrap_i64 (Int.le_trans bI (sc _)) aa];rfl,cS⟩
abbrev oh(pre:List Value)(L:List Int)(post:List Value):List Value:=pre++(L.map (Value.int .i64)++post)
def Kb{pre post:List Value}{L:List Int}{j k:Nat}{x:Int}(h:L[j]?=some x)(hk:k=pre.length+j):nth (oh pre L post) k=some (.int .i64 x):=by
 subst hk;have aj:=(dO.1 h).1;rw[lQ,rf aa,sg (by rw[e9];omega),show pre.length+j -pre.length=j by omega,h',h];rfl
def agh{pre post:List Value}{L:List Int}{j k:Nat}{v:Int}(h:j<L.length)(hk:k=pre.length+j):gO k (oh pre L post) [.int .i64 v]=some (oh pre (L.set j v) post):=by
 subst hk;rw[ayJ (pre.length+j) (by rw[dv,dv,e9];omega)];unfold oh;rw[GZ _ _ aa,XY _ _ (by rw[e9];omega),show pre.length+j -pre.length=j by omega,P']
def getD_some{L:List Int}{j:Nat}{x:Int}(h:L[j]?=some x):L.getD j 0=x:=by rw[ld,h];rfl
def aj1{f:Int->Int->Int}{M:List Int}{j:Nat}(aW:1<=j)(h:f (M.getD j 0) (M.getD (j -1) 0)<0):qE f (j -1) (tf M (j -1))=qE f j M:=by
 obtain⟨k,rfl⟩:∃k,j=k+1:=⟨j -1,aa⟩;rw[zX] at h;show qE f k (tf M k)=if f (M.getD (k+1) 0) (M.getD k 0)<0 then qE f k (tf M k) else M;rw[aP h]
def ajY{f:Int->Int->Int}{M:List Int}{j:Nat}(h:¬(1<=j/\f (M.getD j 0) (M.getD (j -1) 0)<0)):qE f j M=M:=by
 cases j with
 |zero=>rfl
 |succ k=>
  rw[zX] at h;show(if f (M.getD (k+1) 0) (M.getD k 0)<0 then qE f k (tf M k) else M)=M;rw[aG (fun q=>h ⟨aa,q⟩)]
def as8{ad off cap n:Nat}{e:TypeId}{pre post:List Value}{D:List Int}{Ak:FuncId}{st:Array Value}{f:Int->Int->Int}{ok:Int->Prop}{eB:aJ}(dS:D.length=n)(aA:n<=1000)(Nv:pre.length=off)(cG:∀x∈D,ok x)
 (ax:∀bj:ai,J.le bj->∀a b,ok a->ok b->Fn (aU Q g0) Ak (.int .i64 a::.int .i64 b::st.toList) [] bj (fun v m' ah=>v=.int .i64 (f a b)/\m'=[]/\bj.le ah)):
 Fn (aU Q g0) 124 [.slice (some ⟨ad,off,none⟩) n cap,.int .i64 0,.int .i64 (n:Int),.func (.func Ak) #[] st] ((ad,.row (oh pre D post) e)::eB) J (fun v m' ah=>m'=(ad,.row (oh pre (vA f (n -1) D) post) e)::eB/\J.le ah):=by
 refine Fn.b9 (b1 Tryz.func124) I I fun H=>?_;refine af 0x6af810c39 ?_;refine dV [(8,.int .i64 (((0)+1:Nat):Int)),(0,_),(1,_),(2,_),(3,_)] ?_;refine bp ?_;refine' aK.bK (fun(b8:Nat×(List Int)×ai)=>match b8 with|(k,L,cv)=>⟨[(8,.int .i64 ((k+1:Nat):Int))],(ad,.row (oh pre L post) e)::eB,cv,(k=0\/k+1<=n)/\L=vA f k D/\L.length=n/\(∀x∈L,ok x)/\J.le cv,n -(k+1)⟩) ⟨0,D,J⟩ ?hs ?bn
 case hs=>exact⟨.inl I,I,dS,cG,ai.le.refl _⟩
 case bn=>
  rintro⟨k,L,cv⟩ hinv;try simp only at hinv
  obtain⟨hk,bi,rJ,MW,cr⟩:=hinv;refine af 0x2f820439 ?_;refine If (fun fE=>?_) fun fE=>?_
  ·refine af 0x357c0839d5f57 ?_;refine dV [(9,.int .i64 ((k+1):Int)),(0,_),(1,_),(2,_),(3,_),(8,_)] ?_;refine bp ?_;refine' aK.bK (fun(b8:Nat×(List Int)×ai)=>match b8 with|(j,M,hU)=>⟨[(9,.int .i64 (j:Int))],(ad,.row (oh pre M post) e)::eB,hU,j<=k+1/\qE f j M=qE f (k+1) L/\M.length=n/\(∀x∈M,ok x)/\J.le hU,j⟩) ⟨k+1,L,cv⟩ ?hs ?bn
   case hs=>exact⟨b2 _,I,rJ,MW,cr⟩
   case bn=>
    rintro⟨j,M,hU⟩ hinv;try simp only at hinv
    obtain⟨aW,ih,aa2,MY,h5⟩:=hinv;have aDW:k+1<n:=aa
    refine fc [0,1,2,3,8,9] ?_;refine bp ?_;refine' aK.Ru 0 [(34,.bool (decide (1<=j/\f (M.getD j 0) (M.getD (j -1) 0)<0)))] ?HQ ?HZ;case HQ=>
     refine aK.draw I (by kernel_rfl) (a0:=[.val 0,.val 1,.val 2,.val 3,.val 4,.val 5,.val 6,.val 7,.val 8,.val 9,.val 10,.val 11,.val 12,.val 13,.bw 14,.val 15,.val 16]) (by kernel_rfl) ?_;refine af 0x12043e ?_;refine XA 21 (fun aoF=>?_) fun aoF=>?_
     ·obtain⟨x,U⟩:∃x,M[j]?=some x:=⟨_,cU aa⟩;obtain⟨y,an⟩:∃y,M[j -1]?=some y:=⟨_,cU aa⟩;have ex:=getD_some U;have BX:=getD_some an;have abO:1<=j:=aa
      refine af 0x30421 ?_;refine' bB.WV I I I I I (j1 I I ?ar (g8 (fJ I) ?az)) ?_;case ar=>exact qr
      case az=>exact Kb U aa
      refine af 0x30c21 ?_;refine' bB.WV I I I I I (j1 I I ?ar (g8 (fJ I) ?az)) ?_;case ar=>exact qr
      case az=>exact Kb an aa
      refine' bB.Zb I I I I I I I I I I ec (ax hU h5 x y (MY x (dq U)) (MY y (dq an))) ?_;rintro v' m' aBx hle ⟨rfl,rfl,_⟩;refine af 0x104 ?_;refine bB.nil ?_;exact ce
     ·have abO:¬1<=j:=aa
      refine af 0x37bdef7bdef7b ?_;refine bB.akT I I I I I I ?_;refine af 0x11b ?_;refine bB.nil ?_;exact ce
    case HZ=>
     intro XL aq4;have aaS:=h5.trans aq4;refine bp ?_;refine If (fun uZ=>?_) fun uZ=>?_
     ·obtain⟨abO,cI⟩:=uZ;obtain⟨x,U⟩:∃x,M[j]?=some x:=⟨_,cU aa⟩;obtain⟨y,an⟩:∃y,M[j -1]?=some y:=⟨_,cU aa⟩;have ex:=getD_some U;have BX:=getD_some an;refine af 0x17d5f57 ?_;refine aK.draw I (by kernel_rfl) (a0:=[.val 0,.val 1,.val 2,.val 3,.val 4,.val 5,.val 6,.val 7,.val 8,.val 9,.val 10,.val 11,.val 12,.val 13,.val 14,.bw 15,.val 16,.b6 [4,3,2],.bw 17]) (by kernel_rfl) ?_;refine af 0x61842308421 ?_;refine' bX.val I I I I (j1 I I ?ar (g8 (fJ I) ?az)) ?_;case ar=>exact qr
      case az=>exact Kb an aa
      refine af 0x1821 ?_;refine' bX.val I I I I (j1 I I ?ar (g8 (fJ I) ?az)) ?_;case ar=>exact qr
      case az=>exact Kb U aa
      refine GK I V.dM ?_;refine' bX.nP I I (uE I I I I (o6 I) I I I ?ae ?hs ?ap ?_);case ap=>repeat first|exact .head _ _ _ _|apply fY.app
      case hs=>exact agh (L:=M) (v:=y) (j:=j) aa aa
      case ae=>rfl
      refine af 0x3a6 ?_;refine' bX.nP I I (uE I I I I (o6 I) I I I ?ae ?hs ?ap ?_);case ap=>repeat first|exact .head _ _ _ _|apply fY.app
      case hs=>exact agh (L:=M.set j y) (v:=x) (j:=j -1) (by rw[hy];omega) aa
      case ae=>rfl
      refine bX.nil ?_;rw[show(M.set j y).set (j -1) x=tf M (j -1) from by unfold tf;rw[Ly (show 1<=j by omega),ex,BX]];refine af 0x1810c39 ?_;refine eS ⟨j -1,tf M (j -1),XL⟩ ?_;exact⟨aa,(aj1 aa cI).trans ih,by rw[WD];exact aa2,fun x U=>MY x ((WE aa).mem_iff.1 U),aaS⟩
     ·have w':M=vA f (k+1) D:=by show M=qE f (k+1) (vA f k D);rw[<-bi,<-ih,ajY uZ]
      refine af 0x60430e757 ?_;refine eS ⟨k+1,M,XL⟩ ?_;exact⟨aa,w',aa2,MY,aaS⟩
  ·obtain rfl:k=n -1:=aa
   refine af 0x357 ?_;refine iw ?_;exact⟨by rw[bi],cr⟩
def ay'{ad off cap n:Nat}{e:TypeId}{pre post:List Value}{D:List Int}{Ak:FuncId}{st:Array Value}{f:Int->Int->Int}{ok:Int->Prop}{eB:aJ}(dS:D.length=n)(aA:n<20)(Nv:pre.length=off)(cG:∀x∈D,ok x)
 (ax:∀bj:ai,J.le bj->∀a b,ok a->ok b->Fn (aU Q g0) Ak (.int .i64 a::.int .i64 b::st.toList) [] bj (fun v m' ah=>v=.int .i64 (f a b)/\m'=[]/\bj.le ah)):
 Fn (aU Q g0) 93 [.slice (some ⟨ad,off,none⟩) n cap,.int .i64 (n:Int),.func (.func Ak) #[] st] ((ad,.row (oh pre D post) e)::eB) J (fun v m' ah=>m'=(ad,.row (oh pre (vA f (n -1) D) post) e)::eB/\J.le ah):=by
 refine Fn.b9 (b1 Tryz.func93) I I fun H=>?_;refine af 0x2f820439fdf57c0841ce059 ?_;refine If (fun qF=>?_) fun qF=>?_
 ·exfalso;omega
 ·refine af 0x4210e757 ?_;refine' W.step I (Exec.call I I I I I I I (a1:=(ad,.row (oh pre D post) e)::eB) (cB:=[]) (by simp) trivial (as8 dS aa Nv cG ax) ?_);rintro v m' ah hle ⟨rfl,TI⟩;rw[gC];refine af 0x5f040873fbeaf8 ?_;refine If (fun ym=>?_) fun ym=>?_
  ·exfalso;omega
  ·refine af 0x357 ?_;refine iw ?_;exact⟨I,TI⟩
def ayH{ad off cap n:Nat}{e:TypeId}{pre post:List Value}{D:List Int}{Ak:FuncId}{st:Array Value}{f:Int->Int->Int}{ok:Int->Prop}{eB:aJ}(dS:D.length=n)(aA:n<20)(Nv:pre.length=off)(cG:∀x∈D,ok x)
 (ax:∀bj:ai,J.le bj->∀a b,ok a->ok b->Fn (aU Q g0) Ak (.int .i64 a::.int .i64 b::st.toList) [] bj (fun v m' ah=>v=.int .i64 (f a b)/\m'=[]/\bj.le ah)):
 Fn (aU Q g0) 57 [.slice (some ⟨ad,off,none⟩) n cap,.func (.func Ak) #[] st] ((ad,.row (oh pre D post) e)::eB) J (fun v m' ah=>m'=(ad,.row (oh pre (vA f (n -1) D) post) e)::eB/\J.le ah):=by
 refine Fn.b9 (b1 Tryz.func57) I I fun H=>?_;refine af 0x128439 ?_;refine' W.step I (Exec.call I I I I I I I (a1:=(ad,.row (oh pre D post) e)::eB) (cB:=[]) (by simp) trivial (ay' dS aA Nv cG ax) ?_);rintro v m' ah hle ⟨rfl,TI⟩;rw[gC];refine nh ?_;refine iw ?_;exact⟨I,TI⟩
def avb{X:Int}{d M:Nat}(av:0<d):a4 ((a4 X d).z*(M:Int)) ((a4 X d).d*1)=a4 (X*M) d:=by
 have ax:=(k4 (z:=X) av).1;refine(AT (ib ax Nat.one_pos) av).2 ?_;have h:=vJ (z:=X) av;rw[jr,Ld,h,Ld]
def avd{X d:Nat}(av:0<d):(a4 (X:Int) d).z.natAbs / (a4 (X:Int) d).d=X / d/\uv (a4 (X:Int) d)=a4 ((X % d:Nat):Int) d:=by
 obtain⟨g,e,q,aB,he,aR,I2,S',aA,_⟩:=AU (z:=(X:Int)) av;unfold uv;rw[aA];show q.natAbs / e=X / d/\a4 ((q.natAbs % e:Nat):Int) e=_;have eO:X=g*q.natAbs:=by
  have:=dh Int.natAbs aR;rwa [gR,kT,gR] at this
 subst I2;rw[eO,Nat.mul_div_mul_left _ _ aB,Nat.mul_mod_mul_left];refine⟨I,(AT he av).2 ?_⟩;rw[iX,iX]
 ac_rfl
def au'{X Y d:Nat}(av:0<d):j' ((a4 (X:Int) d).z.natAbs*(a4 (Y:Int) d).d) ((a4 (Y:Int) d).z.natAbs*(a4 (X:Int) d).d)=j' X Y:=by
 obtain⟨g,e,q,aB,he,aR,I2,_,aA,_⟩:=AU (z:=(X:Int)) av;obtain⟨h,f,r,dB,ay,hw,aqe,_,hm,_⟩:=AU (z:=(Y:Int)) av;rw[aA,hm];show j' (q.natAbs*f) (r.natAbs*e)=_;have eO:X=g*q.natAbs:=by
  have:=dh Int.natAbs aR;rwa [gR,kT,gR] at this
 have kD:Y=h*r.natAbs:=by
  have:=dh Int.natAbs hw;rwa [gR,kT,gR] at this
 have aX:X*d=(g*h)*(q.natAbs*f):=by rw[eO,aqe];ac_rfl
 have aT:Y*d=(g*h)*(r.natAbs*e):=by rw[kD,I2];ac_rfl
 have ap:=ib aB dB;have eR:q.natAbs*f<r.natAbs*e↔X<Y:=by
  rw[<-Nat.mul_lt_mul_left ap,<-aX,<-aT];exact aiJ av
 have eo:r.natAbs*e<q.natAbs*f↔Y<X:=by
  rw[<-Nat.mul_lt_mul_left ap,<-aX,<-aT];exact aiJ av
 unfold j';simp only[eR,eo]
def af'{b:Nat}(h:b<=30):IntKind.i64.wrap (1*2 ^ ((b:Nat):Int).toNat)=((2 ^ b:Nat):Int)/\2 ^ b<=1073741824/\0<2 ^ b:=by
 have:∀b:Nat,b<31->IntKind.i64.wrap (1*2 ^ ((b:Nat):Int).toNat)=((2 ^ b:Nat):Int)/\2 ^ b<=1073741824/\0<2 ^ b:=by decide+kernel
 exact this b aa
def afN{M s p:Nat}(hs:0<s):cf M s p<s:=lh _ hs
def axU{ps:List Nat}{s M fh bu:Nat}{ni:Option Addr}(mx:J fh=some ([.slice ni ps.length bu],74))(gW:dz J 85 3 (jN J) (.slice ni ps.length bu) (ps.map fun p=>a4 ((cf M s p:Nat):Int) s))(hs:0<s)(hg:s<18446744073709551616){a b:Int}(aI:0<=a/\a<ps.length)(ak:0<=b/\b<ps.length):
 Fn (aU Q g0) 58 [.int .i64 a,.int .i64 b,.pointer (some ⟨fh,0,none⟩)] [] J (fun v m' ah=>v=.int .i64 (BL ps s M a b)/\m'=[]/\J.le ah):=by
 have oo:addrEq ni ni=true:=gW.addr;obtain⟨_,eg⟩:=gW.at;rw[e9] at eg;obtain⟨lB,off,cells,bA,rfl,l7,jJ⟩:=eg aa;obtain⟨r,cs,ar,iI,oa,v1,v2,rfl,dU⟩:=jJ a aI.1 aa;rw[h'] at ar;obtain⟨p,sX,rfl⟩:=ri.1 ar;obtain⟨cu,cT,Jn,ap4,aqW,bE,ct,rfl,B'⟩:=jJ b ak.1 aa;rw[h'] at Jn;obtain⟨q,Ny,rfl⟩:=ri.1 Jn;have sD:=dU;have SL:=B';obtain⟨bc,bH,bb,rfl,aN,_,_⟩:=dU.n.bz;obtain⟨bl,c2,bt,rfl,aH,_,_⟩:=dU.d.bz;obtain⟨b0,fb,cE,rfl,bo,_,_⟩:=B'.n.bz;obtain⟨dp,gf,eA,rfl,db,_,_⟩:=B'.d.bz;have aX:=afN (M:=M) (p:=p) hs;have aT:=afN (M:=M) (p:=q) hs;have dH:=tE (n:=cf M s p) hs (jk (Bz aX hg)) hg;have ra:=tE (n:=cf M s q) hs (jk (Bz aT hg)) hg;have pr:BL ps s M a b=j' (cf M s q) (cf M s p):=by
  unfold BL;rw[ld,ld,sX,Ny];rfl
 have tW:ep 8 (di (a4 ((cf M s p:Nat):Int) s) (.slice bc bH bb) (.slice bl c2 bt)) (di (a4 ((cf M s p:Nat):Int) s) (.slice bc bH bb) (.slice bl c2 bt))=true:=by simp[ep,js,aN,aH,mS]
 have AG:ep 8 (di (a4 ((cf M s q:Nat):Int) s) (.slice b0 fb cE) (.slice dp gf eA)) (di (a4 ((cf M s q:Nat):Int) s) (.slice b0 fb cE) (.slice dp gf eA))=true:=by simp[ep,js,bo,db,mS]
 refine Fn.b9 (b1 Tryz.func58) I I fun H=>?_;refine af 0xbe059 ?_;refine aK.draw I (by kernel_rfl) (a0:=[.val 0,.val 1,.val 2,.val 3,.val 4,.val 5,.val 6,.val 7,.bw 8,.val 9]) (by kernel_rfl) ?_;refine af 0x6182961829 ?_;refine dl I (G:=Rh SL sD (k4 hs) (k4 hs) (by have:=vK (X:=cf M s q) hs;omega) (by have:=vK (X:=cf M s p) hs;omega) ra dH aa aa) (h:=?_);rintro v' m' bj a8 ⟨rfl,rfl,hle⟩;refine af 0xd5f02 ?_;refine b4 ?_;exact⟨by rw[au' hs,pr];rfl,I,hle⟩
end
end
end Go.Opn
