/- A part of the proof of TableTurns. -/
import Derived.Test.YtlgjlbpafcifoaaGreatDoorCbd
import Derived.Test.YtlgjlbpafcifoaaGreatDoorCbc
import Derived.Test.YtlgjlbpafcifoaaGreatDoorCas
set_option maxRecDepth 100000
set_option maxHeartbeats 8000000
set_option linter.unusedVariables false
set_option linter.unusedSimpArgs false
namespace Go.Opn
noncomputable section
open Go.Cre Go.RowKit Go.Proofs
theorem alc:ag 9223372036854775808=[854775808,223372036,9]:=by
 have h:=qP (l:=[854775808,223372036,9]) ⟨fun z aG=>by
  simp only[fU,Ik,or_false] at aG;omega,fun z aG=>by
  have NZ:some 9=some z:=aG;injection NZ with NZ;omega⟩
 have e:aI [854775808,223372036,9]=9223372036854775808:=by decide
 rw[e] at h;exact h.symm
section
variable {Q:cZ Tryz.prog}{g0:Nat}{J:af}
theorem afa{n d:Nat}{v1 v2:Value}(aq:kI J ⟨(n:Int),d⟩ v1 v2)(al:d≠0)(dL:(ag n).length<=20000)(du:(ag d).length<=20000):Fn (aT Q g0) 64 [eC ⟨(n:Int),d⟩ v1 v2] [] J (us J (⟨((n / d:Nat):Int),1⟩:cY)):=by
 have cx:=aq;have hj:cD J v1 n:=aq.n;have ix:cD J v2 d:=aq.d;obtain⟨bs,bp,rfl,aK⟩:=hj.bQ;obtain⟨bM,bN,rfl,aH⟩:=ix.bQ;have ab:(ag 1).length<=60000:=dA (kZ (k:=1) bm) bm;have Aj:bn ((n / d:Nat):Int) 1=(⟨((n / d:Nat):Int),1⟩:cY):=AM (r:=⟨((n / d:Nat):Int),1⟩) ⟨Nat.one_pos,L6 _⟩;have ajk:(ag (n / d)).length<=60000:=dA (n5 (qE _ _)) I;refine Fn.b8 (b7 Tryz.func64) rfl rfl fun H=>?_;refine rg ?_;refine gZ fun a7=>?_;refine gn fun bc=>?_;refine aa 0x14d53738 ?_;refine br (G:=KX hj ix al I I) (h:=?_);rintro v' m' bi hle ⟨aM,rfl,bt,cv,rfl,nY,h1⟩;have ajg:=nY;obtain⟨fw,gz,rfl,fP⟩:=nY.bQ;obtain⟨fi,eu,rfl,je⟩:=h1.bQ;refine aa 0x2a6e70211ce1 ?_;refine fs 15 (fun Cn=>?_) fun Cn=>?_
 ·exfalso;have wO:(n:Int)<0:=Cn;omega
 ·refine aa 0x15373abeaf846f7b ?_;refine lj fun ar7=>?_;refine W.ed rfl fun a9 N8=>?_;refine br (G:=AD (z:=((n / d:Nat):Int)) Nat.one_pos rfl (fun _=>lJ.2 (iff_of_false (show ¬(n:Int)<0 by omega) (Int.not_lt.2 (nz _)))) (ajg.mono a9) (Kj N8) ajk ab) (h:=?_);rintro v' m' de hle ⟨cq,rfl,en,fR,rfl,b3⟩;rw[Aj] at b3 ⊢;have cg:=b3;obtain⟨gy,eI,rfl,mO⟩:=b3.n.bQ;obtain⟨kJ,b2,rfl,nr⟩:=b3.d.bQ;refine aa 0xd5f1c ?_;refine bo ?_;exact⟨aM.trans (a9.trans cq),rfl,_,_,rfl,cg⟩
theorem akl{p d:Nat}{v1 v2:Value}(aq:kI J ⟨(p:Int),d⟩ v1 v2)(ao:p<1000000000000000000):Fn (aT Q g0) 63 [eC ⟨(p:Int),d⟩ v1 v2] [] J (fun u m' ae=>J.le ae/\m'=[]/\u=.tuple #[.int .i64 (p:Int),.int .i64 0]):=by
 have hj:cD J v1 p:=aq.n;have ix:cD J v2 d:=aq.d;obtain⟨bs,bp,rfl,aK⟩:=hj.bQ;obtain⟨bM,bN,rfl,aH⟩:=ix.bQ;have iX:(ag p).length<=2:=kZ (hA ao bm);have nV:iN p 9223372036854775808=-1:=o4 I;refine Fn.b8 (b7 Tryz.func63) rfl rfl fun H=>?_;refine rg ?_;refine gZ fun a7=>?_;refine aa 0x12dce042 ?_;refine lj fun j7=>?_;refine W.ed rfl fun aM rX=>?_;refine br (G:=KW (y:=9223372036854775808) (hj.mono aM) (by unfold cD;rw[alc];exact cJ.row (l:=[854775808,223372036,9]) bm bm bm rX) I) (h:=?_);rintro v' m' ae hle ⟨rfl,rfl,rfl⟩;rw[nV];refine aa 0x5f04 ?_;refine If (fun b2=>?_) fun b2=>?_
 ·exfalso;omega
 ·refine aa 0x357c08654b73816757 ?_;refine c8 [(5,.int .i64 ((((ag p).length):Int) -1)),(4,.int .i64 (0)),(1,_)] ?_;refine a' ?_;refine' aB.ja (fun(bE:Nat×Int)=>match bE with|(k,z)=>⟨[(5,.int .i64 ((k:Int) -1)),(4,.int .i64 z)],k<=(ag p).length/\z=-(aI ((ag p).drop k):Int),k⟩) ⟨(ag p).length,0⟩ ?hs ?bb
  case hs=>exact⟨bF _,by rw[sL (bF _)];rfl⟩
  case bb=>
   rintro⟨k,z⟩ hinv;try simp only at hinv
   obtain⟨hk,aG⟩:=hinv;refine aa 0x17c1039 ?_;refine If (fun l8=>?_) fun l8=>?_
   ·obtain⟨ot,o,qR,e,rfl,gD,ar⟩:=cD.at (hj.mono aM) (oE I);obtain⟨a,aF,nj,iV⟩:=ar (k -1) I;have nj:nth qR (o+((k:Int) -1).toNat*1)=some (.int .u32 (a:Int)):=by
     rw[show((k:Int) -1).toNat=k -1 by omega];exact nj
    have aj0:=vt aF;rw[show k -1+1=k by omega] at aj0;have PL:aI ((ag p).drop (k -1))<=p:=by rw[OR];exact qE _ _
    refine aa 0x1810c39c086e4982968c39d5f57 ?_;refine jf ⟨k -1,z*1000000000 -(a:Int)⟩ ?_;exact⟨I,I⟩
   ·have wH:k=0:=I
    rw[wH,g5,e1] at aG;refine aa 0x5f096e757 ?_;refine If (fun IS=>?_) fun IS=>?_
    ·exfalso;have wO:(p:Int)<0:=IS;omega
    ·refine aa 0x10e757 ?_;refine' W.step rfl (Exec.val rfl rfl (xC rfl rfl ?hw) ?_);case hw=>first|exact wrap_i64 I I|exact wrap_u8 I I|exact wrap_u64 I I|exact wrap_u32 I I|rfl
     refine aa 0x24 ?_;refine fs 35 (fun agK=>?_) fun agK=>?_
     ·refine aa 0x17c2081 ?_;refine If (fun l9=>?_) fun l9=>?_
      ·exfalso;omega
      ·refine aa 0xe757 ?_;refine' W.step rfl (Exec.val rfl rfl (xC rfl rfl ?hw) ?_);case hw=>first|exact wrap_i64 I I|exact wrap_u8 I I|exact wrap_u64 I I|exact wrap_u32 I I|rfl
       refine aa 0x1abe042 ?_;refine bo ?_;exact⟨aM,rfl,by rw[aG,LU];rfl⟩
     ·refine aa 0x39d5f57c237b ?_;refine' W.step rfl (Exec.val rfl rfl (xC rfl rfl ?hw) ?_);case hw=>first|exact wrap_i64 I I|exact wrap_u8 I I|exact wrap_u64 I I|exact wrap_u32 I I|rfl
      refine aa 0x1abe042 ?_;refine bo ?_;exact⟨aM,rfl,by rw[aG,LU];rfl⟩
end
def jC(J:af)(x:b5)(cs:List Value):Prop:=∃v1 v2,cs=[.bool x.neg,v1,v2]/\o0 J x v1 v2
theorem jC.mono{J ae:af}(hle:J.le ae){x:b5}{cs:List Value}(h:jC J x cs):jC ae x cs:=by
 obtain⟨v1,v2,ab,ad⟩:=h;exact⟨v1,v2,ab,ad.mono hle⟩
theorem o0.ok{J:af}{x:b5}{v1 v2:Value}(h:o0 J x v1 v2)(U:kQ x=0):kI J x.rt v1 v2:=by
 obtain⟨_,ab,ad,_⟩:=rR U;exact h.DF ⟨by rw[ab];exact zI _,by rw[ad];exact zI _⟩
theorem Ns{J:af}{e:TypeId}{v:Value}{l:List b5}(h:dz J e 3 (jC J) v l):qs l:=fun x U=>by
 obtain⟨cs,_,ad⟩:=h;obtain⟨i,ak⟩:=zm.1 U;obtain⟨v1,v2,_,aq⟩:=ad i x ak;exact⟨aq.fG,aq.lx⟩
theorem Yn{l:List b5}:kj (l.take 0):=by
 rw[fq];intro x U;cases U
theorem ZM{l:List b5}{i:Nat}(h:qs l):qs (l.take i):=fun x U=>h x (vG U)
theorem ap4{l:List b5}{i:Nat}{x:b5}(h:l[i]?=some x):l.take (i+1)=l.take i++[x]:=by rw[ko,h];rfl
theorem Zv{x:b5}:¬x.rt.z<0:=Int.not_lt.2 (nz _)
section
variable {Q:cZ Tryz.prog}{g0:Nat}{J:af}
theorem aoD{l:List b5}{b:Option Addr}{c:Nat}(h:dz J 47 3 (jC J) (.slice b l.length c) l)(iX:l.length<=9223372036854775807):Fn (aT Q g0) 38 [.slice b l.length c] [] J (fun u m' ae=>J.le ae/\m'=[]/\u=.int .i64 (lA l)):=by
 have ly:addrEq b b=true:=h.addr;obtain⟨_,db⟩:=h.at;have hn:=Ns h;refine Fn.b8 (b7 Tryz.func38) rfl rfl fun H=>?_;refine aa 0x6059 ?_;refine dN [0] ?_;refine a' ?_;refine' aB.fD 0 [(13,.bool (decide ((l.length<1\/10<l.length))))] ?kM ?kP;case kM=>
  refine aa 0x12143a ?_;refine fs 9 (fun iU=>?_) fun iU=>?_
  ·refine aa 0x1846f7b ?_;refine dO (dS ?_);omega
  ·refine aa 0x18410a1 ?_;refine dO (dS ?_);omega
 case kP=>
  refine a' ?_;refine If (fun qM=>?_) fun qM=>?_
  ·have he:=Rj qM;refine aa 0x1abe059 ?_;refine bo ?_;first
    |exact⟨af.le.refl _,rfl,by rw[he];rfl⟩
    |exact⟨bS.trans a9,rfl,by rw[he];rfl⟩
    |exact⟨(bS.trans a9).trans cq,rfl,by rw[he];rfl⟩
  ·refine P7 ?_;refine br (G:=LB (z:=0) bm) (h:=?_);rintro v' m' bi hle ⟨aM,rfl,en,fR,rfl,b3⟩;have cg:=b3;obtain⟨gy,eI,rfl,mO⟩:=b3.n.bQ;obtain⟨kJ,b2,rfl,nr⟩:=b3.d.bQ;refine gn fun cu=>?_;refine aa 0x6af81671c ?_;refine c8 [(4,.int .i64 ((0):Int)),(0,_),(3,_)] ?_;refine a' ?_;refine' aB.bA (fun(bE:Nat×Value×Value×af)=>match bE with|(i,bt,cv,cb)=>⟨[(4,.int .i64 (i:Int))],[(cu,.row [.bool false,bt,cv] 47)],cb,i<=l.length/\J.le cb/\kj (l.take i)/\kI cb (jv (l.take i)) bt cv,l.length -i⟩) ⟨0,.slice gy _ eI,.slice kJ _ b2,bi⟩ ?hs ?bb
   case hs=>exact⟨df _,aM,Yn,by rw[fq,aqc];exact cg⟩
   case bb=>
    rintro⟨i,bt,cv,cb⟩ hinv;try simp only at hinv
    obtain⟨ak,bS,bu,b3⟩:=hinv;have yg:=b3;obtain⟨cB,cN,rfl,bJ⟩:=b3.n.bQ;obtain⟨ep,e',rfl,dU⟩:=b3.d.bQ;refine aa 0x5f0428439 ?_;refine If (fun hW=>?_) fun hW=>?_
    ·obtain⟨a,off,cells,bC,rfl,ke,fN⟩:=db I;obtain⟨x,cs,U,hZ,q8,v1,v2,rfl,dq⟩:=fN i I I;rw[h9] at U;have ke:=bS _ _ ke;have nb:=dq.mono bS;obtain⟨bs,bp,rfl⟩:=dq.n.form;obtain⟨bM,bN,rfl⟩:=dq.d.form;have wH:=q8 0 _ bm rfl;refine aa 0xc30439d5f57 ?_;refine br (G:=aoc nb) (h:=?_);rintro v' m' de hle ⟨a9,rfl,rfl⟩;have asX:=a9 _ _ ke;refine aa 0x302 ?_;refine dN [0,3,4,5] ?_;refine a' ?_;refine' aB.fD 0 [(27,.bool (decide ((mP x≠0))))] ?ael ?afe;case ael=>
      refine aa 0xc103a ?_;refine dO (dS ?_);omega
     case afe=>
      refine a' ?_;refine If (fun gK=>?_) fun gK=>?_
      ·
        have hR:=Nr gK;have he:=Hp qM (by rw[wh bu U (by rw[hR];exact gK),hR];exact gK);rw[wh bu U (by rw[hR];exact gK),hR] at he;refine aa 0x357c0839 ?_;refine bo ?_;first
         |exact⟨af.le.refl _,rfl,by rw[he];rfl⟩
         |exact⟨bS.trans a9,rfl,by rw[he];rfl⟩
         |exact⟨(bS.trans a9).trans cq,rfl,by rw[he];rfl⟩
      ·
        have gK:mP x=0:=iF fun q=>gK q;refine aa 0x2f84b4c10e757 ?_;refine If (fun EC=>?_) fun EC=>?_
        ·have hR:=Nq gK EC;have he:=Hp qM (by rw[wh bu U (by rw[hR];decide),hR];decide);rw[wh bu U (by rw[hR];decide),hR] at he;refine aa 0x1abe059 ?_;refine bo ?_;first
          |exact⟨af.le.refl _,rfl,by rw[he];rfl⟩
          |exact⟨bS.trans a9,rfl,by rw[he];rfl⟩
          |exact⟨(bS.trans a9).trans cq,rfl,by rw[he];rfl⟩
        ·have wO:x.neg=false:=EC;have hR:=Ut gK wO;have JU:kj (l.take (i+1)):=Hw (P:=fun y=>kQ y=0) bu U hR;have F2:(l.take i).length<=10:=by rw[dY];omega
         have ox:=aan bu (ZM hn) F2;have iP:=Uu hR (hn x (gh U));have F3:=Hx JU;refine aa 0x5f57 ?_;refine aB.draw rfl (by kernel_rfl) (aX:=[.val 0,.val 1,.val 2,.val 3,.val 4,.bD 5,.bD 6]) (by kernel_rfl) ?_;refine aa 0x3cc3042c ?_;refine' bh.dV rfl rfl rfl rfl rfl rfl rfl rfl rfl dt (Q9 (r:=jv (l.take i)) (s:=x.rt) (gL (Hx bu)).symm (by rw[wO,gL Zv]) (yg.mono a9) ((nb.mono a9).ok hR) (Lo bu).1 (rR hR).2.2.2.1 I I I I) ?_;rintro v' m' fe hle ⟨cq,rfl,en,fR,rfl,b3⟩;rw[aqe bu hR,<-ap4 U] at b3 ⊢;have nS:=b3;obtain⟨fw,gz,rfl,fP⟩:=b3.n.bQ;obtain⟨fi,eu,rfl,je⟩:=b3.d.bQ;refine aa 0x639e ?_;rw[gL F3];refine aa 0x1810c39 ?_;refine eH ⟨i+1,.slice fw _ gz,.slice fi _ eu,fe⟩ ?_ (hm:=.refl _);exact⟨I,bS.trans (a9.trans cq),JU,nS⟩
    ·have ty:l.take i=l:=cM I;have oA:kj l:=by
        have:=bu;rw[ty] at this;exact this
     have Wq:(iB (l.take i)).sum=(iB l).sum/\hg (l.take i)=hg l:=⟨by rw[ty],by rw[ty]⟩;have u0:=aao bu;rw[Wq.1,Wq.2] at u0;have F2:(l.take i).length<=10:=by rw[dY];omega
     have ox:=aan bu (ZM hn) F2;have ag8:(ag 1).length<=1:=kZ bm;have F3:=Hx bu;refine aa 0x5f57 ?_;refine aB.draw rfl (by kernel_rfl) (aX:=[.val 0,.bD 1,.ca [0],.bD 2,.val 3]) (by kernel_rfl) ?_;refine aa 0x3cc ?_;refine' bh.dV rfl rfl rfl rfl rfl rfl rfl rfl rfl dt (LB (z:=1) bm) ?_;rintro v' m' de hle ⟨a9,rfl,en,fR,rfl,hD⟩;have cg:=hD;obtain⟨jV,fB,rfl,rq⟩:=hD.n.bQ;obtain⟨jm,fC,rfl,pA⟩:=hD.d.bQ;refine bh.ca ft ?_;refine' bh.dV rfl rfl rfl rfl rfl rfl rfl rfl rfl (cF (dh rfl) dt) (Yw (r:=jv (l.take i)) (s:=⟨1,1⟩) (yg.mono a9) cg (Lo bu).1 Nat.one_pos I I (by show(ag 1).length<=20000;omega) (by show(ag 1).length<=20000;omega)) ?_;rintro v' m' fe hle ⟨cq,rfl,rfl⟩;refine aa 0xbe09e ?_;refine If (fun zG=>?_) fun zG=>?_
     ·have he:=Rk qM oA (fun q=>zG (u0.2 q));refine aa 0x1abe059 ?_;refine bo ?_;first
        |exact⟨af.le.refl _,rfl,by rw[he];rfl⟩
        |exact⟨bS.trans a9,rfl,by rw[he];rfl⟩
        |exact⟨(bS.trans a9).trans cq,rfl,by rw[he];rfl⟩
     ·have he:=Zh qM oA (u0.1 (iF fun q=>zG q));refine aa 0x6af816757 ?_;refine bo ?_;first
        |exact⟨af.le.refl _,rfl,by rw[he];rfl⟩
        |exact⟨bS.trans a9,rfl,by rw[he];rfl⟩
        |exact⟨(bS.trans a9).trans cq,rfl,by rw[he];rfl⟩
end
theorem GC{n:Int}{d k:Nat}(al:0<d)(ab:(ag n.natAbs).length<=k)(ad:(ag d).length<=k):(ag (bn n d).z.natAbs).length<=k/\(ag (bn n d).d).length<=k:=by
 have aL:=QK (z:=n) al;exact⟨dA (n5 aL.1) ab,dA (n5 aL.2) ad⟩
theorem jC.ok{J:af}{x:b5}{cs:List Value}(h:jC J x cs)(U:kQ x=0):pO J x.rt cs:=by
 obtain⟨v1,v2,rfl,aq⟩:=h;refine⟨v1,v2,?_,aq.ok U⟩;show _=[Value.bool (decide (x.rt.z<0)),v1,v2];rw[gL Zv,(rR U).1]
theorem dz.DF{J:af}{e:TypeId}{v:Value}{l:List b5}(h:dz J e 3 (jC J) v l)(bu:kj l):dz J e 3 (pO J) v ((iB l).map fun p:Nat=>bn (p:Int) (hg l)):=by
 rw[Ro bu];obtain⟨cs,ab,ad⟩:=h;refine⟨cs,by rw[eP];exact ab,fun i r aq=>?_⟩;rw[j6] at aq;obtain⟨x,U,rfl⟩:=vL.1 aq;exact(ad i x U).ok (bu x (gh U))
section
variable {Q:cZ Tryz.prog}{g0:Nat}{J:af}
end
section
variable {K:dy}{J uh:af}{fn:Func}{E:b0}{m m':aO}{bk:List PanicEntry}{gT:Value->aO->af->Prop}{e9:List PanicEntry->aO->af->Prop}
theorem oJ(h:e9 bk [] uh)(al:E.ds.ds=[]:=by exact rfl):Leaves K fn (.panic bk) E m uh gT e9:=⟨_,rfl,.inl ⟨al,.inr ⟨_,[],rfl,kF _,h⟩⟩⟩
end
def Tk(J:af)(e:Int)(bk:List PanicEntry)(m':aO)(ae:af):Prop:=m'=[]/\J.le ae/\e≠0/\bk=[{v:=.iface 101 (.agg #[.int .i64 e]),recovered:=false}]
theorem aqd{l:List b5}(h:kj l):iN ((jv l).z.natAbs*(⟨((1:Nat):Int),1⟩:cY).d) ((⟨((1:Nat):Int),1⟩:cY).z.natAbs*(jv l).d)=0↔(iB l).sum=hg l:=by
 rw[MY,<-aao h];have:=Hx h;show(jv l).z.natAbs*1=1*(jv l).d↔_;rw[gJ,h'];unfold sv;split
 ·omega
 ·split<;>omega
section
variable {Q:cZ Tryz.prog}{g0:Nat}{J:af}
theorem aof{l:List b5}{b:Option Addr}{c:Nat}{e:TypeId}(b1:J 2=some (bW .u8 ms,e))(ax:Nat.blt 2 (aT Q g0).g0=true)(h:dz J 47 3 (jC J) (.slice b l.length c) l)(iX:l.length<=1000):
 lb (aT Q g0) 40 [.slice b l.length c] [] J (fun u m' ae=>J.le ae/\m'=[]/\lA l=0/\∃b' c',u=.slice b' l.length c'/\dz ae 82 3 (mw ae) (.slice b' l.length c') ((iB l).map fun p:Nat=>bn (p:Int) (hg l))) (Tk J (lA l)):=by
 have ly:addrEq b b=true:=h.addr;obtain⟨_,db⟩:=h.at;have hn:=Ns h;refine lb.b8 (b7 Tryz.func40) rfl rfl fun H=>?_;refine aa 0x6059 ?_;refine dN [0] ?_;refine a' ?_;refine' aB.fD 0 [(14,.bool (decide ((l.length<1\/10<l.length))))] ?kM ?kP;case kM=>
  refine aa 0x12143a ?_;refine fs 10 (fun iU=>?_) fun iU=>?_
  ·refine aa 0x1846f7b ?_;refine dO (dS ?_);omega
  ·refine aa 0x18410a1 ?_;refine dO (dS ?_);omega
 case kP=>
  refine a' ?_;refine If (fun dZ=>?_) fun dZ=>?_
  ·have he:=Rj dZ;refine aa 0x4e19 ?_;refine' W.panic rfl rfl rfl ?_;first
    |exact oJ ⟨rfl,af.le.refl _,by rw[he];decide,by rw[he]⟩
    |exact oJ ⟨rfl,bS.trans a9,by rw[he];exact iv,by rw[he]⟩
    |exact oJ ⟨rfl,bS.trans a9,by rw[he];decide,by rw[he]⟩
    |exact oJ ⟨rfl,bS.trans (aM.trans (a9.trans (cq.trans ec))),by rw[he];decide,by rw[he]⟩
  ·refine aa 0x1abe0250e757 ?_;refine c8 [(19,.int .i64 ((0):Int)),(0,_),(17,_),(18,_)] ?_;refine a' ?_;refine' aB.bA (fun(bE:Nat×af)=>match bE with|(i,cb)=>⟨[(19,.int .i64 (i:Int))],[],cb,i<=l.length/\J.le cb/\kj (l.take i),l.length -i⟩) ⟨0,J⟩ ?hs ?bb
   case hs=>exact⟨df _,af.le.refl _,Yn⟩
   case bb=>
    rintro⟨i,cb⟩ hinv;try simp only at hinv
    obtain⟨ak,bS,bu⟩:=hinv;refine aa 0xbe099 ?_;refine If (fun hM=>?_) fun hM=>?_
    ·obtain⟨a,off,cells,bC,rfl,ke,fN⟩:=db I;obtain⟨x,cs,U,hZ,q8,v1,v2,rfl,dq⟩:=fN i I I;rw[h9] at U;have ke:=bS _ _ ke;have nb:=dq.mono bS;obtain⟨bs,bp,rfl⟩:=dq.n.form;obtain⟨bM,bN,rfl⟩:=dq.d.form;refine aa 0x30d9d5f57 ?_;refine gn fun c9=>?_;refine aa 0x6671c ?_;refine br (G:=aod (bS _ _ b1) ax nb) (h:=?_);rintro v' m' de hle ⟨rfl,rfl,a9⟩;refine aa 0x302 ?_;refine dN [0,4,5,17,18,19] ?_;refine a' ?_;refine' aB.fD 0 [(26,.bool (decide ((mP x≠0))))] ?zK ?zQ;case zK=>
      refine aa 0xc103a ?_;refine dO (dS ?_);omega
     case zQ=>
      refine a' ?_;refine If (fun iv=>?_) fun iv=>?_
      ·
        have hR:=Nr iv;have he:=Hp dZ (by rw[wh bu U (by rw[hR];exact iv),hR];exact iv);rw[wh bu U (by rw[hR];exact iv),hR] at he;refine aa 0x9c039 ?_;refine' W.panic rfl rfl rfl ?_;first
         |exact oJ ⟨rfl,af.le.refl _,by rw[he];decide,by rw[he]⟩
         |exact oJ ⟨rfl,bS.trans a9,by rw[he];exact iv,by rw[he]⟩
         |exact oJ ⟨rfl,bS.trans a9,by rw[he];decide,by rw[he]⟩
         |exact oJ ⟨rfl,bS.trans (aM.trans (a9.trans (cq.trans ec))),by rw[he];decide,by rw[he]⟩
      ·
        have iv:mP x=0:=iF fun q=>iv q;refine aa 0x5f096e757 ?_;refine If (fun mC=>?_) fun mC=>?_
        ·have hR:=Nq iv mC;have he:=Hp dZ (by rw[wh bu U (by rw[hR];decide),hR];decide);rw[wh bu U (by rw[hR];decide),hR] at he;refine aa 0x4e19 ?_;refine' W.panic rfl rfl rfl ?_;first
          |exact oJ ⟨rfl,af.le.refl _,by rw[he];decide,by rw[he]⟩
          |exact oJ ⟨rfl,bS.trans a9,by rw[he];exact iv,by rw[he]⟩
          |exact oJ ⟨rfl,bS.trans a9,by rw[he];decide,by rw[he]⟩
          |exact oJ ⟨rfl,bS.trans (aM.trans (a9.trans (cq.trans ec))),by rw[he];decide,by rw[he]⟩
        ·have wO:x.neg=false:=mC;have hR:=Ut iv wO;have JU:kj (l.take (i+1)):=Hw (P:=fun y=>kQ y=0) bu U hR;refine aa 0x3011e757 ?_;refine eH ⟨i+1,de⟩ ?_ (hm:=.cons _ (.refl _));exact⟨I,bS.trans a9,JU⟩
    ·have ty:l.take i=l:=cM I;have oA:kj l:=by
        have:=bu;rw[ty] at this;exact this
     have hs:=s7 oA;have ln:=EN oA hn;have uZ:=Zu oA hn;have aik:=GB (hg l);have atE:=GB (iB l).sum;have dq:=(dz.mono (R':=jC cb) bS (fun _ _ q=>q.mono bS) h).DF oA;rw[Ro oA] at dq;have VV:=list_fn (Q:=Q) (g0:=g0) (J:=cb) (b:=b) (c:=c) (rs:=l.map b5.rt) (by rw[eP];exact dq) (by rw[eP];omega) (fun r aq=>by
        obtain⟨x,U,rfl⟩:=pM.1 aq;have he:=Uu (oA x U) (hn x U);exact⟨(rR (oA x U)).2.2.2,⟨dA he.1 bm,dA he.2 bm⟩⟩)
     rw[eP,<-Ro oA] at VV;have ajN:∀{ae:af} {cB:Option Addr} {cN:Nat},dz ae 82 3 (mw ae) (.slice cB l.length cN) ((iB l).map fun p:Nat=>bn (p:Int) (hg l))->Fn (aT Q g0) 76 [.slice cB l.length cN] [] ae (ur ae (jv l)):=fun{ae cB cN} fc=>by
        have:=aqf (Q:=Q) (g0:=g0) (ps:=iB l) (s:=hg l) (b:=cB) (c:=cN) (J:=ae) (by rw[qt];exact fc) hs I I (by rw[qt];omega);rw[qt] at this;exact this
     have ra:=Hx oA;have OL:lG 10000 (jv l):=zZ hs I I;have o8:lG 1 (⟨((1:Nat):Int),1⟩:cY):=lG.mk (by show(aS 1).length<=1;exact GR bm) (by show(aS 1).length<=1;exact GR bm);have u0:=aqd oA;refine aa 0xe757 ?_;refine br (G:=VV) (h:=?_);rintro v' m' bi aM ⟨_,rfl,cB,cN,rfl,fc⟩;have bJ:addrEq cB cB=true:=fc.addr;refine aa 0xe702 ?_;refine br (G:=ajN fc) (h:=?_);rintro v' m' de a9 ⟨_,rfl,bt,cv,rfl,b3⟩;have yg:=b3;obtain⟨ep,gA,e',rfl,dU,_,_⟩:=b3.n.cA;obtain⟨fw,jO,gz,rfl,fP,_,_⟩:=b3.d.cA;refine br (G:=WR (n:=1) bm bm) (h:=?_);rintro v' m' fe cq ⟨_,rfl,bt,cv,rfl,cg⟩;have Cr:=cg;obtain⟨fi,gm,eu,rfl,je,_,_⟩:=cg.n.cA;obtain⟨jV,yI,fB,rfl,rq,_,_⟩:=cg.d.cA;refine br (G:=T3 (yg.mono cq) Cr (Lo oA) ⟨by decide,by decide⟩ I bm OL o8 I I) (h:=?_);rintro v' m' l5 ec ⟨rfl,rfl,_⟩;refine aa 0x5f04 ?_;refine If (fun MN=>?_) fun MN=>?_
     ·have he:=Rk dZ oA (fun q=>MN (u0.2 q));refine aa 0x4e19 ?_;refine' W.panic rfl rfl rfl ?_;first
        |exact oJ ⟨rfl,af.le.refl _,by rw[he];decide,by rw[he]⟩
        |exact oJ ⟨rfl,bS.trans a9,by rw[he];exact iv,by rw[he]⟩
        |exact oJ ⟨rfl,bS.trans a9,by rw[he];decide,by rw[he]⟩
        |exact oJ ⟨rfl,bS.trans (aM.trans (a9.trans (cq.trans ec))),by rw[he];decide,by rw[he]⟩
     ·have he:=Zh dZ oA (u0.1 (iF fun q=>MN q));refine aa 0xd5f020e757 ?_;exact LE (m':=[]) ⟨bS.trans (aM.trans (a9.trans (cq.trans ec))),rfl,he,cB,cN,rfl,dz.mono (R':=mw l5) (a9.trans (cq.trans ec)) (fun _ _ q=>q.mono (a9.trans (cq.trans ec))) fc⟩
end
def Mh(F:oP->Prop)(bA:Nat)(G:aO->af->Prop)(m:aO)(ae:af):Prop:=∃r sk,F r/\m=(bA,.loop r)::sk/\G sk ae
def abX(bA:Nat)(G:aO->af->Prop)(m:aO)(ae:af):Prop:=∃r sk,m=(bA,.loop r)::sk/\(r.state≠.busy/\r.pending=some .ret)/\G sk ae
def Jc{r:oP}{n:Nat}{ps:List Tmp}{x1 uz:Code}{bA:Nat}{l:List (Nat×Value)}(_:ue r n ps x1 uz bA l)(ch:oP):Prop:=ue ch n ps x1 uz bA l
theorem Cj{r ch:oP}{n:Nat}{ps:List Tmp}{x1 uz:Code}{bA:Nat}{l:List (Nat×Value)}{h:ue r n ps x1 uz bA l}(gO:Jc h ch):ch.state≠.busy/\ch.pending=none:=⟨(by rw[ue.iC gO];intro q;cases q),ue.vl gO⟩
abbrev pL(J:af)(l:List Int)(v:Value):Prop:=mY J v l
theorem mY.addr{J:af}{b:Option Addr}{n c:Nat}{l:List Int}(h:mY J (.slice b n c) l):addrEq b b=true:=by obtain⟨e,h⟩:=h;exact h.addr
theorem bits_nat{bits:Int}(h:¬(bits<1\/30<bits)):∃k M:Nat,bits=(k:Int)/\k<=30/\M=2 ^ k/\IntKind.i64.wrap (1*2 ^ ((k:Nat):Int).toNat)=(M:Int)/\M<=1073741824/\0<M:=by
 obtain⟨k,hk⟩:∃k:Nat,bits=(k:Int):=⟨bits.toNat,I⟩;obtain⟨ab,ad,aL⟩:=Rw (b:=k) I;exact⟨k,_,hk,I,rfl,ab,ad,aL⟩
section
variable {Q:cZ Tryz.prog}{g0:Nat}{J:af}
theorem aag{ts:List (List Int)}{bits:Int}{b:Option Addr}{c:Nat}(h:dz J 43 1 (dC (pL J)) (.slice b ts.length c) ts)(iX:ts.length<9223372036854775807)(hl:∀l∈ts,l.length<9223372036854775807):
 Fn (aT Q g0) 16 [.agg #[.int .i64 bits,.slice b ts.length c]] [] J (fun u m' ae=>u=.int .i64 (nv bits ts)/\m'=[]/\J=ae):=by
 have aH:addrEq b b=true:=h.addr;have db:=h.db;refine Fn.KO (b7 Tryz.func16) rfl rfl fun H=>?_;refine rg ?_;refine gZ fun a7=>?_;refine gn fun bc=>?_;refine kr ?_;refine dN [1,2] ?_;refine a' ?_;refine' aB.fD 0 [(14,.bool (decide ((bits<1\/30<bits))))] ?kM ?kP;case kM=>
  refine aa 0x1225ba ?_;refine fs 10 (fun iU=>?_) fun iU=>?_
  ·refine aa 0x1846f7b ?_;refine dO (dS ?_);omega
  ·refine aa 0x184112d ?_;refine dO (dS ?_);omega
 case kP=>
  refine a' ?_;refine If (fun dZ=>?_) fun dZ=>?_
  ·have he:=aaa (ts:=ts) dZ;refine aa 0x1abe399 ?_;refine'⟨.inr rfl,_,_,[],(by first|exact .nil _|exact .vZ (gu 3 rfl (gu 0 rfl (gu 0 rfl (gu 0 rfl .nil)))) (.nil _)),.cell rfl (by repeat first|exact .head _|refine .tail _ ?_|refine iI _ ?_) (iy (g2 rfl) rfl) (.nil),kF _,?_⟩;first
    |exact⟨by rw[he];rfl,rfl,rfl⟩
    |exact⟨by rw[he,uY];rfl,rfl,rfl⟩
  ·refine aa 0x17c10a96e757 ?_;refine If (fun hW=>?_) fun hW=>?_
   ·have he:=aab (ts:=ts) dZ I;refine aa 0x1abe399 ?_;refine'⟨.inr rfl,_,_,[],(by first|exact .nil _|exact .vZ (gu 3 rfl (gu 0 rfl (gu 0 rfl (gu 0 rfl .nil)))) (.nil _)),.cell rfl (by repeat first|exact .head _|refine .tail _ ?_|refine iI _ ?_) (iy (g2 rfl) rfl) (.nil),kF _,?_⟩;first
      |exact⟨by rw[he];rfl,rfl,rfl⟩
      |exact⟨by rw[he,uY];rfl,rfl,rfl⟩
   ·have he:=aac (ts:=ts) dZ I;obtain⟨k,M,hk,CH,wo,iw,q1,q0⟩:=bits_nat dZ;subst hk;rw[h9,<-wo] at he;refine aa 0x96e757 ?_;refine br (G:=Zr aH) (h:=?_);rintro v' m' bi hle ⟨oq,rfl,rfl,rfl⟩;refine aa 0xbeaf8 ?_;refine aB.Rg rfl rfl (fun kO bA r aq=>?_);refine⟨(oq,_)::[(bA,_),(bc,_),(a7,_)],[(kO,_)],_,_,(gu 2 rfl (gu 0 rfl (gu 1 rfl (gu 1 rfl (gu 0 rfl .nil))))),trivial,Zq (e9:=fun _ _ _=>False) (om:=fun i=>Mh (Jc aq) bA (fun m ae=>m=[(bc,.row [.int .i64 0] 31),(a7,.row [.int .i64 (k:Int),.slice b ts.length c] 26)]/\J=ae/\∀y∈ts.take i,ns M y=0)) (uo:=abX bA (fun m ae=>m=[(bc,.row [.int .i64 (p0 (ns M) ts)] 31),(a7,.row [.int .i64 (k:Int),.slice b ts.length c] 26)]/\J=ae)) iX db ⟨_,_,aq,rfl,rfl,rfl,fun y au=>by cases au⟩ ?hh,(fun _ _ _ _ q=>q.2.elim),?r1⟩;case hh=>
      rintro i v m cb ak ⟨l,ap,a4⟩ bS ⟨cX,sk,yh,rfl,rfl,rfl,bu⟩;have uX:=hl l (gh ap);have a4:mY J v l:=a4;obtain⟨bs,bp,rfl,yl,Jm⟩:=a4.inv;have aK:addrEq bs bs=true:=a4.addr;refine sX.QT yh (by repeat first|exact .head _|refine .tail _ ?_|refine iI _ ?_) rfl rfl (fun H=>?_);refine aa 0x6059 ?_;refine⟨rfl,_,(by repeat first|exact .head _ _ _ _|apply eS.tail|apply eS.app),?_⟩;refine aa 0x357 ?_;refine dN [1,2,3] ?_;refine a' ?_;refine' aB.fD 0 [(30,.bool (decide ((l.length<1\/10<l.length))))] ?zK ?zQ;case zK=>
        refine aa 0x12143a ?_;refine fs 26 (fun NV=>?_) fun NV=>?_
        ·refine aa 0x1846f7b ?_;refine dO (dS ?_);omega
        ·refine aa 0x18410a1 ?_;refine dO (dS ?_);omega
      case zQ=>
        refine a' ?_;refine If (fun zD=>?_) fun zD=>?_
        ·have cx:=Zl (M:=M) zD;refine aa 0x1abe399 ?_;refine .inl ⟨some .ret,_,_,_,rfl,(by repeat first|exact .head _ _ _ _|apply eS.tail|apply eS.app),.refl _,?_⟩;exact⟨false,rfl,(fun q=>by cases q),fun _=>⟨_,_,rfl,⟨(fun q=>by cases q),rfl⟩,by rw[ye bu ap (by rw[cx];decide),cx],rfl⟩⟩
        ·refine aa 0xd5f012873816757 ?_;refine c8 [(33,.int .i64 ((0):Int)),(4,.int .i64 ((l.take (0)).sum)),(1,_),(2,_),(31,_),(32,_)] ?_;refine a' ?_;refine' aB.ja (fun(j:Nat)=>⟨[(33,.int .i64 (j:Int)),(4,.int .i64 ((l.take j).sum))],j<=l.length/\vo M (l.take j),l.length -j⟩) (0) ?hs ?bb;case hs=>exact⟨df _,ZK⟩
         case bb=>
          rintro j hinv;try simp only at hinv
          obtain⟨aY,hn⟩:=hinv;refine aa 0xbe099 ?_;refine If (fun zE=>?_) fun zE=>?_
          ·obtain⟨x1,Q5,M',Nu,rfl,wm,Ae⟩:=a4.DC I;obtain⟨x,U,nh⟩:=Ae j I;have dn:=Z7 U;obtain⟨fE,n1⟩:=Z4 (n:=10) hn (by rw[dY];omega);refine aa 0x18124d9d5f57 ?_;refine dN [1,2,4,6,31,32,33] ?_;refine a' ?_;refine' aB.fD 0 [(45,.bool (decide ((x<0\/(M:Int)<x))))] ?M6 ?Nl;case M6=>
            refine aa 0x903a ?_;refine fs 39 (fun agL=>?_) fun agL=>?_
            ·refine aa 0xdef7b ?_;first|rw[iw]|skip
             refine aa 0x611b ?_;refine dO (dS ?_);omega
            ·refine aa 0xa25a1 ?_;first|rw[iw]|skip
             refine aa 0x6104 ?_;refine dO (dS ?_);omega
           case Nl=>
            refine a' ?_;refine If (fun BZ=>?_) fun BZ=>?_
            ·have cx:=Zo zD U BZ;refine aa 0x1abe399 ?_;refine .inl ⟨some .ret,_,_,_,rfl,(by repeat first|exact .head _ _ _ _|apply eS.tail|apply eS.app),.refl _,?_⟩;exact⟨false,rfl,(fun q=>by cases q),fun _=>⟨_,_,rfl,⟨(fun q=>by cases q),rfl⟩,by rw[ye bu ap (by rw[cx];decide),cx],rfl⟩⟩
            ·have Py:=ZL hn U BZ;refine aa 0xc08610e757 ?_;rw[<-dn];refine aa 0xc0479 ?_;refine jf (j+1) ?_;exact⟨I,Py⟩
          ·obtain rfl:j=l.length:=I
           rw[cM (bF _)] at hn ⊢;refine aa 0x512d0e757 ?_;rw[iw];refine aa 0x5f04 ?_;refine If (fun rO=>?_) fun rO=>?_
           ·have cx:=Zp zD hn (fun q=>rO (by first|exact q|omega));refine aa 0x1abe399 ?_;refine .inl ⟨some .ret,_,_,_,rfl,(by repeat first|exact .head _ _ _ _|apply eS.tail|apply eS.app),.refl _,?_⟩;exact⟨false,rfl,(fun q=>by cases q),fun _=>⟨_,_,rfl,⟨(fun q=>by cases q),rfl⟩,by rw[ye bu ap (by rw[cx];decide),cx],rfl⟩⟩
           ·have cx:=Zn zD hn I;refine jg ?_;refine .inl ⟨none,_,_,_,rfl,(by repeat first|exact .head _ _ _ _|apply eS.tail|apply eS.app),ih _,?_⟩;exact⟨true,rfl,(fun _=>⟨_,_,yh.again,rfl,rfl,rfl,KS bu ap cx⟩),fun q=>by cases q⟩
    rintro v m' bi aM ⟨_,⟨cW,sk,qZ,rfl,rfl,rfl,bu⟩|⟨cW,sk,rfl,dn,rfl,rfl⟩⟩;case inr=>
      refine⟨cW,_,(.head _ _ _ _),dn.1,?_⟩;rw[dn.2];exact⟨.inr rfl,_,_,[],.vZ (gu 3 rfl (gu 0 rfl (gu 0 rfl (gu 0 rfl .nil)))) (.nil _),.cell rfl (by repeat first|exact .head _|refine .tail _ ?_|refine iI _ ?_) (iy (g2 rfl) rfl) .nil,kF _,by rw[he];exact⟨rfl,rfl,rfl⟩⟩
    have uY:p0 (ns M) ts=0:=Ja (by rw[cM (bF _)] at bu;exact bu);refine⟨cW,(bA,_)::[(bc,_),(a7,_),(kO,_)],(.head _ _ _ _),(Cj qZ).1,?_⟩;rw[(Cj qZ).2];refine aa 0x1abe399 ?_;refine'⟨.inr rfl,_,_,[],(by first|exact .nil _|exact .vZ (gu 3 rfl (gu 0 rfl (gu 0 rfl (gu 0 rfl .nil)))) (.nil _)),.cell rfl (by repeat first|exact .head _|refine .tail _ ?_|refine iI _ ?_) (iy (g2 rfl) rfl) (.nil),kF _,?_⟩;first
      |exact⟨by rw[he];rfl,rfl,rfl⟩
      |exact⟨by rw[he,uY];rfl,rfl,rfl⟩
theorem aaf{ts:List (List Int)}{bits:Int}{b:Option Addr}{c:Nat}(h:dz J 43 1 (dC (pL J)) (.slice b ts.length c) ts)(iX:ts.length<9223372036854775807)(hl:∀l∈ts,l.length<9223372036854775807):
 Fn (aT Q g0) 17 [.agg #[.int .i64 bits,.slice b ts.length c]] [] J (fun u m' ae=>u=.int .i64 (nv bits ts)/\m'=[]/\J=ae):=by
 have aH:addrEq b b=true:=h.addr;have db:=h.db;refine Fn.b8 (b7 Tryz.func17) rfl rfl fun H=>?_;refine rg ?_;refine gZ fun a7=>?_;refine aa 0x302 ?_;refine dN [1] ?_;refine a' ?_;refine' aB.fD 0 [(14,.bool (decide ((bits<1\/30<bits))))] ?kM ?kP;case kM=>
  refine aa 0x1225ba ?_;refine fs 10 (fun iU=>?_) fun iU=>?_
  ·refine aa 0x1846f7b ?_;refine dO (dS ?_);omega
  ·refine aa 0x184112d ?_;refine dO (dS ?_);omega
 case kP=>
  refine a' ?_;refine If (fun dZ=>?_) fun dZ=>?_
  ·have he:=aaa (ts:=ts) dZ;refine aa 0x1abe059 ?_;refine bo ?_;first
    |exact⟨by rw[he];rfl,rfl,rfl⟩
    |exact⟨by rw[he,j0,cx];rfl,rfl,rfl⟩
    |exact⟨by rw[he,uY];rfl,rfl,rfl⟩
  ·refine aa 0x17c10a96e757 ?_;refine If (fun hW=>?_) fun hW=>?_
   ·have he:=aab (ts:=ts) dZ I;refine aa 0x1abe059 ?_;refine bo ?_;first
      |exact⟨by rw[he];rfl,rfl,rfl⟩
      |exact⟨by rw[he,j0,cx];rfl,rfl,rfl⟩
      |exact⟨by rw[he,uY];rfl,rfl,rfl⟩
   ·have he:=aac (ts:=ts) dZ I;obtain⟨k,M,hk,CH,wo,iw,q1,q0⟩:=bits_nat dZ;subst hk;rw[h9,<-wo] at he;refine aa 0x6af816757 ?_;refine c8 [(3,.int .i64 ((0):Int)),(1,_)] ?_;refine a' ?_;refine' aB.ja (fun(i:Nat)=>⟨[(3,.int .i64 (i:Int))],i<=ts.length/\∀y∈ts.take i,ns M y=0,ts.length -i⟩) (0) ?hs ?bb;case hs=>exact⟨df _,fun y au=>by cases au⟩
    case bb=>
     rintro i hinv;try simp only at hinv
     obtain⟨ak,bu⟩:=hinv;refine aa 0xbe0854b439 ?_;refine If (fun rN=>?_) fun rN=>?_
     ·obtain⟨kt,off,cells,e,rfl,kS,fN⟩:=db I;obtain⟨v,ar,l,ap,a4⟩:=fN i I;have uX:=hl l (gh ap);have a4:mY J v l:=a4;obtain⟨bs,bp,rfl,yl,Jm⟩:=a4.inv;have aK:addrEq bs bs=true:=a4.addr;refine aa 0xc09260a5b9d5f57 ?_;refine dN [1,3,4] ?_;refine a' ?_;refine' aB.fD 0 [(38,.bool (decide ((l.length<1\/10<l.length))))] ?aem ?aff;case aem=>
        refine aa 0x12143a ?_;refine fs 34 (fun NW=>?_) fun NW=>?_
        ·refine aa 0x1846f7b ?_;refine dO (dS ?_);omega
        ·refine aa 0x18410a1 ?_;refine dO (dS ?_);omega
      case aff=>
        refine a' ?_;refine If (fun l9=>?_) fun l9=>?_
        ·have cx:=Zl (M:=M) l9;have j0:=ye bu ap (by rw[cx];decide);refine aa 0x1abe059 ?_;refine bo ?_;first
          |exact⟨by rw[he];rfl,rfl,rfl⟩
          |exact⟨by rw[he,j0,cx];rfl,rfl,rfl⟩
          |exact⟨by rw[he,uY];rfl,rfl,rfl⟩
        ·refine aa 0x357c0b3816757 ?_;refine c8 [(6,.int .i64 ((0):Int)),(5,.int .i64 ((l.take (0)).sum)),(1,_),(3,_),(4,_)] ?_;refine a' ?_;refine' aB.ja (fun(j:Nat)=>⟨[(6,.int .i64 (j:Int)),(5,.int .i64 ((l.take j).sum))],j<=l.length/\vo M (l.take j),l.length -j⟩) (0) ?hs ?bb;case hs=>exact⟨df _,ZK⟩
         case bb=>
          rintro j hinv;try simp only at hinv
          obtain⟨aY,hn⟩:=hinv;refine aa 0x5f0428439 ?_;refine If (fun EE=>?_) fun EE=>?_
          ·obtain⟨x1,Q5,M',Nu,rfl,wm,Ae⟩:=a4.DC I;obtain⟨x,U,nh⟩:=Ae j I;have dn:=Z7 U;obtain⟨fE,n1⟩:=Z4 (n:=10) hn (by rw[dY];omega);refine aa 0xd5f57 ?_;refine dN [1,3,4,5,6] ?_;refine a' ?_;refine' aB.fD 0 [(59,.bool (decide ((x<0\/(M:Int)<x))))] ?aei ?afb;case aei=>
            refine aB.Ui [] rfl (by kernel_rfl) (aX:=[.val 0,.val 1,.val 2,.val 3,.val 4,.val 5,.val 6,.val 7,.val 8,.val 9,.val 10,.val 11,.val 12,.val 13,.val 14]) (by kernel_rfl) ?_;refine aa 0x2449821 ?_;refine Mk 50 (fun agN=>?_) fun agN=>?_
            ·refine aa 0x6f7bdef7b ?_;first|rw[iw]|skip
             refine aa 0x611b ?_;refine dO (dS ?_);omega
            ·refine aa 0x512d49821 ?_;first|rw[iw]|skip
             refine aa 0x6104 ?_;refine dO (dS ?_);omega
           case afb=>
            refine a' ?_;refine If (fun MO=>?_) fun MO=>?_
            ·have cx:=Zo l9 U MO;have j0:=ye bu ap (by rw[cx];decide);refine aa 0x1abe059 ?_;refine bo ?_;first
              |exact⟨by rw[he];rfl,rfl,rfl⟩
              |exact⟨by rw[he,j0,cx];rfl,rfl,rfl⟩
              |exact⟨by rw[he,uY];rfl,rfl,rfl⟩
            ·have Py:=ZL hn U MO;refine aa 0x6043498210e757 ?_;rw[<-dn];refine aa 0x1810c39 ?_;refine jf (j+1) ?_;exact⟨I,Py⟩
          ·obtain rfl:j=l.length:=I
           rw[cM (bF _)] at hn ⊢;refine aa 0x512d0e757 ?_;rw[iw];refine aa 0x5f04 ?_;refine If (fun B1=>?_) fun B1=>?_
           ·have cx:=Zp l9 hn (fun q=>B1 (by first|exact q|omega));have j0:=ye bu ap (by rw[cx];decide);refine aa 0x1abe059 ?_;refine bo ?_;first
              |exact⟨by rw[he];rfl,rfl,rfl⟩
              |exact⟨by rw[he,j0,cx];rfl,rfl,rfl⟩
              |exact⟨by rw[he,uY];rfl,rfl,rfl⟩
           ·have cx:=Zn l9 hn I;refine aa 0x60430e757 ?_;refine jf (i+1) ?_;exact⟨I,KS bu ap cx⟩
     ·have uY:p0 (ns M) ts=0:=Ja (by rw[show i=ts.length by omega,cM (bF _)] at bu;exact bu);refine aa 0x6af816757 ?_;refine bo ?_;first
       |exact⟨by rw[he];rfl,rfl,rfl⟩
       |exact⟨by rw[he,j0,cx];rfl,rfl,rfl⟩
       |exact⟨by rw[he,uY];rfl,rfl,rfl⟩
end
theorem sU.hs{J oU:af}{x jw:Nat}(hle:oU.le J)(ew:jw=x){bl:aO}(hm:bl=[]):bl=[]/\oU.le J/\∀v m' bi de,sU oU jw v m' bi->bi.le de->J.le de->sU J x v m' de:=
 ⟨hm,hle,fun v m' bi de ⟨_,ad,aL⟩ fb fX=>⟨fX,ad,ew▸aL.mono fb⟩⟩
section
variable {Q:cZ Tryz.prog}{g0:Nat}{J:af}
theorem abG{n:Nat}(h:(ag n).length=0):n=0:=by
 rcases il n with q|q
 ·exact q
 ·rw[sg I,lc] at h;omega
theorem Zt{n:Nat}(az:n<1000000000000000000):Fn (aT Q g0) 71 [.int .i64 (n:Int)] [] J (fun u m' ae=>u=.int .u64 (n:Int)/\m'=[]/\J=ae):=by
 refine Fn.b8 (b7 Tryz.func71) rfl rfl fun H=>?_;refine aa 0xbe081ce059 ?_;refine If (fun e'=>?_) fun e'=>?_
 ·exfalso;omega
 ·refine aa 0x1abe04e0e757 ?_;refine bo ?_;exact⟨rfl,rfl,rfl⟩
theorem ars{n d:Nat}{e:TypeId}(b1:J 2=some (bW .u8 ms,e))(ax:Nat.blt 2 (aT Q g0).g0=true)(az:n<4294967296)(al:d<4294967296)(ix:0<d):Fn (aT Q g0) 104 [.bool false,.int .u64 (n:Int),.int .u64 (d:Int)] [] J (us J (bn (n:Int) d)):=by
 obtain⟨g,FD⟩:∃g,g=Nat.gcd n d:=⟨_,rfl⟩;have OM:0<g:=by rw[FD];exact vI _ ix
 obtain⟨p,ao⟩:∃p,p=n / g:=⟨_,rfl⟩;obtain⟨q,bI⟩:∃q,q=d / g:=⟨_,rfl⟩;have Wa:p<=n:=by rw[ao];exact qE _ _
 have rc:q<=d:=by rw[bI];exact qE _ _
 have ajc:(n:Int).tdiv (g:Int)=(p:Int):=by rw[ao];exact(xO n g).symm
 have aji:(d:Int).tdiv (g:Int)=(q:Int):=by rw[bI];exact(xO d g).symm
 have aw:IntKind.u64.wrap ((n:Int).tdiv (g:Int))=(p:Int):=by rw[ajc];exact wrap_u64 I I
 have aR:IntKind.u64.wrap ((d:Int).tdiv (g:Int))=(q:Int):=by rw[aji];exact wrap_u64 I I
 have ahA:∀J,Fn (aT Q g0) 70 [.int .u64 (IntKind.u64.wrap ((n:Int).tdiv (g:Int)))] [] J (sU J p):=fun J=>by rw[aw];exact AB I
 have ahB:∀J,Fn (aT Q g0) 70 [.int .u64 (IntKind.u64.wrap ((d:Int).tdiv (g:Int)))] [] J (sU J q):=fun J=>by rw[aR];exact AB I
 have aq:bn (n:Int) d=(⟨(p:Int),q⟩:cY):=by
  unfold bn;rw[hK,<-FD,<-Int.natCast_ediv,ao,bI]
 have Pb:¬((p:Int)<0):=I
 refine Fn.b8 (b7 Tryz.func104) rfl rfl fun H=>?_;refine rg ?_;refine gn fun ee=>?_;refine aa 0x8738 ?_;refine br (G:=IN b1 ax I I) (h:=?_);rintro v' m' ae hle ⟨rfl,rfl,rfl⟩;rw[<-FD];refine aa 0x5f02 ?_;refine aB.draw rfl (by kernel_rfl) (aX:=[.val 0,.val 1,.val 2,.val 3,.val 5,.val 6,.val 7,.bD 4,.ca [7,6,5,0],.bD 8,.val 9,.ca [0],.bD 10]) (by kernel_rfl) ?_;refine aa 0xf3c2178421 ?_;refine' bh.dV rfl rfl rfl rfl rfl rfl rfl rfl rfl dt (ahA _) ?_;rintro v' m' bi hle ⟨aM,rfl,ez⟩;have gq:=ez;obtain⟨fw,gz,rfl,fP⟩:=gq.bQ;refine bh.ca ft ?_;refine' bh.dV rfl rfl rfl rfl rfl rfl rfl rfl rfl (cF (fun _ aF=>sU.hs aM (by rw[aw,aR] at aF;injection aF with aF;injection aF with _ aF;omega) rfl) dt) (ahB _) ?_;rintro v' m' de hle ⟨a9,rfl,eh⟩;have g1:=eh;obtain⟨fi,eu,rfl,je⟩:=g1.bQ;refine aa 0x6af8e761e ?_;refine bo ?_;exact⟨aM.trans a9,rfl,.slice fw _ gz,.slice fi _ eu,by rw[aq,show eC (⟨(p:Int),q⟩:cY) (.slice fw (ag p).length gz) (.slice fi (ag q).length eu)=.agg #[.bool (decide ((p:Int)<0)),.slice fw (ag p).length gz,.slice fi (ag q).length eu] from rfl,gL Pb];rfl,by rw[aq];show cD _ _ ((p:Int)).natAbs;rw[hK];exact gq.mono a9,by rw[aq];exact g1⟩
theorem arM:Fn (aT Q g0) 103 [] [] J (us J (⟨0,1⟩:cY)):=by
 have wI:ag 0=[]:=nl;refine Fn.b8 (b7 Tryz.func103) rfl rfl fun H=>?_;refine rg ?_;refine gn fun c0=>?_;refine Yg ?_;refine br (G:=Xs) (h:=?_);rintro v' m' bi hle ⟨aM,rfl,ez⟩;have gq:=ez;obtain⟨fw,gz,rfl,fP⟩:=gq.bQ;refine aa 0x1abe390 ?_;refine bo ?_;exact⟨aM,rfl,.slice none 0 0,.slice fw _ gz,rfl,⟨3,by show fg _ _ 1 _ (ag 0).length (bW .u32 (ag 0));rw[wI];exact .nil⟩,gq⟩
theorem aob{n d:Nat}{v w:Value}{e:TypeId}(b1:J 2=some (bW .u8 ms,e))(ax:Nat.blt 2 (aT Q g0).g0=true)(ab:cD J v n)(ad:cD J w d)(az:n<4294967296)(al:d<4294967296)(ix:0<d):Fn (aT Q g0) 69 [.bool false,v,w] [] J (us J (bn (n:Int) d)):=by
 have kd:=ab;have jH:=ad;have akL:(ag n).length<=2:=kZ (k:=2) (hA az bm);have P9:(ag d).length<=2:=kZ (k:=2) (hA al bm);obtain⟨bs,bp,rfl,aK⟩:=ab.bQ;obtain⟨bM,bN,rfl,aH⟩:=ad.bQ;refine Fn.b8 (b7 Tryz.func69) rfl rfl fun H=>?_;refine rg ?_;refine gn fun ee=>?_;refine aa 0x5f0428738 ?_;refine If (fun b2=>?_) fun b2=>?_
 ·have aG:n=0:=abG I;refine rg ?_;refine br (G:=arM) (h:=?_);rintro v' m' bi hle ⟨aM,rfl,en,fR,rfl,b3⟩;have cg:=b3;obtain⟨gy,eI,rfl,mO⟩:=b3.n.bQ;obtain⟨kJ,b2,rfl,nr⟩:=b3.d.bQ;refine aa 0xd5f1c ?_;refine bo ?_;first
   |(have c:=aG;exact⟨aM,rfl,_,_,by rw[aG,show bn ((0:Nat):Int) d=⟨0,1⟩ from pr ix];rfl,by rw[aG,show bn ((0:Nat):Int) d=⟨0,1⟩ from pr ix];exact cg⟩)
   |exact⟨aM,rfl,_,_,rfl,cg⟩
 ·refine aa 0x4850e757 ?_;refine fs 15 (fun agU=>?_) fun agU=>?_
  ·refine aa 0x2f8410a1 ?_;refine If (fun m4=>?_) fun m4=>?_
   ·refine aa 0x439 ?_;refine br (G:=zd kd akL) (h:=?_);rintro v' m' ae hle ⟨rfl,rfl,rfl⟩;refine eT V.k2 ?_;refine br (G:=zd jH P9) (h:=?_);rintro v' m' ae hle ⟨rfl,rfl,rfl⟩;refine br (G:=ars b1 ax az al ix) (h:=?_);rintro v' m' bi hle ⟨aM,rfl,en,fR,rfl,b3⟩;have cg:=b3;obtain⟨gy,eI,rfl,mO⟩:=b3.n.bQ;obtain⟨kJ,b2,rfl,nr⟩:=b3.d.bQ;refine aa 0xd5f1c ?_;refine bo ?_;first
     |(have c:=aG;exact⟨aM,rfl,_,_,by rw[aG,show bn ((0:Nat):Int) d=⟨0,1⟩ from pr ix];rfl,by rw[aG,show bn ((0:Nat):Int) d=⟨0,1⟩ from pr ix];exact cg⟩)
     |exact⟨aM,rfl,_,_,rfl,cg⟩
   ·exfalso;omega
  ·exfalso;omega
theorem amq{n d:Nat}{e:TypeId}(b1:J 2=some (bW .u8 ms,e))(ax:Nat.blt 2 (aT Q g0).g0=true)(az:n<4294967296)(al:d<4294967296)(ix:0<d):Fn (aT Q g0) 33 [.int .i64 (n:Int),.int .i64 (d:Int)] [] J (fun u m' ae=>J.le ae/\m'=[]/\∃v1 v2,u=.tuple #[eC (bn (n:Int) d) v1 v2,.int .i64 0]/\kI ae (bn (n:Int) d) v1 v2):=by
 refine Fn.b8 (b7 Tryz.func33) rfl rfl fun H=>?_;refine rg ?_;refine gn fun c9=>?_;refine aa 0x5f040e702 ?_;refine If (fun fB=>?_) fun fB=>?_
 ·exfalso;omega
 ·refine aa 0x10240e757 ?_;refine' W.step rfl (Exec.val rfl rfl (xB rfl rfl rfl (.inr ⟨rfl,rfl⟩) (by kernel_rfl)) ?_);refine eT V.k2 ?_;refine br (G:=Zt (n:=n) I) (h:=?_);rintro v' m' ae hle ⟨rfl,rfl,rfl⟩;refine br (G:=AB (n:=n) I) (h:=?_);rintro v' m' bi hle ⟨aM,rfl,ez⟩;have gq:=ez;obtain⟨fw,gz,rfl,fP⟩:=gq.bQ;refine eT V.k2 ?_;refine br (G:=Zt (n:=d) I) (h:=?_);rintro v' m' ae hle ⟨rfl,rfl,rfl⟩;refine br (G:=AB (n:=d) I) (h:=?_);rintro v' m' de hle ⟨a9,rfl,eh⟩;have g1:=eh;obtain⟨fi,eu,rfl,je⟩:=g1.bQ;rw[gL (show ¬((n:Nat):Int)<0 by omega),gL (show ¬((d:Nat):Int)<0 by omega)];refine br (G:=aob ((aM.trans a9) _ _ b1) ax (gq.mono a9) g1 az al ix) (h:=?_);rintro v' m' fe hle ⟨cq,rfl,en,fR,rfl,b3⟩;have cg:=b3;obtain⟨gy,eI,rfl,mO⟩:=b3.n.bQ;obtain⟨kJ,b2,rfl,nr⟩:=b3.d.bQ;refine aa 0x1abe05c ?_;refine bo ?_;exact⟨(aM.trans a9).trans cq,rfl,_,_,rfl,cg⟩
theorem aoa{n d:Nat}(az:n<1000000000000000000)(al:d<1000000000000000000)(ix:0<d):Fn (aT Q g0) 72 [.int .i64 (n:Int),.int .i64 (d:Int)] [] J (us J (bn (n:Int) d)):=by
 have ap:(ag n).length<=2:=kZ (hA az bm);have ni:(ag d).length<=2:=kZ (hA al bm);refine Fn.b8 (b7 Tryz.func72) rfl rfl fun H=>?_;refine rg ?_;refine gn fun c9=>?_;refine aa 0x8120738 ?_;refine' W.step rfl (Exec.val rfl rfl (xB rfl rfl rfl (.inr ⟨rfl,rfl⟩) (by kernel_rfl)) ?_);refine eT V.k2 ?_;refine br (G:=Ry az) (h:=?_);rintro v' m' bi hle ⟨aM,rfl,ez⟩;have gq:=ez.fG;obtain⟨fw,gz,rfl,fP⟩:=gq.bQ;refine eT V.k2 ?_;refine br (G:=Ry al) (h:=?_);rintro v' m' de hle ⟨a9,rfl,eh⟩;have g1:=eh.fG;obtain⟨fi,eu,rfl,je⟩:=g1.bQ;refine br (G:=AD (z:=(n:Int)) ix rfl (fun _=>by rw[gL (show ¬((n:Nat):Int)<0 by omega),gL (show ¬((d:Nat):Int)<0 by omega)];rfl) (gq.mono a9) g1 (by show(ag n).length<=60000;omega) I) (h:=?_);rintro v' m' fe hle ⟨cq,rfl,en,fR,rfl,b3⟩;have cg:=b3;obtain⟨gy,eI,rfl,mO⟩:=b3.n.bQ;obtain⟨kJ,b2,rfl,nr⟩:=b3.d.bQ;refine aa 0xd5f1c ?_;refine bo ?_;exact⟨aM.trans (a9.trans cq),rfl,_,_,rfl,cg⟩
end
section
variable {K:dy}{B:c5}{o:Oper}{n:Nat}{ds:dJ}{l:List (Nat×Value)}{m:aO}{J:af}
theorem aqx{x:Operand}{xt t:TypeId}{v:Value}(ah:o.op=.typeAssert x xt t true)(U:bx l x=some (.iface t v))(az:AL K.P t=true):cO K B o n ds l m J (.tuple #[v,.bool true]):=by
 intro call aE S H aj av;unfold cj eF;simp only[ah];show AY K.P _ t true (a1 S.T H x)=_;rw[c6 aj H U];show gH (Cg K.P (.iface t v) t true) _=_;have:Cg K.P (.iface t v) t true=some (.tuple #[v,.bool true]):=by
  unfold AL at az;unfold Cg;cases hu:K.P.underlying t with
  |none=>rw[hu] at az;cases az
  |some u=>
   rw[hu] at az;cases u<;>first
       |(cases az;done)
       |(simp only[hd,b4])
 rw[this];rfl
end
theorem pI.mono{K:dy}{f:FuncId}{args:List Value}{bd:FrameMode}{bl:aO}{J:af}{P Tj:FrameMode->aO->af->Prop}(h:pI K f args bd bl J P)(ao:∀u m ae,P u m ae->Tj u m ae):pI K f args bd bl J Tj:=fun H av=>by
 obtain⟨v,gv,H',ae,m',ab,ad,aL⟩:=h H av;exact⟨v,gv,H',ae,m',ab,ad,ao _ _ _ aL⟩
abbrev Jb(e:Int):Value:=.iface 101 (.agg #[.int .i64 e])
section
variable {Q:cZ Tryz.prog}{g0:Nat}{J:af}
theorem T1{cI:Nat}:Fn (aT Q g0) 28 [.nilIface,.pointer (some ⟨cI,0,none⟩)] [] J (fun u m' ae=>m'=[]/\J=ae):=by
 refine Fn.b8 (b7 Tryz.func28) rfl rfl fun H=>?_;refine aa 0x39 ?_;refine' W.step rfl (Exec.val rfl rfl (aaz rfl rfl ?ar (WM Q g0)) ?_);case ar=>first|rfl|assumption
 refine sn ?_;refine If (fun fB=>?_) fun fB=>?_
 ·refine aa 0x357 ?_;refine bo ?_;exact⟨rfl,rfl⟩
 ·exfalso;cases fB
theorem T2{cI:Nat}{e:Int}{y:Value}:Fn (aT Q g0) 28 [Jb e,.pointer (some ⟨cI,0,none⟩)] [(cI,.row [y] 31)] J (fun u m' ae=>m'=[(cI,.row [.int .i64 e] 31)]/\J=ae):=by
 refine Fn.b8 (b7 Tryz.func28) rfl rfl fun H=>?_;refine aa 0x39 ?_;refine' W.step rfl (Exec.val rfl rfl (aaz rfl rfl ?ar (WM Q g0)) ?_);case ar=>first|rfl|assumption
 refine sn ?_;refine If (fun fB=>?_) fun fB=>?_
 ·exfalso;cases fB
 ·refine aa 0x1ce3960e757 ?_;refine' W.step rfl (Exec.val rfl rfl (aqx rfl rfl (Z' rfl)) ?_);refine aa 0x1ce1 ?_;refine gn fun c9=>?_;refine aa 0x5f01ce05c ?_;refine If (fun dR=>?_) fun dR=>?_
  ·refine aa 0x639653439 ?_;refine'⟨.inl rfl,rfl,_,_,.nil,.cons _ (.refl _),⟨rfl,rfl⟩⟩
  ·exfalso;cases dR
end
section
variable {Q:cZ Tryz.prog}{g0:Nat}{J:af}
end
end
end Go.Opn
