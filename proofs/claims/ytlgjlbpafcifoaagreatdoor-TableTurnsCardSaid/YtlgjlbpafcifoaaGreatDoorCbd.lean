/- A part of the proof of TableTurns. -/
import Derived.Test.YtlgjlbpafcifoaaGreatDoorCbc
import Derived.Test.YtlgjlbpafcifoaaGreatDoorCbb
import Derived.Test.YtlgjlbpafcifoaaGreatDoorCba
set_option maxRecDepth 100000
set_option maxHeartbeats 8000000
set_option linter.unusedVariables false
set_option linter.unusedSimpArgs false
namespace Go.Opn
noncomputable section
open Go.Cre Go.RowKit Go.Proofs
abbrev yU (n i:Nat):List Value:=((i' n).take i).map (Value.int .i64)++fp [.int .i64 0] (n -i)
theorem am7{n i off:Nat}(ak:i<n)(ah:i=off:=by omega):gf off (yU n i) [.int .i64 (i:Int)]=some (yU n (i+1)):=by
 subst ah;unfold yU;rw[show n -i=(n -(i+1))+1 by omega,Bw,ko,Kd ak,xR];rw[show([Value.int .i64 0]++fp [.int .i64 0] (n -(i+1)))=[Value.int .i64 0]++fp [.int .i64 0] (n -(i+1)) from rfl];have h:=Li (d:=((i' n).take i).map (Value.int .i64)) (z:=[Value.int .i64 0]) (rest:=fp [.int .i64 0] (n -(i+1))) (new:=[.int .i64 (i:Int)]) (off:=i) (by rw[eP,dY,pn];omega) rfl;rw[h,<-my];rfl
theorem am6{n:Nat}:yU n n=mj [] (i' n) []:=by
 unfold yU mj;rw[sR,DU,cM (by rw[pn];exact bF _),kE]
abbrev xj(o:List Nat)(n i:Nat):List Value:=bW .i64 (o.take i++List.replicate (n -i) 0)
theorem ana{o:List Nat}{n i x:Nat}(az:o.length=n)(ak:i<n)(U:o[i]?=some x){off:Nat}(ah:i=off:=by omega):gf off (xj o n i) [.int .i64 (x:Int)]=some (xj o n (i+1)):=by
 subst ah;rw[k3 i (by rw[eY,dY,mA];omega) rfl];congr 2
 rw[show n -i=(n -(i+1))+1 by omega,S1,L3 _ _ (by rw[dY];omega),dY,fV I,sR,S2,ko,U];simp
theorem am'{o:List Nat}{n:Nat}(az:o.length=n):xj o n n=bW .i64 o:=by
 unfold xj;rw[sR,cM I];simp
theorem ame{o:List Nat}{n i x off:Nat}(U:o[i]?=some x)(ah:i=off:=by omega):nth (xj o n (i+1)) off=some (.int .i64 (x:Int)):=by
 subst ah;refine qk ?_ rfl;have:=(gS.1 U).1;rw[D4 (by rw[dY];omega),iH,a2 I,U]
theorem UL{L:List Int}{o:List Nat}{k y:Nat}{x:Int}(U:L[k]?=some x)(au:((L.take k).foldl jL o)[x.toNat]?=some y):((L.take k).foldl jL o).set x.toNat (y+1)=(L.take (k+1)).foldl jL o:=by
 rw[ko,U,List.foldl_append];show _=jL ((L.take k).foldl jL o) x;rw[show jL ((L.take k).foldl jL o) x=((L.take k).foldl jL o).set x.toNat (((L.take k).foldl jL o).getD x.toNat 0+1) from rfl,gI,au];rfl
theorem abU{k:IntKind}{J:af}{a n:Nat}{l:List Nat}{e:TypeId}(az:l.length=n)(h:J a=some (bW k l,e))(aD:n<cG):cJ k J (.slice (some ⟨a,0,none⟩) n n) l:=by
 have:=cJ.row (k:=k) (n:=n) (cap:=n) I (bF _) aD h;rwa [cM I] at this
section
variable {Q:cZ Tryz.prog}{g0:Nat}{J:af}
theorem aoC{ps:List Nat}{s bits:Nat}{b:Option Addr}{c:Nat}(h:dz J 82 3 (mw J) (.slice b ps.length c) (ps.map fun p:Nat=>bn (p:Int) s))(mf:1<=ps.length)(ni:ps.length<=10)(hs:0<s)(h2:(aS s).length<=10000)(ao:ps.sum=s)(Ov:bits<=30):
 Fn (aT Q g0) 30 [.slice b ps.length c,.int .i64 (bits:Int)] [] J (fun u m' ae=>J.le ae/\m'=[]/\∃b' c',u=.slice b' ps.length c'/\cJ .i64 ae (.slice b' ps.length c') (Ho ps s (2 ^ bits))):=by
 have ly:addrEq b b=true:=h.addr;obtain⟨_,db⟩:=h.at;rw[eP] at db;obtain⟨iw,q1,q0⟩:=Rw Ov;generalize 2 ^ bits=M at*;have F:=K' (M:=M) mf hs ao;have ia:(fK ps s M).length=ps.length:=eP _;have lM:ps.length<cG:=nC ni bm;have atd:0<ps.length:=mf;have aic:(0:Int)<=(bits:Int)/\(bits:Int)<=64:=I
 refine Fn.b8 (b7 Tryz.func30) rfl rfl fun H=>?_;refine aa 0xbe059 ?_;refine aB.draw rfl (by kernel_rfl) (aX:=[.ir 9,.val 0,.val 1,.ir 2,.val 3,.val 4,.ir 5,.val 6,.val 7,.ir 8,.val 10,.val 11,.ca [7,6,4,3,1,0],.bD 12]) (by kernel_rfl) ?_;refine cm.alloc rfl rfl rfl rfl rfl (Ll rfl) rfl rfl rfl fun fh=>?_;refine aa 0xa1 ?_;refine cm.makeSlice rfl rfl rfl rfl rfl rfl rfl (eB rfl) ?aN ?ab ?ad fun qH=>?_;case aN=>exact cC
 case ab=>exact cC
 case ad=>exact cC
 refine aa 0xa1 ?_;refine cm.makeSlice rfl rfl rfl rfl rfl rfl rfl (eB rfl) ?aN ?ab ?ad fun zy=>?_;case aN=>exact cC
 case ab=>exact cC
 case ad=>exact cC
 refine aa 0xa1 ?_;refine cm.makeSlice rfl rfl rfl rfl rfl rfl rfl (eB rfl) ?aN ?ab ?ad fun oq=>?_;case aN=>exact cC
 case ab=>exact cC
 case ad=>exact cC
 refine aa 0x18e7442 ?_;rw[h9];refine aa 0x1815039 ?_;rw[iw];refine aa 0xbeaf809439 ?_;refine aB.mN (m':=[(fh,.row [.slice (some ⟨oq,0,none⟩) ps.length ps.length] 66),(oq,.row ([]++fp [.bool false,.slice none 0 0,.slice none 0 0] (ps.length -0)) 82),(zy,.row (yU ps.length 0) 3),(qH,.row (xj (fK ps s M) ps.length 0) 3)]) (by rw[show xj (fK ps s M) ps.length 0=fp [.int .i64 0] ps.length from zero_num.symm];exact oh (l₁:=[_]) (l₂:=[_,_,_])) ?_;refine c8 [(26,.int .i64 ((0):Int)),(8,.int .i64 ((M:Int) -(((fK ps s M).take (0)).sum:Int))),(1,_),(5,_),(6,_),(7,_),(24,_),(25,_)] ?_;refine a' ?_;refine' aB.bA (fun(bE:Nat×(List Value)×af)=>match bE with|(i,d,cb)=>⟨[(26,.int .i64 (i:Int)),(8,.int .i64 ((M:Int) -(((fK ps s M).take i).sum:Int)))],[(fh,.row [.slice (some ⟨oq,0,none⟩) ps.length ps.length] 66),(oq,.row (d++fp [.bool false,.slice none 0 0,.slice none 0 0] (ps.length -i)) 82),(zy,.row (yU ps.length i) 3),(qH,.row (xj (fK ps s M) ps.length i) 3)],cb,i<=ps.length/\J.le cb/\g4 3 (fun _=>mw cb) d ((ps.map fun p=>bn ((bB M s p:Nat):Int) s).take i),ps.length -i⟩) ⟨0,[],J⟩ ?hs ?bb
 case hs=>exact⟨df _,af.le.refl _,rfl,fun i x h=>by cases h⟩
 case bb=>
  rintro⟨i,d,cb⟩ hinv;try simp only at hinv
  obtain⟨ak,bS,e6⟩:=hinv;refine aa 0xbe099 ?_;refine If (fun gK=>?_) fun gK=>?_
  ·obtain⟨ID,off,cells,bC,rfl,ke,fN⟩:=db I;obtain⟨r,cs,aq,hZ,q8,v1,v2,rfl,dq⟩:=fN i I I;rw[h9,j6] at aq;obtain⟨p,tv,rfl⟩:=vL.1 aq;have ke:=bS _ _ ke;have nb:=dq.mono bS;obtain⟨bs,d',bp,rfl,aK,_,_⟩:=dq.n.cA;obtain⟨bM,ej,bN,rfl,aH,_,_⟩:=dq.d.cA;have Wa:=GH (gh tv);have eQ:=dA (ki (show p<=s by omega)) h2;have en:=zZ (n:=p) hs eQ h2;have nW:d.length=i*3:=by rw[e6.1,dY,eP,fV ak]
   have CM:(fK ps s M)[i]?=some (p*M / s):=by unfold fK;rw[j6,tv];rfl
   have dn:=RI CM;have uZ:=Lk (l:=fK ps s M) (i:=i+1);have ajC:=F.out;have Ph:(aS (p*M)).length<=10000+1:=w8 eQ (GR I);have Wd:p*M / s<=M:=by
    rw[abM hs];have:=eK M (show p<=s by omega);omega
   have ait:lG 1 (⟨(M:Int),1⟩:cY):=lG.mk (by show(aS ((M:Nat):Int).natAbs).length<=1;rw[hK];exact GR I) (by show(aS 1).length<=1;exact GR bm);have hmul:=Yh (X:=(p:Int)) (M:=M) hs;rw[<-hc] at hmul;obtain⟨rf,tz⟩:=Yi (X:=p*M) hs;have Br:=zZ (n:=p*M) hs (dA Ph (show _<=30000 by decide)) (dA h2 bm);refine aa 0x61839d5f57 ?_;refine gn fun rL=>?_;refine aa 0xbe382 ?_;refine aB.draw rfl (by kernel_rfl) (aX:=[.val 0,.val 1,.val 2,.val 3,.val 4,.val 5,.val 6,.bD 7,.ca [4,3,2,1,0],.bD 8,.ca [3,2,1,0],.bD 9,.val 10,.val 11,.val 12,.val 13,.ca [3,2,1,0],.bD 14,.val 15,.ca [12,3,2],.bD 16]) (by kernel_rfl) ?_;refine aa 0x502c0a421 ?_;rw[iw];refine dl rfl (G:=WR (n:=M) I I) (h:=?_);rintro v' m' bi aM ⟨_,rfl,dI,dB,rfl,cg⟩;have Cr:=cg;obtain⟨fw,jO,gz,rfl,fP,_,_⟩:=cg.n.cA;obtain⟨fi,gm,eu,rfl,je,_,_⟩:=cg.d.cA;refine cm.ca ft ?_;refine dl rfl (G:=alJ (nb.mono aM) Cr (ml hs) ⟨Nat.one_pos,L6 _⟩ (by show((M:Nat):Int)≠0;omega) en ait I I) (h:=?_);rintro v' m' de a9 ⟨_,rfl,dI,dB,rfl,hD⟩;rw[hmul] at hD;have yj:=hD;obtain⟨jV,yI,fB,rfl,rq,_,_⟩:=hD.n.cA;obtain⟨jm,oF,fC,rfl,pA,_,_⟩:=hD.d.cA;rw[hmul];refine cm.ca ft ?_;refine dl rfl (G:=ark yj (ml hs) Br (by rw[rf];omega)) (h:=?_);rintro v' m' fe cq ⟨_,rfl,dI,dB,rfl,a4⟩;rw[tz] at a4;have yk:=a4;obtain⟨gy,n7,eI,rfl,mO,_,_⟩:=a4.n.cA;obtain⟨kJ,w7,b2,rfl,nr,_,_⟩:=a4.d.cA;rw[rf,tz];refine aa 0x1d31ce1 ?_;refine' cm.pW rfl rfl (Bs rfl rfl rfl rfl (tT rfl) rfl rfl rfl ?ab ?hs ?ao ?_);case ao=>repeat first|exact .head _ _ _ _|apply eS.tail|apply eS.app
   case hs=>exact ana ia I CM
   case ab=>first|rfl|assumption
   refine aa 0x3a6 ?_;refine' cm.pW rfl rfl (Bs rfl rfl rfl rfl (tT rfl) rfl rfl rfl ?ab ?hs ?ao ?_);case ao=>repeat first|exact .head _ _ _ _|apply eS.tail|apply eS.app
   case hs=>exact(by rw[show ps.length -i=(ps.length -(i+1))+1 by omega,Bw];exact Li (by rw[nW];omega) rfl)
   case ab=>first|rfl|assumption
   refine aa 0xc108738 ?_;refine' W.step rfl (Exec.val rfl rfl (ob rfl rfl ?aq (iy (g2 rfl) ?ar)) ?_);case aq=>exact qr
   case ar=>exact ame CM
   refine aa 0x30421ce043 ?_;refine' iK ?hs ?_;case hs=>exact am7 I
   refine kr ?_;have mE:g4 3 (fun _=>mw fe) (d++rU (bn ((bB M s p:Nat):Int) s) (.slice gy n7 eI) (.slice kJ w7 b2)) ((ps.map fun p=>bn ((bB M s p:Nat):Int) s).take (i+1)):=by
    rw[ko,j6,tv];exact(e6.mono fun _ _ _ q=>((q.mono aM).mono a9).mono cq).app ⟨_,_,rfl,yk⟩ rfl
   rw[<-my];refine aa 0xc0479 ?_;refine eH ⟨i+1,d++rU (bn ((bB M s p:Nat):Int) s) (.slice gy n7 eI) (.slice kJ w7 b2),fe⟩ ?_ (hm:=.cons _ (.refl _));exact⟨I,((bS.trans aM).trans a9).trans cq,mE⟩
  ·obtain rfl:i=ps.length:=I
   rw[cM (by rw[eP];exact bF _)] at e6;have Ah:(M:Int) -(((fK ps s M).take ps.length).sum:Int)=((k1 ps s M:Nat):Int):=by
    rw[cM I];have:=F.out;unfold k1;omega
   have lq:=F.Ks;refine aa 0x357 ?_;refine aB.mN (m':=[(fh,.row [.slice (some ⟨oq,0,none⟩) ps.length ps.length] 66),(oq,.row d 82),(zy,.row (mj [] (i' ps.length) []) 3),(qH,.row (bW .i64 (fK ps s M)) 3)]) (by show List.Perm _ [(fh,dw.row [.slice (some ⟨oq,0,none⟩) ps.length ps.length] 66),(oq,.row (d++fp [.bool false,.slice none 0 0,.slice none 0 0] (ps.length -ps.length)) 82),(zy,.row (yU ps.length ps.length) 3),(qH,.row (xj (fK ps s M) ps.length ps.length) 3)];rw[sR,DU,ij,am6,am' ia]) ?_;refine aB.hy rfl fun iQ=>?_;refine aB.hy rfl fun OZ=>?_;have na:=OZ _ _ (af.gC cb fh ([.slice (some ⟨oq,0,none⟩) ps.length ps.length],66));have ahj:dz ((cb.add fh ([.slice (some ⟨oq,0,none⟩) ps.length ps.length],66)).add oq (d,82)) 82 3 (mw ((cb.add fh ([.slice (some ⟨oq,0,none⟩) ps.length ps.length],66)).add oq (d,82))) (.slice (some ⟨oq,0,none⟩) ps.length ps.length) (ps.map fun p=>bn ((bB M s p:Nat):Int) s):=by
    have pb:(ps.map fun p=>bn ((bB M s p:Nat):Int) s).length=ps.length:=eP _;refine⟨d,?_,fun j x U=>(e6.2 j x U).mono (iQ.trans OZ)⟩;rw[pb];have CA:d.length=ps.length*3:=by rw[e6.1,pb]
    exact fg.row (af.gC _ _ _) (by rw[g5,cM I]) CA (fun _=>⟨bF _,lM⟩) (fun _=>rfl)
   refine aa 0x4839 ?_;refine' W.step rfl (Exec.call rfl rfl rfl rfl rfl rfl rfl (bl:=[(zy,.row (mj [] (i' ps.length) []) 3)]) (c2:=[(qH,.row (bW .i64 (fK ps s M)) 3)]) (.refl _) trivial (apf (pre:=[]) (post:=[]) (D:=i' ps.length) (f:=x6 ps s M) (ok:=fun x=>0<=x/\x<ps.length) (jc:=[]) (off:=0) pn I rfl WS (fun bi rX a b aF ai=>aoA (rX _ _ na) (dz.mono (R':=mw bi) rX (fun _ _ q=>q.mono rX) ahj) hs h2 aF ai)) ?_);rintro v' m' qB hle ⟨rfl,ga⟩;rw[show lS (x6 ps s M) (ps.length -1) (i' ps.length)=fJ ps s M from rfl];refine aa 0x8738 ?_;rw[Ah];refine' W.step rfl (Exec.val rfl rfl (aqY rfl rfl (eB rfl) rfl ?aN ?ab ?ad ?aL) ?_);case aN=>exact cC
   case ab=>exact cC
   case ad=>first|exact bm|assumption
   case aL=>first|exact bm|assumption
   rw[h9];refine aa 0x1abe025 ?_;refine c8 [(64,.int .i64 ((0):Int)),(5,_),(62,_),(63,_)] ?_;refine a' ?_;refine' aB.bA (fun(k:Nat)=>⟨[(64,.int .i64 (k:Int))],[(zy,.row (mj [] (fJ ps s M) []) 3),(qH,.row (bW .i64 (((fJ ps s M).take k).foldl jL (fK ps s M))) 3)],qB,k<=k1 ps s M,k1 ps s M -k⟩) (0) ?hs ?bb;case hs=>exact df _
   case bb=>
    rintro k hinv;try simp only at hinv
    have hk:=hinv;refine aa 0xbe099 ?_;refine If (fun B0=>?_) fun B0=>?_
    ·obtain⟨x,U⟩:∃x,(fJ ps s M)[k]?=some x:=⟨_,dX (by rw[F.G6];omega)⟩;have At:=F.xd x (gh U);have jI:(((fJ ps s M).take k).foldl jL (fK ps s M)).length=ps.length:=(C2 _ _ (fun x U=>by rw[ia];exact F.xd x (vG U)) (F.Du.sublist (Io _ _))).1.trans ia;have OJ:=(C2 ((fJ ps s M).take k) (fK ps s M) (fun x U=>by rw[ia];exact F.xd x (vG U)) (F.Du.sublist (Io _ _))).2.1;rw[dY] at OJ;have Ab:=F.out;obtain⟨y,au⟩:∃y,(((fJ ps s M).take k).foldl jL (fK ps s M))[x.toNat]?=some y:=⟨_,dX I⟩;refine aa 0xd9d5f57 ?_;refine' W.step rfl (Exec.val rfl rfl (ob rfl rfl ?aq (iy (g2 rfl) ?ar)) ?_);case aq=>exact qr
     case ar=>exact GY U (by show _=0+k;omega)
     refine aa 0xc10e702 ?_;refine' W.step rfl (Exec.val rfl rfl (ob rfl rfl ?aq (iy (g2 rfl) ?ar)) ?_);case aq=>exact qr
     case ar=>exact qk au I
     refine eT V.hI ?_;have WD:=GH (gh au);rw[wrap_i64 (n:=(y:Int)+1) I I];refine eT V.c7 ?_;refine' iK ?hs ?_;case hs=>exact(k3 (k:=.i64) (l:=((fJ ps s M).take k).foldl jL (fK ps s M)) (x:=y+1) (off:=0+x.toNat*1) x.toNat I I)
     refine kr ?_;rw[UL U au];refine aa 0xc0479 ?_;refine eH (k+1) ?_ (hm:=.refl _);exact I
    ·refine aa 0x357 ?_;obtain rfl:k=k1 ps s M:=I
     refine aB.mN (m':=[(qH,.row (bW .i64 (Ho ps s M)) 3),(zy,.row (mj [] (fJ ps s M) []) 3)]) (oh (l₁:=[_]) (l₂:=[_])) ?_;refine aB.hy rfl fun FI=>?_;refine aa 0x357c0839 ?_;refine bo ?_;exact⟨((bS.trans (iQ.trans OZ)).trans ga).trans FI,rfl,_,_,rfl,abU (Zd mf hs ao).len (af.gC _ _ _) lM⟩
end
theorem Xo{n c:Nat}{out:List Nat}(aD:c≠0)(h:out++ag c=ag n):(out++[c % 1000000000])++ag (c / 1000000000)=ag n:=by
 rw[<-h,sg aD,my];rfl
section
variable {Q:cZ Tryz.prog}{g0:Nat}{J:af}
theorem Ry{n:Nat}(az:n<1000000000000000000):Fn (aT Q g0) 98 [.int .i64 (n:Int)] [] J (pP J n):=by
 have ap:(ag n).length<=2:=kZ (hA az bm);refine Fn.b8 (b7 Tryz.func98) rfl rfl fun H=>?_;refine aa 0xd5f02ce059 ?_;refine c8 [(0,.int .i64 ((n):Int)),(3,(.slice none 0 0))] ?_;refine a' ?_;refine' aB.bA (fun(bE:Nat×(List Nat)×Value×aO)=>match bE with|(c,out,eO,a8)=>⟨[(0,.int .i64 (c:Int)),(3,eO)],a8,J,c<=n/\out++ag c=ag n/\Acc 96 1 eO out.length (bW .u32 out) a8,c⟩) ⟨n,[],.slice none 0 0,[]⟩ ?hs ?bb
 case hs=>exact⟨bF _,rfl,.nil⟩
 case bb=>
  rintro⟨c,out,eO,a8⟩ hinv;try simp only at hinv
  obtain⟨aD,ah,ev⟩:=hinv;refine aa 0x17c1039 ?_;refine If (fun eu=>?_) fun eu=>?_
  ·have kT:c≠0:=I
   have ia:out.length<=2:=by
    have:=b6 List.length ah;rw[eY] at this;omega
   have FM:(c:Int).tmod 1000000000=((c % 1000000000:Nat):Int):=(H7 c 1000000000).symm;have FA:(c:Int).tdiv 1000000000=((c / 1000000000:Nat):Int):=(xO c 1000000000).symm;have CK:max ((c % 1000000000:Nat):Int) (-((c % 1000000000:Nat):Int))=((c % 1000000000:Nat):Int):=I
   have hw:IntKind.u32.wrap ((c % 1000000000:Nat):Int)=((c % 1000000000:Nat):Int):=wrap_u32 I I;have tz:IntKind.i64.wrap ((c / 1000000000:Nat):Int)=((c / 1000000000:Nat):Int):=wrap_i64 I I;refine aa 0x1813c39d5f57 ?_;rw[FM];refine aa 0x8439 ?_;refine' W.step rfl (Exec.val rfl rfl (xC rfl rfl ?hw) ?_);case hw=>first|exact wrap_i64 I I|exact wrap_u8 I I|exact wrap_u64 I I|exact wrap_u32 I I|rfl
   refine' W.step rfl (Exec.val rfl rfl (HE rfl rfl rfl rfl rfl) ?_);rw[CK];refine eT V.o5 ?_;refine lj fun qH=>?_;refine' W.step rfl (.of (t' rfl rfl rfl rfl rfl rfl (eB rfl) (vr Q g0) (fun i q=>by cases q) ?ev ?hm ?U ?dE ?dQ ?ap fun HL GJ Om aj8=>?_));case ev=>exact ev
   case hm=>exact(vH _ a8).symm
   case U=>exact pB
   case dE=>first|rfl|(simp;done)|(simp;omega)
   case dQ=>first|rfl|exact qg _
   case ap=>exact(show out.length+1<=1000000 by omega)
   refine aa 0x604f0e702 ?_;rw[FA,tz];have bb:c / 1000000000<=n/\(out++[c % 1000000000])++ag (c / 1000000000)=ag n/\Acc 96 1 HL (out++[c % 1000000000]).length (bW .u32 (out++[c % 1000000000])) GJ:=⟨I,Xo kT ah,by rw[AO,eY];exact Om⟩;refine eH ⟨c / 1000000000,out++[c % 1000000000],HL,GJ⟩ ?_ (hm:=lf _ _);exact bb
  ·obtain rfl:c=0:=I
   rw[nl,ij] at ah;refine Acc.mo ev (.of_eq (ij a8).symm) fun bi aM aj=>?_;rw[ah] at aj;refine aa 0xd5f020e757 ?_;refine bo ?_;exact⟨aM,rfl,aj⟩
end
section
variable {Q:cZ Tryz.prog}{g0:Nat}{J:af}
end
structure o0 (J:af) (x:b5) (v1 v2:Value):Prop where
 n:cJ .u32 J v1 x.num
 d:cJ .u32 J v2 x.den
 fG:x.num.length<=4
 lx:x.den.length<=4
theorem o0.mono{J ae:af}(hle:J.le ae){x:b5}{v1 v2:Value}(h:o0 J x v1 v2):o0 ae x v1 v2:=⟨h.n.mono hle,h.d.mono hle,h.fG,h.lx⟩
abbrev A5(x:b5)(v1 v2:Value):Value:=.agg #[.bool x.neg,v1,v2]
theorem o0.DF{J:af}{x:b5}{v1 v2:Value}(h:o0 J x v1 v2)(aD:jy x.num/\jy x.den):kI J x.rt v1 v2:=⟨by
 show cD J v1 (aI x.num);unfold cD;rw[<-qP aD.1];exact h.n,by
 show cD J v2 (aI x.den);unfold cD;rw[<-qP aD.2];exact h.d⟩
section
variable {Q:cZ Tryz.prog}{g0:Nat}{J:af}
theorem X7{v:Value}{l:List Nat}(h:cJ .u32 J v l)(ap:l.length<=4):Fn (aT Q g0) 144 [v] [] J (fun u m' ae=>u=.int .i64 (lW l)/\m'=[]/\J=ae):=by
 obtain⟨bs,bp,rfl⟩:=h.form;have db:=h.at;refine Fn.b8 (b7 Tryz.func144) rfl rfl fun H=>?_;refine aa 0x17c10a1ce059 ?_;refine If (fun fB=>?_) fun fB=>?_
 ·exfalso;omega
 ·refine aa 0x1abe0250e757 ?_;refine c8 [(10,.int .i64 ((0):Int)),(0,_),(8,_),(9,_)] ?_;refine a' ?_;refine' aB.ja (fun(i:Nat)=>⟨[(10,.int .i64 (i:Int))],i<=l.length/\(∀z∈l.take i,z<1000000000),l.length -i⟩) (0) ?hs ?bb;case hs=>exact⟨df _,fun z aG=>by rw[fq] at aG;cases aG⟩
  case bb=>
   rintro i hinv;try simp only at hinv
   obtain⟨ak,hQ⟩:=hinv;refine aa 0xbe099 ?_;refine If (fun pV=>?_) fun pV=>?_
   ·obtain⟨a,o,qR,e,rfl,gD,ar⟩:=db I;obtain⟨p,ao,ha⟩:=ar i I;refine aa 0x2f820738124d9d5f57 ?_;refine If (fun dR=>?_) fun dR=>?_
    ·have tk:=AJ (T7 ao I);refine aa 0x1abe059 ?_;refine bo ?_;first
       |exact⟨by rw[tk];rfl,rfl,rfl⟩
       |exact⟨by rw[nm (ou hQ (fun _=>⟨p,ao,I⟩))];rfl,rfl,rfl⟩
       |exact⟨by rw[nm (ou hQ (fun q=>absurd q I))];rfl,rfl,rfl⟩
    ·refine aa 0x3011e757 ?_;refine jf (i+1) ?_;exact⟨I,Hw hQ ao I⟩
   ·have Af:i=l.length:=I
    rw[Af] at hQ;refine aa 0x4850e757 ?_;refine fs 20 (fun NW=>?_) fun NW=>?_
    ·obtain⟨a,o,qR,e,rfl,gD,ar⟩:=db I;obtain⟨p,ao,ha⟩:=ar (l.length -1) I;have ha:nth qR (o+((l.length:Int) -1).toNat*1)=some (.int .u32 (p:Int)):=by
       rw[show((l.length:Int) -1).toNat=l.length -1 by omega];exact ha
     refine aa 0x2f84112619421 ?_;refine If (fun MM=>?_) fun MM=>?_
     ·have tk:=AJ (T8 I ao I);refine aa 0x1abe059 ?_;refine bo ?_;first
       |exact⟨by rw[tk];rfl,rfl,rfl⟩
       |exact⟨by rw[nm (ou hQ (fun _=>⟨p,ao,I⟩))];rfl,rfl,rfl⟩
       |exact⟨by rw[nm (ou hQ (fun q=>absurd q I))];rfl,rfl,rfl⟩
     ·refine aa 0x6af816757 ?_;refine bo ?_;first
       |exact⟨by rw[tk];rfl,rfl,rfl⟩
       |exact⟨by rw[nm (ou hQ (fun _=>⟨p,ao,I⟩))];rfl,rfl,rfl⟩
       |exact⟨by rw[nm (ou hQ (fun q=>absurd q I))];rfl,rfl,rfl⟩
    ·refine aa 0x357c0b3abeaf846f7bdef7b ?_;refine bo ?_;first
       |exact⟨by rw[tk];rfl,rfl,rfl⟩
       |exact⟨by rw[nm (ou hQ (fun _=>⟨p,ao,I⟩))];rfl,rfl,rfl⟩
       |exact⟨by rw[nm (ou hQ (fun q=>absurd q I))];rfl,rfl,rfl⟩
theorem aoJ{v w:Value}{n d:List Nat}(ab:cJ .u32 J v n)(ad:cJ .u32 J w d)(dL:n.length<=4)(du:d.length<=4):Fn (aT Q g0) 111 [v,w] [] J (fun u m' ae=>u=.int .i64 (l1 n d)/\m'=[]/\J=ae):=by
 have kd:=ab;have jH:=ad;obtain⟨bs,bp,rfl⟩:=ab.form;obtain⟨bM,bN,rfl⟩:=ad.form;refine Fn.b8 (b7 Tryz.func111) rfl rfl fun H=>?_;refine aa 0x1ce059 ?_;refine br (G:=X7 kd dL) (h:=?_);rintro v' m' ae hle ⟨rfl,rfl,rfl⟩;refine aa 0x302 ?_;refine dN [1,5] ?_;refine a' ?_;refine' aB.fD 0 [(10,.bool (decide ((lW n≠0))))] ?nN ?nO;case nN=>
  refine aa 0xc103a ?_;refine dO (dS ?_);omega
 case nO=>
  refine a' ?_;refine If (fun b2=>?_) fun b2=>?_
  ·have he:=YO (d:=d) b2;refine aa 0x357c0839 ?_;refine bo ?_;exact⟨by rw[he];rfl,rfl,rfl⟩
  ·have b2:lW n=0:=iF fun q=>b2 q;refine aa 0xe757 ?_;refine br (G:=X7 jH du) (h:=?_);rintro v' m' ae hle ⟨rfl,rfl,rfl⟩;refine aa 0x302 ?_;refine dN [1,6] ?_;refine a' ?_;refine' aB.fD 0 [(15,.bool (decide ((lW d≠0))))] ?M8 ?Nn;case M8=>
    refine aa 0xc103a ?_;refine dO (dS ?_);omega
   case Nn=>
    refine a' ?_;refine If (fun dR=>?_) fun dR=>?_
    ·have he:=YN (n:=n) dR;refine aa 0x357c0839 ?_;refine bo ?_;exact⟨by rw[he];rfl,rfl,rfl⟩
    ·have dR:lW d=0:=iF fun q=>dR q;refine aa 0xbe0850e757 ?_;refine If (fun m4=>?_) fun m4=>?_
     ·have he:=YM b2 dR I;refine aa 0x1abe059 ?_;refine bo ?_;exact⟨by rw[he];rfl,rfl,rfl⟩
     ·have he:=YP b2 dR I;refine aa 0x6af816757 ?_;refine bo ?_;exact⟨by rw[he];rfl,rfl,rfl⟩
theorem aod{x:b5}{v1 v2:Value}{e:TypeId}(b1:J 2=some (bW .u8 ms,e))(ax:Nat.blt 2 (aT Q g0).g0=true)(h:o0 J x v1 v2):Fn (aT Q g0) 74 [A5 x v1 v2] [] J (fun u m' ae=>u=.int .i64 (mP x)/\m'=[]/\J.le ae):=by
 have aN:=h;obtain⟨bs,bp,rfl⟩:=h.n.form;obtain⟨bM,bN,rfl⟩:=h.d.form;refine Fn.b8 (b7 Tryz.func74) rfl rfl fun H=>?_;refine rg ?_;refine gZ fun a7=>?_;refine aa 0x25a96e702 ?_;refine br (G:=aoJ aN.n aN.d aN.fG aN.lx) (h:=?_);rintro v' m' ae hle ⟨rfl,rfl,rfl⟩;refine aa 0x302 ?_;refine dN [1,3] ?_;refine a' ?_;refine' aB.fD 0 [(10,.bool (decide ((l1 x.num x.den≠0))))] ?nN ?nO;case nN=>
  refine aa 0xc103a ?_;refine dO (dS ?_);omega
 case nO=>
  refine a' ?_;refine If (fun b2=>?_) fun b2=>?_
  ·have he:=Rh b2;refine aa 0x357c0839 ?_;refine bo ?_;first
    |exact⟨by rw[he];rfl,rfl,af.le.refl _⟩
    |exact⟨by rw[iA b2 (.inl ⟨kn I,qY⟩)];rfl,rfl,af.le.refl _⟩
    |exact⟨by rw[iA b2 (.inr gK)];rfl,rfl,aM⟩
    |exact⟨by rw[sr b2 (fun q=>q.elim (fun q=>by first|exact absurd (q.2.symm.trans qY) bm|exact wi (by rw[q.1];rfl)) gK)];rfl,rfl,aM⟩
  ·have b2:l1 x.num x.den=0:=iF fun q=>b2 q;have rZ:=Ra b2;have dq:=aN.DF ⟨rZ.1,rZ.2.1⟩;have fG:(ag (aI x.num)).length<=100000:=by rw[<-qP rZ.1];exact dA aN.fG bm
   have lx:(ag (aI x.den)).length<=100000:=by rw[<-qP rZ.2.1];exact dA aN.lx bm
   refine aa 0x90a96e757 ?_;refine fs 16 (fun wi=>?_) fun wi=>?_
   ·refine aa 0xa12d ?_;refine fs 20 (fun qY=>?_) fun qY=>?_
    ·refine aa 0x6af816757c237fdef7b ?_;refine bo ?_;first
        |exact⟨by rw[he];rfl,rfl,af.le.refl _⟩
        |exact⟨by rw[iA b2 (.inl ⟨kn I,qY⟩)];rfl,rfl,af.le.refl _⟩
        |exact⟨by rw[iA b2 (.inr gK)];rfl,rfl,aM⟩
        |exact⟨by rw[sr b2 (fun q=>q.elim (fun q=>by first|exact absurd (q.2.symm.trans qY) bm|exact wi (by rw[q.1];rfl)) gK)];rfl,rfl,aM⟩
    ·refine aa 0x4b52d ?_;refine vV (G:=W6 b1 ax dq.n dq.d fG lx) (h:=?_);rintro v' m' bi hle ⟨rfl,rfl,aM⟩;refine aa 0xbe111 ?_;refine If (fun gK=>?_) fun gK=>?_
     ·refine aa 0x1abe059 ?_;refine bo ?_;first
       |exact⟨by rw[he];rfl,rfl,af.le.refl _⟩
       |exact⟨by rw[iA b2 (.inl ⟨kn I,qY⟩)];rfl,rfl,af.le.refl _⟩
       |exact⟨by rw[iA b2 (.inr gK)];rfl,rfl,aM⟩
       |exact⟨by rw[sr b2 (fun q=>q.elim (fun q=>by first|exact absurd (q.2.symm.trans qY) bm|exact wi (by rw[q.1];rfl)) gK)];rfl,rfl,aM⟩
     ·refine aa 0x6af816757 ?_;refine bo ?_;first
       |exact⟨by rw[he];rfl,rfl,af.le.refl _⟩
       |exact⟨by rw[iA b2 (.inl ⟨kn I,qY⟩)];rfl,rfl,af.le.refl _⟩
       |exact⟨by rw[iA b2 (.inr gK)];rfl,rfl,aM⟩
       |exact⟨by rw[sr b2 (fun q=>q.elim (fun q=>by first|exact absurd (q.2.symm.trans qY) bm|exact wi (by rw[q.1];rfl)) gK)];rfl,rfl,aM⟩
   ·refine aa 0x4b52d0a37b ?_;refine vV (G:=W6 b1 ax dq.n dq.d fG lx) (h:=?_);rintro v' m' bi hle ⟨rfl,rfl,aM⟩;refine aa 0xbe111 ?_;refine If (fun gK=>?_) fun gK=>?_
    ·refine aa 0x1abe059 ?_;refine bo ?_;first
        |exact⟨by rw[he];rfl,rfl,af.le.refl _⟩
        |exact⟨by rw[iA b2 (.inl ⟨kn I,qY⟩)];rfl,rfl,af.le.refl _⟩
        |exact⟨by rw[iA b2 (.inr gK)];rfl,rfl,aM⟩
        |exact⟨by rw[sr b2 (fun q=>q.elim (fun q=>by first|exact absurd (q.2.symm.trans qY) bm|exact wi (by rw[q.1];rfl)) gK)];rfl,rfl,aM⟩
    ·refine aa 0x6af816757 ?_;refine bo ?_;first
        |exact⟨by rw[he];rfl,rfl,af.le.refl _⟩
        |exact⟨by rw[iA b2 (.inl ⟨kn I,qY⟩)];rfl,rfl,af.le.refl _⟩
        |exact⟨by rw[iA b2 (.inr gK)];rfl,rfl,aM⟩
        |exact⟨by rw[sr b2 (fun q=>q.elim (fun q=>by first|exact absurd (q.2.symm.trans qY) bm|exact wi (by rw[q.1];rfl)) gK)];rfl,rfl,aM⟩
end
section
variable {Q:cZ Tryz.prog}{g0:Nat}{J:af}
theorem X6{v:Value}{l:List Nat}(h:cJ .u32 J v l)(ap:l.length<=4):Fn (aT Q g0) 143 [v] [] J (fun u m' ae=>u=.int .i64 (lW l)/\m'=[]/\J=ae):=by
 obtain⟨bs,bp,rfl⟩:=h.form;have db:=h.at;refine Fn.b8 (b7 Tryz.func143) rfl rfl fun H=>?_;refine aa 0x17c10a1ce059 ?_;refine If (fun eu=>?_) fun eu=>?_
 ·exfalso;omega
 ·refine aa 0x6af816757 ?_;refine c8 [(3,.int .i64 ((0):Int)),(0,_)] ?_;refine a' ?_;refine' aB.ja (fun(i:Nat)=>⟨[(3,.int .i64 (i:Int))],i<=l.length/\(∀z∈l.take i,z<1000000000),l.length -i⟩) (0) ?hs ?bb;case hs=>exact⟨df _,fun z aG=>by rw[fq] at aG;cases aG⟩
  case bb=>
   rintro i hinv;try simp only at hinv
   obtain⟨ak,hQ⟩:=hinv;refine aa 0x5f0428439 ?_;refine If (fun b2=>?_) fun b2=>?_
   ·obtain⟨a,o,qR,e,rfl,gD,ar⟩:=db I;obtain⟨p,ao,ha⟩:=ar i I;refine aa 0xbe08930439d5f57 ?_;refine If (fun EB=>?_) fun EB=>?_
    ·have tk:=AJ (T7 ao I);refine aa 0x1abe059 ?_;refine bo ?_;first
       |exact⟨by rw[tk];rfl,rfl,rfl⟩
       |exact⟨by rw[nm (ou hQ (fun _=>⟨p,ao,I⟩))];rfl,rfl,rfl⟩
       |exact⟨by rw[nm (ou hQ (fun q=>absurd q I))];rfl,rfl,rfl⟩
    ·refine aa 0x60430e757 ?_;refine jf (i+1) ?_;exact⟨I,Hw hQ ao I⟩
   ·have Af:i=l.length:=I
    rw[Af] at hQ;refine aa 0x4850e757 ?_;refine fs 21 (fun ag3=>?_) fun ag3=>?_
    ·obtain⟨a,o,qR,e,rfl,gD,ar⟩:=db I;obtain⟨p,ao,ha⟩:=ar (l.length -1) I;have ha:nth qR (o+((l.length:Int) -1).toNat*1)=some (.int .u32 (p:Int)):=by
       rw[show((l.length:Int) -1).toNat=l.length -1 by omega];exact ha
     refine aa 0x2f84112619421 ?_;refine If (fun IS=>?_) fun IS=>?_
     ·have tk:=AJ (T8 I ao I);refine aa 0x1abe059 ?_;refine bo ?_;first
       |exact⟨by rw[tk];rfl,rfl,rfl⟩
       |exact⟨by rw[nm (ou hQ (fun _=>⟨p,ao,I⟩))];rfl,rfl,rfl⟩
       |exact⟨by rw[nm (ou hQ (fun q=>absurd q I))];rfl,rfl,rfl⟩
     ·refine aa 0x6af816757 ?_;refine bo ?_;first
       |exact⟨by rw[tk];rfl,rfl,rfl⟩
       |exact⟨by rw[nm (ou hQ (fun _=>⟨p,ao,I⟩))];rfl,rfl,rfl⟩
       |exact⟨by rw[nm (ou hQ (fun q=>absurd q I))];rfl,rfl,rfl⟩
    ·refine aa 0x357c0b3abeaf846f7bdef7b ?_;refine bo ?_;first
       |exact⟨by rw[tk];rfl,rfl,rfl⟩
       |exact⟨by rw[nm (ou hQ (fun _=>⟨p,ao,I⟩))];rfl,rfl,rfl⟩
       |exact⟨by rw[nm (ou hQ (fun q=>absurd q I))];rfl,rfl,rfl⟩
theorem aoI{v w:Value}{n d:List Nat}(ab:cJ .u32 J v n)(ad:cJ .u32 J w d)(dL:n.length<=4)(du:d.length<=4):Fn (aT Q g0) 109 [v,w] [] J (fun u m' ae=>u=.int .i64 (l1 n d)/\m'=[]/\J=ae):=by
 have kd:=ab;have jH:=ad;obtain⟨bs,bp,rfl⟩:=ab.form;obtain⟨bM,bN,rfl⟩:=ad.form;refine Fn.b8 (b7 Tryz.func109) rfl rfl fun H=>?_;refine aa 0x1ce059 ?_;refine br (G:=X6 kd dL) (h:=?_);rintro v' m' ae hle ⟨rfl,rfl,rfl⟩;refine aa 0x302 ?_;refine dN [1,5] ?_;refine a' ?_;refine' aB.fD 0 [(10,.bool (decide ((lW n≠0))))] ?nN ?nO;case nN=>
  refine aa 0xc103a ?_;refine dO (dS ?_);omega
 case nO=>
  refine a' ?_;refine If (fun b2=>?_) fun b2=>?_
  ·have he:=YO (d:=d) b2;refine aa 0x357c0839 ?_;refine bo ?_;exact⟨by rw[he];rfl,rfl,rfl⟩
  ·have b2:lW n=0:=iF fun q=>b2 q;refine aa 0xe757 ?_;refine br (G:=X6 jH du) (h:=?_);rintro v' m' ae hle ⟨rfl,rfl,rfl⟩;refine aa 0x302 ?_;refine dN [1,6] ?_;refine a' ?_;refine' aB.fD 0 [(15,.bool (decide ((lW d≠0))))] ?M8 ?Nn;case M8=>
    refine aa 0xc103a ?_;refine dO (dS ?_);omega
   case Nn=>
    refine a' ?_;refine If (fun dR=>?_) fun dR=>?_
    ·have he:=YN (n:=n) dR;refine aa 0x357c0839 ?_;refine bo ?_;exact⟨by rw[he];rfl,rfl,rfl⟩
    ·have dR:lW d=0:=iF fun q=>dR q;refine aa 0xbe0850e757 ?_;refine If (fun m4=>?_) fun m4=>?_
     ·have he:=YM b2 dR I;refine aa 0x1abe059 ?_;refine bo ?_;exact⟨by rw[he];rfl,rfl,rfl⟩
     ·have he:=YP b2 dR I;refine aa 0x6af816757 ?_;refine bo ?_;exact⟨by rw[he];rfl,rfl,rfl⟩
theorem aoc{x:b5}{v1 v2:Value}(h:o0 J x v1 v2):Fn (aT Q g0) 73 [A5 x v1 v2] [] J (fun u m' ae=>J.le ae/\m'=[]/\u=.int .i64 (mP x)):=by
 have aN:=h;obtain⟨bs,bp,rfl⟩:=h.n.form;obtain⟨bM,bN,rfl⟩:=h.d.form;refine Fn.b8 (b7 Tryz.func73) rfl rfl fun H=>?_;refine rg ?_;refine gZ fun a7=>?_;refine aa 0x25a96e702 ?_;refine br (G:=aoI aN.n aN.d aN.fG aN.lx) (h:=?_);rintro v' m' ae hle ⟨rfl,rfl,rfl⟩;refine aa 0x302 ?_;refine dN [1,3] ?_;refine a' ?_;refine' aB.fD 0 [(10,.bool (decide ((l1 x.num x.den≠0))))] ?nN ?nO;case nN=>
  refine aa 0xc103a ?_;refine dO (dS ?_);omega
 case nO=>
  refine a' ?_;refine If (fun b2=>?_) fun b2=>?_
  ·have he:=Rh b2;refine aa 0x357c0839 ?_;refine bo ?_;first
    |exact⟨af.le.refl _,rfl,by rw[he];rfl⟩
    |exact⟨aM,rfl,by rw[iA b2 (.inr (by rw[<-cg];intro q;rw[q] at o7;exact o7 (by rw[sf (x:=1) bm bm];rfl)))];rfl⟩
    |exact⟨aM.trans a9,rfl,by rw[iA b2 (.inr (by rw[<-cg];omega))];rfl⟩
    |exact⟨aM.trans a9,rfl,by rw[iA b2 (.inl ⟨kn I,qX⟩)];rfl⟩
    |exact⟨aM.trans a9,rfl,by rw[sr b2 (fun q=>q.elim (fun q=>by first|exact absurd (q.2.symm.trans qX) bm|exact l9 (by rw[q.1];rfl)) (fun q=>q (by rw[<-cg];omega)))];rfl⟩
  ·have b2:l1 x.num x.den=0:=iF fun q=>b2 q;have rZ:=Ra b2;have dq:=aN.DF ⟨rZ.1,rZ.2.1⟩;have fG:(ag (aI x.num)).length<=60000:=by rw[<-qP rZ.1];exact dA aN.fG bm
   have lx:(ag (aI x.den)).length<=60000:=by rw[<-qP rZ.2.1];exact dA aN.lx bm
   obtain⟨G,cg⟩:∃G,G=Nat.gcd (aI x.num) (aI x.den):=⟨_,rfl⟩;have Cr:G≠0:=by rw[cg];exact jl (vI _ (uk rZ.2.2))
   refine aa 0x25a96e757 ?_;refine br (G:=M5 dq.n dq.d fG lx) (h:=?_);rintro v' m' bi hle ⟨aM,rfl,gP⟩;rw[show Nat.gcd x.rt.z.natAbs x.rt.d=G from cg.symm] at gP;have rW:=gP;obtain⟨fw,gz,rfl,fP⟩:=gP.bQ;refine aa 0x485 ?_;refine fs 19 (fun o7=>?_) fun o7=>?_
   ·refine aa 0x6af816757c237bdef7bdec28def7fdef7b ?_;refine bo ?_;first
      |exact⟨af.le.refl _,rfl,by rw[he];rfl⟩
      |exact⟨aM,rfl,by rw[iA b2 (.inr (by rw[<-cg];intro q;rw[q] at o7;exact o7 (by rw[sf (x:=1) bm bm];rfl)))];rfl⟩
      |exact⟨aM.trans a9,rfl,by rw[iA b2 (.inr (by rw[<-cg];omega))];rfl⟩
      |exact⟨aM.trans a9,rfl,by rw[iA b2 (.inl ⟨kn I,qX⟩)];rfl⟩
      |exact⟨aM.trans a9,rfl,by rw[sr b2 (fun q=>q.elim (fun q=>by first|exact absurd (q.2.symm.trans qX) bm|exact l9 (by rw[q.1];rfl)) (fun q=>q (by rw[<-cg];omega)))];rfl⟩
   ·have ahm:=Qd (x:=G) I;refine aa 0x4b52d ?_;refine vV (G:=M5 (dq.n.mono aM) (dq.d.mono aM) fG lx) (h:=?_);rintro v' m' de hle ⟨a9,rfl,fc⟩;rw[show Nat.gcd x.rt.z.natAbs x.rt.d=G from cg.symm] at fc;have N2:cJ .u32 de v' (ag G):=fc;rw[ahm.1] at N2;have ahh:∃b c,v'=.slice b 1 c:=N2.form;obtain⟨fi,eu,rfl⟩:=ahh;obtain⟨ase,amm,adY,asG,rfl,asQ,ajV⟩:=N2.ed Nat.one_pos;have atr:nth adY (amm+(0:Int).toNat*1)=some (.int .u32 (G:Int)):=ajV 0 G rfl;refine aa 0x141126 ?_;refine fs 29 (fun agW=>?_) fun agW=>?_
    ·refine aa 0x1abe059d5f08def7bdef7b ?_;refine bo ?_;first
        |exact⟨af.le.refl _,rfl,by rw[he];rfl⟩
        |exact⟨aM,rfl,by rw[iA b2 (.inr (by rw[<-cg];intro q;rw[q] at o7;exact o7 (by rw[sf (x:=1) bm bm];rfl)))];rfl⟩
        |exact⟨aM.trans a9,rfl,by rw[iA b2 (.inr (by rw[<-cg];omega))];rfl⟩
        |exact⟨aM.trans a9,rfl,by rw[iA b2 (.inl ⟨kn I,qX⟩)];rfl⟩
        |exact⟨aM.trans a9,rfl,by rw[sr b2 (fun q=>q.elim (fun q=>by first|exact absurd (q.2.symm.trans qX) bm|exact l9 (by rw[q.1];rfl)) (fun q=>q (by rw[<-cg];omega)))];rfl⟩
    ·refine aa 0x52d ?_;refine fs 32 (fun qX=>?_) fun qX=>?_
     ·refine aa 0xbe1082152d ?_;refine If (fun l9=>?_) fun l9=>?_
      ·
        refine aa 0x1abe059 ?_;refine bo ?_;first
         |exact⟨af.le.refl _,rfl,by rw[he];rfl⟩
         |exact⟨aM,rfl,by rw[iA b2 (.inr (by rw[<-cg];intro q;rw[q] at o7;exact o7 (by rw[sf (x:=1) bm bm];rfl)))];rfl⟩
         |exact⟨aM.trans a9,rfl,by rw[iA b2 (.inr (by rw[<-cg];omega))];rfl⟩
         |exact⟨aM.trans a9,rfl,by rw[iA b2 (.inl ⟨kn I,qX⟩)];rfl⟩
         |exact⟨aM.trans a9,rfl,by rw[sr b2 (fun q=>q.elim (fun q=>by first|exact absurd (q.2.symm.trans qX) bm|exact l9 (by rw[q.1];rfl)) (fun q=>q (by rw[<-cg];omega)))];rfl⟩
      ·
        refine aa 0x6af816757 ?_;refine bo ?_;first
         |exact⟨af.le.refl _,rfl,by rw[he];rfl⟩
         |exact⟨aM,rfl,by rw[iA b2 (.inr (by rw[<-cg];intro q;rw[q] at o7;exact o7 (by rw[sf (x:=1) bm bm];rfl)))];rfl⟩
         |exact⟨aM.trans a9,rfl,by rw[iA b2 (.inr (by rw[<-cg];omega))];rfl⟩
         |exact⟨aM.trans a9,rfl,by rw[iA b2 (.inl ⟨kn I,qX⟩)];rfl⟩
         |exact⟨aM.trans a9,rfl,by rw[sr b2 (fun q=>q.elim (fun q=>by first|exact absurd (q.2.symm.trans qX) bm|exact l9 (by rw[q.1];rfl)) (fun q=>q (by rw[<-cg];omega)))];rfl⟩
     ·refine aa 0xd5f02ceafabe108def7b ?_;refine bo ?_;first
       |exact⟨af.le.refl _,rfl,by rw[he];rfl⟩
       |exact⟨aM,rfl,by rw[iA b2 (.inr (by rw[<-cg];intro q;rw[q] at o7;exact o7 (by rw[sf (x:=1) bm bm];rfl)))];rfl⟩
       |exact⟨aM.trans a9,rfl,by rw[iA b2 (.inr (by rw[<-cg];omega))];rfl⟩
       |exact⟨aM.trans a9,rfl,by rw[iA b2 (.inl ⟨kn I,qX⟩)];rfl⟩
       |exact⟨aM.trans a9,rfl,by rw[sr b2 (fun q=>q.elim (fun q=>by first|exact absurd (q.2.symm.trans qX) bm|exact l9 (by rw[q.1];rfl)) (fun q=>q (by rw[<-cg];omega)))];rfl⟩
end
theorem aoX{a b:Int}(aG:a*b≠0):(decide ((decide (a<0))≠(decide (b<0))))=decide (a*b<0):=by
 have aF:a≠0:=fun h=>aG (by rw[h,xP]);have ai:b≠0:=fun h=>aG (by rw[h,SD]);by_cases ab:a<0
 ·by_cases ad:b<0
  ·have:=abj ab ad
   rw[g7 ab,g7 ad,gL (show ¬a*b<0 by omega)];rfl
  ·have:=BC ab (show 0<b by omega)
   rw[g7 ab,gL ad,g7 this];rfl
 ·by_cases ad:b<0
  ·have:=SC (show 0<a by omega) ad
   rw[gL ab,g7 ad,g7 this];rfl
  ·have:=BD (show 0<a by omega) (show 0<b by omega)
   rw[gL ab,gL ad,gL (show ¬a*b<0 by omega)];rfl
section
variable {Q:cZ Tryz.prog}{g0:Nat}{J:af}
theorem ao'{n:Nat}(az:n<1000000000000000000):Fn (aT Q g0) 98 [.int .i64 (-(n:Int))] [] J (pP J n):=by
 have ap:(ag n).length<=2:=kZ (hA az bm);refine Fn.b8 (b7 Tryz.func98) rfl rfl fun H=>?_;refine aa 0xd5f02ce059 ?_;refine c8 [(0,.int .i64 (-((n):Int))),(3,(.slice none 0 0))] ?_;refine a' ?_;refine' aB.bA (fun(bE:Nat×(List Nat)×Value×aO)=>match bE with|(c,out,eO,a8)=>⟨[(0,.int .i64 (-(c:Int))),(3,eO)],a8,J,c<=n/\out++ag c=ag n/\Acc 96 1 eO out.length (bW .u32 out) a8,c⟩) ⟨n,[],.slice none 0 0,[]⟩ ?hs ?bb
 case hs=>exact⟨bF _,rfl,.nil⟩
 case bb=>
  rintro⟨c,out,eO,a8⟩ hinv;try simp only at hinv
  obtain⟨aD,ah,ev⟩:=hinv;refine aa 0x17c1039 ?_;refine If (fun eu=>?_) fun eu=>?_
  ·have kT:c≠0:=I
   have ia:out.length<=2:=by
    have:=b6 List.length ah;rw[eY] at this;omega
   have FM:(-(c:Int)).tmod 1000000000=-((c % 1000000000:Nat):Int):=by rw[Int.neg_tmod];exact b6 Neg.neg (H7 c 1000000000).symm
   have FA:(-(c:Int)).tdiv 1000000000=-((c / 1000000000:Nat):Int):=by rw[Int.neg_tdiv];exact b6 Neg.neg (xO c 1000000000).symm
   have aiZ:IntKind.i64.wrap (-(-((c % 1000000000:Nat):Int)))=((c % 1000000000:Nat):Int):=by rw[LU];exact wrap_i64 I I
   have CK:max (-((c % 1000000000:Nat):Int)) ((c % 1000000000:Nat):Int)=((c % 1000000000:Nat):Int):=I
   have hw:IntKind.u32.wrap ((c % 1000000000:Nat):Int)=((c % 1000000000:Nat):Int):=wrap_u32 I I;have tz:IntKind.i64.wrap (-((c / 1000000000:Nat):Int))=-((c / 1000000000:Nat):Int):=wrap_i64 I I;refine aa 0x1813c39d5f57 ?_;rw[FM];refine aa 0x8439 ?_;refine' W.step rfl (Exec.val rfl rfl (xC rfl rfl ?hw) ?_);case hw=>first|exact wrap_i64 I I|exact wrap_u8 I I|exact wrap_u64 I I|exact wrap_u32 I I|rfl
   refine' W.step rfl (Exec.val rfl rfl (HE rfl rfl rfl rfl rfl) ?_);first|rw[aiZ,CK]|rw[show max (-((c % 1000000000:Nat):Int)) (-(-((c % 1000000000:Nat):Int)))=((c % 1000000000:Nat):Int) by omega]
   refine eT V.o5 ?_;refine lj fun qH=>?_;refine' W.step rfl (.of (t' rfl rfl rfl rfl rfl rfl (eB rfl) (vr Q g0) (fun i q=>by cases q) ?ev ?hm ?U ?dE ?dQ ?ap fun HL GJ Om aj8=>?_));case ev=>exact ev
   case hm=>exact(vH _ a8).symm
   case U=>exact pB
   case dE=>first|rfl|(simp;done)|(simp;omega)
   case dQ=>first|rfl|exact qg _
   case ap=>exact(show out.length+1<=1000000 by omega)
   refine aa 0x604f0e702 ?_;rw[FA,tz];have bb:c / 1000000000<=n/\(out++[c % 1000000000])++ag (c / 1000000000)=ag n/\Acc 96 1 HL (out++[c % 1000000000]).length (bW .u32 (out++[c % 1000000000])) GJ:=⟨I,Xo kT ah,by rw[AO,eY];exact Om⟩;refine eH ⟨c / 1000000000,out++[c % 1000000000],HL,GJ⟩ ?_ (hm:=lf _ _);exact bb
  ·obtain rfl:c=0:=I
   rw[nl,ij] at ah;refine Acc.mo ev (.of_eq (ij a8).symm) fun bi aM aj=>?_;rw[ah] at aj;refine aa 0xd5f020e757 ?_;refine bo ?_;exact⟨aM,rfl,aj⟩
theorem apa{z:Int}(aG:z.natAbs<1000000000000000000):Fn (aT Q g0) 98 [.int .i64 z] [] J (pP J z.natAbs):=by
 rcases Int.natAbs_eq z with e|e
 ·have h:=Ry (Q:=Q) (g0:=g0) (J:=J) aG
  rw[<-e] at h;exact h
 ·have h:=ao' (Q:=Q) (g0:=g0) (J:=J) aG
  rw[<-e] at h;exact h
theorem LB{z:Int}(aG:z.natAbs<1000000000000000000):Fn (aT Q g0) 62 [.int .i64 z] [] J (us J (⟨z,1⟩:cY)):=by
 have ap:(ag z.natAbs).length<=2:=kZ (hA aG bm);have ab:(ag 1).length<=60000:=dA (kZ (k:=1) bm) bm;have Aj:bn z 1=(⟨z,1⟩:cY):=AM (r:=⟨z,1⟩) ⟨Nat.one_pos,L6 _⟩;refine Fn.b8 (b7 Tryz.func62) rfl rfl fun H=>?_;refine rg ?_;refine gn fun bc=>?_;refine aa 0x120738 ?_;refine br (G:=apa aG) (h:=?_);rintro v' m' bi hle ⟨aM,rfl,ez⟩;refine lj fun fh=>?_;refine W.ed rfl fun a9 N8=>?_;refine br (G:=AD (z:=z) Nat.one_pos rfl (fun _=>rfl) (ez.fG.mono a9) (Kj N8) I ab) (h:=?_);rintro v' m' de hle ⟨cq,rfl,en,fR,rfl,b3⟩;rw[Aj] at b3 ⊢;have cg:=b3;obtain⟨gy,eI,rfl,mO⟩:=b3.n.bQ;obtain⟨kJ,b2,rfl,nr⟩:=b3.d.bQ;refine aa 0xd5f1c ?_;refine bo ?_;exact⟨aM.trans (a9.trans cq),rfl,_,_,rfl,cg⟩
theorem ap7{r s:cY}{v1 v2 bt cv:Value}(aq:kI J r v1 v2)(hs:kI J s bt cv)(rd:0<r.d)(hU:0<s.d)(dL:(ag r.z.natAbs).length<=20000)(du:(ag r.d).length<=20000)(js:(ag s.z.natAbs).length<=20000)(lv:(ag s.d).length<=20000):Fn (aT Q g0) 61 [eC r v1 v2,eC s bt cv] [] J (us J (bn (r.z*s.z) (r.d*s.d))):=by
 have cx:=aq;have fE:=hs;obtain⟨bs,bp,rfl,aK⟩:=aq.n.bQ;obtain⟨bM,bN,rfl,aH⟩:=aq.d.bQ;obtain⟨cB,cN,rfl,bJ⟩:=hs.n.bQ;obtain⟨ep,e',rfl,dU⟩:=hs.d.bQ;have Qa:(ag (r.z.natAbs*s.z.natAbs)).length<=40000:=yF dL js;have P9:(ag (r.d*s.d)).length<=40000:=yF du lv;refine Fn.b8 (b7 Tryz.func61) rfl rfl fun H=>?_;refine rg ?_;refine gZ fun bc=>?_;refine gZ fun cu=>?_;refine gn fun c9=>?_;refine sn ?_;refine aB.draw rfl (by kernel_rfl) (aX:=[.val 0,.val 1,.val 2,.val 3,.val 4,.val 5,.val 6,.val 7,.val 8,.val 10,.val 11,.val 12,.val 13,.bD 9,.ca [13,12,11,10,4,3,2,1,0],.bD 14,.ca [4,3,2,1,0],.bD 15,.bD 16]) (by kernel_rfl) ?_;refine aa 0x5354d ?_;refine' cm.val rfl rfl rfl rfl (xB rfl rfl rfl (.inr ⟨rfl,rfl⟩) (by kernel_rfl)) ?_;refine aa 0x1e5354d5354d ?_;refine' bh.dV rfl rfl rfl rfl rfl rfl rfl rfl rfl dt (xy cx.n fE.n I I) ?_;rintro v' m' bi aM ⟨_,rfl,ez⟩;have gq:=ez.fG;obtain⟨fw,gz,rfl,fP⟩:=gq.bQ;refine bh.ca ⟨?jM,?aU,?aQ,?bj,?ct,?fo,?jN,?oD,?rj,trivial⟩ ?_;case jM=>
  refine' h6.val rfl rfl rfl (ob rfl rfl ?aq (iy (g2 rfl) ?ar)) rfl ?he;case aq=>exact qr
  case ar=>first|rfl|assumption
  case he=>exact mu
 case aU=>
  refine' h6.val rfl rfl rfl (Bi rfl rfl (A9 rfl rfl)) rfl ?he;case he=>exact mu
 case aQ=>
  refine' h6.val rfl rfl rfl (ob rfl rfl ?aq (iy (g2 rfl) ?ar)) rfl ?he;case aq=>exact qr
  case ar=>first|rfl|assumption
  case he=>exact mu
 case bj=>
  refine' h6.val rfl rfl rfl (Bi rfl rfl (A9 rfl rfl)) rfl ?he;case he=>exact mu
 case ct=>
  refine' h6.val rfl rfl rfl (xB rfl rfl rfl (.inr ⟨rfl,rfl⟩) (by kernel_rfl)) rfl ?he;case he=>exact mu
 case fo=>
  refine' h6.val rfl rfl rfl (ob rfl rfl ?aq (iy (g2 rfl) ?ar)) rfl ?he;case aq=>exact qr
  case ar=>first|rfl|assumption
  case he=>exact mu
 case jN=>
  refine' h6.val rfl rfl rfl (Bi rfl rfl (A9 rfl rfl)) rfl ?he;case he=>exact mu
 case oD=>
  refine' h6.val rfl rfl rfl (ob rfl rfl ?aq (iy (g2 rfl) ?ar)) rfl ?he;case aq=>exact qr
  case ar=>first|rfl|assumption
  case he=>exact mu
 case rj=>
  refine' h6.val rfl rfl rfl (Bi rfl rfl (A9 rfl rfl)) rfl ?he;case he=>exact mu
 refine' bh.dV rfl rfl rfl rfl rfl rfl rfl rfl rfl (cF (fun _ aF=>pP.hs aM (by rw[cx.n.Bg (cx.d.mono aM) aM (mR aF).1,fE.n.Bg (fE.d.mono aM) aM (mR aF).2]) rfl) dt) (xy (cx.d.mono aM) (fE.d.mono aM) I I) ?_;rintro v' m' de a9 ⟨_,rfl,eh⟩;have g1:=eh.fG;obtain⟨fi,eu,rfl,je⟩:=g1.bQ;refine bh.ca ⟨?jM,?aU,?aQ,?bj,?ct,trivial⟩ ?_;case jM=>
  refine' h6.val rfl rfl rfl (xB rfl rfl rfl (.inr ⟨rfl,rfl⟩) (by kernel_rfl)) rfl ?he;case he=>exact mu
 case aU=>
  refine' h6.val rfl rfl rfl (ob rfl rfl ?aq (iy (g2 rfl) ?ar)) rfl ?he;case aq=>exact qr
  case ar=>first|rfl|assumption
  case he=>exact mu
 case aQ=>
  refine' h6.val rfl rfl rfl (Bi rfl rfl (A9 rfl rfl)) rfl ?he;case he=>exact mu
 case bj=>
  refine' h6.val rfl rfl rfl (ob rfl rfl ?aq (iy (g2 rfl) ?ar)) rfl ?he;case aq=>exact qr
  case ar=>first|rfl|assumption
  case he=>exact mu
 case ct=>
  refine' h6.val rfl rfl rfl (Bi rfl rfl (A9 rfl rfl)) rfl ?he;case he=>exact mu
 refine' bh.dV rfl rfl rfl rfl rfl rfl rfl rfl rfl (cF (dh rfl) (cF (dh rfl) dt)) (AD (z:=r.z*s.z) (kp rd hU) (l4 _ _) (fun aG=>aoX aG) (gq.mono a9) g1 I I) ?_;rintro v' m' fe cq ⟨_,rfl,en,fR,rfl,b3⟩;have cg:=b3;obtain⟨gy,eI,rfl,mO⟩:=b3.n.bQ;obtain⟨kJ,b2,rfl,nr⟩:=b3.d.bQ;refine aa 0x1abe39e ?_;refine bo ?_;exact⟨(aM.trans a9).trans cq,rfl,_,_,rfl,cg⟩
end
end
end Go.Opn
