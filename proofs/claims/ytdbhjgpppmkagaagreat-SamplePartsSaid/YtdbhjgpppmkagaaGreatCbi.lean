/- A part of the proof of SampleParts. -/
import Derived.Test.YtdbhjgpppmkagaaGreatCbh
set_option linter.unusedVariables false
set_option linter.unusedSimpArgs false
namespace Go.Opn
noncomputable section
open Go.Cre Go.RowKit
section
variable {g0:Nat}{B:dO}{H:ao}{J:aA}{m m':aI}
theorem Inv.aiu{a z:Nat}{full:List Value}{e:TypeId}{rest:List Nat}(h:Inv g0 B J ((a,.opn full e rest z)::m) H)(cells':List Value):
 ∃f H1 bZ gf,H.mem.get a=some (.row full e true f z false)/\H.br.get f=some (a::rest)/\rz H H.af (a::rest)=some H1/\H1.qx f [H.af]=some bZ/\H1.af=H.af/\bZ.af=H.af/\bZ.new (.row cells' e true f z false)=some (H.af,gf)/\Inv g0 B J ((H.af,.opn cells' e [] z)::m) gf:=by
 obtain⟨a',bd,bz,cM⟩:=h.own a _ (.head _);obtain⟨f,f1,f2,f3⟩:=a';have cP:=h.lt (.head _);have dL:=h.gD;rw[show ids ((a,cI.opn full e rest z)::m)=a::(rest++ids m) from rfl,r0,lL,CX] at dL;obtain⟨Bq,EL,H5,Mg⟩:=dL;have BB:∀x∈a::rest,x<H.af:=fun x I=>by
  rcases ft.1 I with q|q
  ·subst q;exact cP
  ·exact(h.opn a _ (.head _) x q).1
 obtain⟨H1,aD,d'⟩:=T7 (oH:=H.af) (a::rest) h.wf BB;obtain⟨v1,v2,jX,v4,oV,v6⟩:=Iy aD;have jx:f<H1.cd:=by rw[jX];exact h.wf.DV f3
 obtain⟨bZ,a5⟩:=d'.qx [H.af] jx;obtain⟨s2,s1,h2,xY,sW⟩:=ao.Cn a5;have gk:bZ.af=H.af:=by rw[s2,v1]
 have zv:∀x,x≠a->x∉rest->bZ.mem.get x=H.mem.get x:=fun x aZ aR=>by
  rw[s1,v6 x (.inl (fun q=>by rcases ft.1 q with q|q;exact aZ q;exact aR q))]
 have sv:∀g,g≠f->bZ.br.get g=H.br.get g:=fun g q=>by rw[sW,aq q,v2]
 have hm:Inv g0 B J m bZ:=by
  refine⟨d'.Ov jx a5,by rw[xY,v4];exact h.bq,by rw[gk];exact h.af,by rw[h2,jX];exact h.cd,fun x I jS=>?_,fun g ar=>?_,fun x c bn aU=>?_,h.le,h.fresh,fun x b ai=>?_,fun x b ai y ah=>by rw[gk];exact h.opn x b (.tail _ ai) y ah,H5⟩
  ·rw[zv x (fun q=>by subst q;rcases bd with q|q;·omega
                      ·exact jS q) (fun q=>by rcases(h.opn a _ (.head _) x q).2.1 with r|r;·omega
                                              ·exact jS r)]
   exact h.e7 x I jS
  ·rw[sv g (fun q=>ar (by rw[q];exact f1))];exact h.lY g ar
  ·obtain⟨o,dj,lI,s,q⟩:=h.fj x c bn aU
   exact⟨o,dj,lI,s,by rw[zv x (fun r=>by subst r;rw[bz] at aU;cases aU) (fun r=>by have:=(h.opn a _ (.head _) x r).2.2;rw[this] at aU;cases aU)];exact q⟩
  ·obtain⟨dZ,eJ,kV,mY⟩:=h.own x b (.tail _ ai)
   have np:x∈ids m:=xz ai;refine⟨?_,eJ,kV,mY⟩;refine cI.uT dZ (zv x (fun r=>Bq (.inr (r▸np))) (fun r=>Mg _ r _ np rfl)) fun g r ar=>?_;rw[sv g (fun dt=>by
        subst dt;rw[f3] at ar;injection ar with ar;injection ar with ar
        exact Bq (.inr (ar▸np)))]
   exact ar
 obtain⟨gf,cC⟩:=hm.wf.new (.row cells' e true f z false);obtain⟨_,dr,ki,qo,m0,lG⟩:=ao.n1 cC;refine⟨f,H1,bZ,gf,f2,f3,aD,a5,v1,gk,by rw[<-gk];exact cC,?_⟩;have ab:Inv g0 B J m gf:=by
  refine⟨hm.wf.NH cC,m0.trans hm.bq,by have:=hm.af;omega,by rw[qo];exact hm.cd,fun x I jS=>?_,fun g ar=>by rw[ki];exact hm.lY g ar,fun x c e aU=>?_,hm.le,hm.fresh,fun x b ai=>?_,fun x b ai y ah=>?_,hm.gD⟩
  ·rw[lG,aq (by have:=hm.af;omega)];exact hm.e7 x I jS
  ·obtain⟨o,f,z,s,q⟩:=hm.fj x c e aU
   exact⟨o,f,z,s,by rw[lG,aq (by have:=hm.wf.lt q;omega)];exact q⟩
  ·obtain⟨dZ,eJ,kV,mY⟩:=hm.own x b ai
   exact⟨cI.uT dZ (by rw[lG,aq (by have:=hm.lt ai;omega)]) (fun f l aw=>by rw[ki];exact aw),eJ,kV,mY⟩
  ·obtain⟨dZ,eJ,kV⟩:=hm.opn x b ai y ah
   exact⟨by omega,eJ,kV⟩
 refine⟨ab.wf,ab.bq,ab.af,ab.cd,ab.e7,ab.lY,ab.fj,ab.le,ab.fresh,fun x b ai=>?_,fun x b ai y ah=>?_,?_⟩
 ·rcases ft.1 ai with q|q
  ·injection q with aZ aR;subst aZ;subst aR
   exact⟨⟨f,f1,by rw[lG,gk,aF rfl],by rw[ki,sW,aF rfl]⟩,.inl h.af,h.NK,h.Lu⟩
  ·exact ab.own x b q
 ·rcases ft.1 ai with q|q
  ·injection q with aZ aR;subst aZ;subst aR;cases ah
  ·exact ab.opn x b q y ah
 ·show(H.af::([]++ids m)).Nodup
  rw[mB,r0];refine⟨fun q=>?_,H5⟩;have:=hm.IE q;omega
end
structure Pm (e:TypeId) (aj:Nat) (v:Value) (k:Nat) (cells:List Value) (aY:aI) (a:Nat) (full:List Value) (rest:List Nat) (z:Nat):Prop where
 v:v=.slice (some ⟨a,0,none⟩) k cR
 aY:aY=[(a,.opn full e rest z)]
 lt:k*aj<full.length
 cut:full.take (k*aj)=cells
 z:z<=k*aj
section
variable {K:eN}{B:dO}{o:Oper}{n:Nat}{ds:eQ}{l:List (Nat×Value)}{m m':aI}{J:aA}{eF:b9->aI->aA->Prop}{d:Nat}
theorem alb{c:Call}{t hq e:TypeId}{aj k j a z:Nat}{gd cells new full:List Value}{rest:List Nat}{v x:Value}{aY eA:aI}{eZ:TypeDesc}(an:o.op=.call c)(av:c.callee=.builtin .append)(aS:o.dst=some d)(aM:Nat.blt d n=true)(aW:il l c.args.toList=some [v,x])(nn:c.argTypes.toList=[t,hq])(aN:kn K.P t=some (e,aj,gd))(kg:K.P.underlying hq=some eZ)(tZ:∀i,eZ≠.int i)
 (ap:Pm e aj v k cells aY a full rest z)(hm:m.Perm (aY++eA))(I:nb K.g0 B J m aj x j new)(df:new.length=j*aj)(dR:new.all eT=true)(aU:0<j)(ay:k+j<=1000000)
 (h:∀w hy,Acc e aj w (k+j) (cells++new) hy->(z=0->lI hy)->cE hy->eF ⟨n,ds,(d,w)::l⟩ (hy++eA) J):iG K B o ⟨n,ds,l⟩ m J eF:=by
 obtain⟨rfl,rfl,cP,Bc,BJ⟩:=ap;obtain⟨hu,eI,hZ,Ai,h1,bC,bE,rfl,bS,cJ,gy⟩:=ux aN;refine iG.Ae aS aM fun S H aC aE=>?_;obtain⟨h4,hd⟩:=I H aE;have aE:=aE.perm hm;have gN:∀call aL,cY K.P call aL S H o=l8 (pa K.P H t (.slice (some ⟨a,0,none⟩) k cR) x):=fun call aL=>by
  rw[AV an av];unfold q4;rw[o9 aC H aW,nn];simp only[kg]
 have ke:(!(Nat.ble (k+j) 1000000&&Nat.ble hZ 1000000&&Nat.beq Ai.cells.toList.length aj))=false:=by
  rw[bE,bS,hX,show Nat.ble (k+j) 1000000=true from kK ay];rfl
 have nT:(!(new.all eT&&Nat.beq new.length (j*aj)))=false:=by
  rw[dR,df,hX];rfl
 have jw:cells.length=k*aj:=by rw[<-Bc,fc];omega
 obtain⟨f,H1,bZ,gf,b4,bX,cg,fJ,fV,gW,gJ,pc⟩:=Inv.aiu (m:=eA) aE (cells++new);have ow:Nat.blt a H.bq=false:=by
  cases q:Nat.blt a H.bq
  ·rfl
  ·have:a<H.bq:=by simpa[Nat.blt,tb] using q
   have:=(aE.own _ _ (.head _)).2.2.2;have:=aE.bq;omega
 have Ip:Nat.ble z (0+k*aj)=true:=kK (by omega);refine⟨.slice (some ⟨H.af,0,none⟩) (k+j) cR,gf,(H.af,.opn (cells++new) e [] z)::eA,J,fun call aL=>?_,pc,?_⟩
 ·rw[gN];have My:Nat.beq j 0=false:=by
   cases q:Nat.beq j 0
   ·rfl
   ·exact absurd (eK q) (by omega)
  have hle:Nat.beq full.length (k*aj)=false:=by
   cases q:Nat.beq full.length (k*aj)
   ·rfl
   ·exact absurd (eK q) (by omega)
  have M5:takeN (k*aj) full=some cells:=by rw[x7 (by omega),Bc]
  unfold pa;simp only[hu,eI,h1,bC,h4,ke,dN,hd,nT,hX,cc,b4,ow,Pt,wm,Ip,lK,My,M5,bX,wY,hle,DF,cg,fV,fJ,gW,gJ];rfl
 ·exact h (.slice (some ⟨H.af,0,none⟩) (k+j) cR) [(H.af,.opn (cells++new) e [] z)] (.opn (by rw[er,jw,df,mC]) (by rw[er];omega)) (fun q bA b1 bn r hT hm=>by rcases ft.1 hm with r|r;(cases r;exact q);cases r) (fun bA b1 bn hm=>by rcases ft.1 hm with r|r;cases r;cases r)
theorem WR{t e:TypeId}{x:Operand}{ak:Operand}{aj a len z:Nat}{gd full:List Value}{rest:List Nat}{b:Int}{ry:IntKind}(an:o.op=.slice t x none (some ak) none)(I:bW l x=some (.slice (some ⟨a,0,none⟩) len cR))(mn:bW l ak=some (.int ry b))(aN:kn K.P t=some (e,aj,gd))(hm:(a,cI.opn full e rest z)∈m)(bt:0<=b)(aa:b<=len):
 c1 K B o n ds l m J (.slice (some ⟨a,0,none⟩) b.toNat cR):=by
 obtain⟨hu,eI,hZ,Ai,h1,bC,bE,rfl,bS,cJ,gy⟩:=ux aN;intro call aL S H aC aE;obtain⟨f,_,hJ,_⟩:=(aE.own _ _ hm).1;unfold cY fU;simp only[an];show n5 K.P _ t (a6 S.T H x) (some none) (h7 S.T H (some ak))=_;rw[ey aC H I];show n5 K.P _ t _ (some none) (match a6 S.T H ak with|some v=>some (some v)|none=>none)=_
 rw[ey aC H mn];have acQ:pt b len=some b.toNat:=by
  obtain⟨c,rfl⟩:∃c:Nat,b=(c:Int):=⟨b.toNat,by omega⟩;show(bif Nat.ble c len then some c else none)=_;rw[show Nat.ble c len=true from kK (by omega)];rfl
 have:mP K.P H t (.slice (some ⟨a,0,none⟩) len cR) none (some (.int ry b))=some (.slice (some ⟨a,0,none⟩) b.toNat cR):=by
  unfold mP;simp only[hu,eI,hX,cc,hJ,lK,dN,kt,acQ,Gy,s9];rfl
 show orElse (g2 (mP K.P H t (.slice (some ⟨a,0,none⟩) len cR) none (some (.int ry b))) H) _=_;rw[this];rfl
end
def hf(e:TypeId)(aj:Nat)(v:Value)(k:Nat)(cells:List Value)(aY:aI):Prop:=(Acc e aj v k cells aY/\lI aY/\cE aY)\/∃a full rest,Pm e aj v k cells aY a full rest 0
theorem hf.form{e:TypeId}{aj k:Nat}{v:Value}{cells:List Value}{aY:aI}(h:hf e aj v k cells aY):(∃b,v=.slice b 0 0/\k=0/\cells=[]/\aY=[])\/∃a full rest,v=.slice (some ⟨a,0,none⟩) k cR/\aY=[(a,.opn full e rest 0)]/\full.take (k*aj)=cells/\k*aj<=full.length:=by
 rcases h with⟨h,bC,aM⟩|⟨a,full,rest,aa,ab,aK,bh,ff⟩
 ·cases h with
  |nil=>exact .inl ⟨_,rfl,rfl,rfl,rfl⟩
  |lu a=>exact .inl ⟨_,rfl,rfl,rfl,rfl⟩
  |opn aa ab=>
   have:=bC _ _ _ _ _ (.head _);subst this;exact .inr ⟨_,_,_,rfl,rfl,by rw[<-aa,Aw],by omega⟩
  |cap=>exact absurd (.head _) (aM _ _ _)
 ·exact .inr ⟨a,full,rest,aa,ab,bh,by omega⟩
theorem hf.of{e:TypeId}{aj k a:Nat}{full:List Value}{rest:List Nat}(aH:k*aj<=full.length):hf e aj (.slice (some ⟨a,0,none⟩) k cR) k (full.take (k*aj)) [(a,.opn full e rest 0)]:=by
 by_cases q:k*aj=full.length
 ·refine .inl ⟨?_,fun bA c bn r z hm=>?_,fun bA c bn hm=>?_⟩
  ·have:=Acc.opn (a:=a) (e:=e) (rest:=rest) (z:=0) q.symm (dV _);rw[q,Aw];exact this
  ·rcases ft.1 hm with q|q
   ·cases q;rfl
   ·cases q
  ·rcases ft.1 hm with q|q
   ·cases q
   ·cases q
 ·exact .inr ⟨a,full,rest,rfl,rfl,by omega,rfl,dV _⟩
theorem hf.row{e:TypeId}{aj k:Nat}{v:Value}{cells:List Value}{aY:aI}(h:hf e aj v k cells aY)(bt:0<k):∃a full rest,v=.slice (some ⟨a,0,none⟩) k cR/\aY=[(a,.opn full e rest 0)]/\full.take (k*aj)=cells/\k*aj<=full.length:=by
 rcases h.form with⟨b,_,q,_⟩|q
 ·omega
 ·exact q
section
variable {K:eN}{B:dO}{o:Oper}{n:Nat}{ds:eQ}{l:List (Nat×Value)}{m m':aI}{J:aA}{eF:b9->aI->aA->Prop}{d:Nat}
theorem O9{c:Call}{t hq e:TypeId}{aj k j:Nat}{gd cells new:List Value}{v x:Value}{aY eA:aI}{eZ:TypeDesc}(an:o.op=.call c)(av:c.callee=.builtin .append)(aS:o.dst=some d)(aM:Nat.blt d n=true)(aW:il l c.args.toList=some [v,x])(nn:c.argTypes.toList=[t,hq])(aN:kn K.P t=some (e,aj,gd))(kg:K.P.underlying hq=some eZ)(tZ:∀i,eZ≠.int i)
 (ap:hf e aj v k cells aY)(hm:m.Perm (aY++eA))(I:nb K.g0 B J m aj x j new)(df:new.length=j*aj)(dR:new.all eT=true)(aU:0<j)(ay:k+j<=1000000)
 (h:∀w hy,hf e aj w (k+j) (cells++new) hy->eF ⟨n,ds,(d,w)::l⟩ (hy++eA) J):iG K B o ⟨n,ds,l⟩ m J eF:=by
 rcases ap with⟨ap,aa,ab⟩|⟨a,full,rest,ap⟩
 ·exact O8 an av aS aM aW nn aN kg tZ ap hm I df dR ay fun w hy q r=>h w hy (.inl ⟨q,r.1 aa,r.2 ab⟩)
 ·exact alb an av aS aM aW nn aN kg tZ ap hm I df dR aU ay fun w hy q cO dI=>h w hy (.inl ⟨q,cO rfl,dI⟩)
end
section
variable {K:eN}{B:dO}{o:Oper}{n:Nat}{ds:eQ}{l:List (Nat×Value)}{m:aI}{J:aA}
def Df (k:IntKind)(a b:Int):BinOp->Option Value
 |.shr=>some (.int k (a.fdiv (2 ^ b.toNat)))
 |.and=>some (.int k (k.wrap (BitVec.ofInt k.bits a &&& BitVec.ofInt k.bits b).toNat))
 |_=>none
theorem OU{op:BinOp}{t eV:TypeId}{x y:Operand}{k:IntKind}{a b:Int}{v:Value}(an:o.op=.binOp op t x y eV)(I:bW l x=some (.int k a))(ah:bW l y=some (.int k b))(ap:Df k a b op=some v)(ai:0<=b)(kw:b<=k.bits):c1 K B o n ds l m J v:=by
 intro call aL S H aC aE;unfold cY fU;simp only[an];show nr K.P _ op t (a6 S.T H x) (a6 S.T H y)=_;rw[ey aC H I,ey aC H ah];show(bif sG k k then mu H k a b _ op else _)=_;rw[Iz,cc];have key:∀(vY:BinOp),op=vY->(vY=.shr\/vY=.and)->gH K.P S.T H o=some (.val v H):=by
  intro vY e h;subst e;refine uq aC (by rw[an];rfl) I ah rfl rfl ?_ ?_
  ·unfold execOp;simp only[an];rw[lx aC H I,lx aC H ah];rcases h with rfl|rfl
   ·simp only[Df,b6] at ap;subst ap;have ar:fI K.P (eqGuard .shr t x y (.int k a) (.int k b))=some ():=rfl;have ou:binOp .shr t (.int k a) (.int k b)=pure (.int k (a.fdiv (2 ^ b.toNat))):=by
     simp[binOp,Op.shift,show ¬b<0 by omega,k4 (show b.toNat<=k.bits by omega)]
    rw[eC (a:=.int k (a.fdiv (2 ^ b.toNat)))]
    ·rfl
    rw[eC ar,ou];rfl
   ·simp only[Df,b6] at ap;subst ap;have ar:fI K.P (eqGuard .and t x y (.int k a) (.int k b))=some ():=rfl;have ou:binOp .and t (.int k a) (.int k b)=pure (.int k (k.wrap (BitVec.ofInt k.bits a &&& BitVec.ofInt k.bits b).toNat)):=by simp[binOp,Op.intBits]
    rw[eC (a:=.int k (k.wrap (BitVec.ofInt k.bits a &&& BitVec.ofInt k.bits b).toNat))]
    ·rfl
    rw[eC ar,ou];rfl
  ·rcases h with rfl|rfl<;>simp only[Df,b6] at ap<;>subst ap<;>rfl
 cases op<;>simp only[Df,reduceCtorEq] at ap
 ·show _=_;exact(show mu H k a b _ .and=_ from key .and rfl (.inr rfl))
 ·exact(show mu H k a b _ .shr=_ from key .shr rfl (.inl rfl))
end
theorem Yk{a:Int}(h:0<=a)(ab:a<9223372036854775808):IntKind.i64.wrap (BitVec.ofInt IntKind.i64.bits a &&& BitVec.ofInt IntKind.i64.bits 1).toNat=a % 2:=by
 have e:(BitVec.ofInt 64 a &&& BitVec.ofInt 64 1).toNat=a.toNat % 2:=by
  rw[BitVec.toNat_and];have aa:(BitVec.ofInt 64 a).toNat=a.toNat:=by
   rw[BitVec.toNat_ofInt];congr 1
   omega
  rw[aa];show a.toNat &&& 1=_;exact Nat.and_one_is_mod _
 show IntKind.i64.wrap ((BitVec.ofInt 64 a &&& BitVec.ofInt 64 1).toNat:Int)=_;rw[e,wrap_i64 (by omega) (by omega)];omega
theorem ai'{a:Nat}{q:Nat}:(a:Int).fdiv (2 ^ q)=((a / 2 ^ q:Nat):Int):=by
 rw[Xz _ (by exact Gp (Int.pow_pos (by omega)))];simp
section
variable {K:eN}{B:dO}{n:Nat}{ds:eQ}{l:List (Nat×Value)}{m m':aI}{J:aA}{cx:Exit->b9->aI->aA->Prop}{f:FuncId}{args:List Value}
theorem BU{α:Type}{m:List α}:∃j,(m++j).Perm m:=⟨[],by rw[fb]⟩
theorem T5{α:Type}{m m':List α}(h:m.Sublist m'):∃j,(m++j).Perm m':=by
 induction h with
 |slnil=>exact⟨[],.refl _⟩
 |cons a _ aG=>obtain⟨j,h⟩:=aG;exact⟨a::j,List.perm_middle.trans (h.cons a)⟩
 |cons_cons a _ aG=>obtain⟨j,h⟩:=aG;exact⟨j,h.cons a⟩
theorem ae.DE{α:Type}{c:Code}(k:Nat)(rE:α->List (Nat×Value))(mem:α->aI)(fj:α->aA)(inv:α->Prop)(aa:ae K B c ⟨n,ds,l⟩ m J fun e E' m' ag=>match e with
 |.normal=>∃s l',inv s/\E'=⟨n,ds,l'⟩/\oT l' (rE s++l.drop k)/\(∃j,(mem s++j).Perm m')/\ag=fj s
 |e=>cx e E' m' ag)(ab:∀s,inv s->cx .normal ⟨n,ds,rE s++l.drop k⟩ (mem s) (fj s)):ae K B c ⟨n,ds,l⟩ m J cx:=by
 intro S H aC aE;obtain⟨e,aO,H',E',ct,ag,a',bd,bz,cM⟩:=aa S H aC aE;cases e with
 |normal=>
  obtain⟨s,l',gX,rfl,ha,⟨j,ru⟩,rfl⟩:=cM;exact⟨_,aO,H',_,_,_,a',bd.sub ha,(bz.perm ru.symm).sub (oh _ _),ab s gX⟩
 |exit i=>exact⟨_,aO,H',_,_,_,a',bd,bz,cM⟩
 |goto i=>exact⟨_,aO,H',_,_,_,a',bd,bz,cM⟩
 |ret=>exact⟨_,aO,H',_,_,_,a',bd,bz,cM⟩
 |panic c=>exact⟨_,aO,H',_,_,_,a',bd,bz,cM⟩
 |outgrown=>exact⟨_,aO,H',_,_,_,a',bd,bz,cM⟩
theorem ae.e7{c:Code}{E:b9}{lZ:aI}(au:(m'++lZ).Perm m)(h:ae K B c E m' J cx):ae K B c E m J cx:=fun S H aC aE=>h S H aC ((aE.perm au.symm).sub (oh _ _))
theorem Fn.frame{a4 b2:aI}{dT:Value->aI->aA->Prop}(h:Fn K f args a4 J dT)(au:(a4++b2).Perm m):Fn K f args m J fun v eM ag=>J.le ag/\∃m',eM=m'++b2/\dT v m' ag:=fun H aE=>by
 obtain⟨v,H',ag,m',aa,ab,aK⟩:=h H (aE.enter au trivial);obtain⟨a',bd⟩:=aE.leave au ab;exact⟨v,H',ag,_,aa,a',bd,m',rfl,aK⟩
end
structure CH where
 f:FuncId
 bJ:List Value
 a4:aI
 J:aA
 dT:Value->aI->aA->Prop
 new:Bool
def CH.XE(x:CH)(K:eN)(f:FuncId)(bJ:List Value)(H:ao)(r:Ending×ao):Prop:=
 x.f=f/\x.bJ=bJ/\Inv K.g0 (iO x.a4 H x.J) x.J x.a4 H/\∃v H' ag m',r=(Ending.returned v,H')/\o0 K.Q f bJ H (.returned v) H'/\Inv K.g0 (iO x.a4 H x.J) ag m' H'/\x.dT v m' ag
def gT(K:eN)(B:dO)(ops:List Oper)(a8:List iW)(F:List CH)(E:b9)(m:aI)(J:aA)(bD:b9->aI->aA->Prop):Prop:=
 ∀(T:eS) (S:aQ) (H:ao),(∀f bJ H1 r,T f bJ H1=some r->∃x∈F,x.XE K f bJ H1 r/\(x.new=true->H1.af<H.af))->Sat E S->Inv K.g0 B J m H->∃bc:eS,(∀f bJ H r b7,T f bJ H=some r->bc f bJ H=some b7->b7=r)/\∃aO H' E' m' ag,
  (∀ir:eS,(∀f args H r,bc f args H=some r->ir f args H=some r)->eH K.P (j' K.Q ir) (hj K.Q jz ir).aL ops a8 S H=some (.ok aO H'))/\Sat E' aO/\Inv K.g0 B ag m' H'/\bD E' m' ag
section
variable {K:eN}{B:dO}{ops:List Oper}{a8:List iW}{F:List CH}{Pw:List (FuncId×List Value)}{E:b9}{m m':aI}{J:aA}{o:Oper}{bD:b9->aI->aA->Prop}
variable {n:Nat}{ds:eQ}{l:List (Nat×Value)}{d i:Nat}
theorem a3.IX(h:gT K B ops a8 [] E m J bD):a3 K B ops a8 [] E m J bD:=by
 intro S H aC aE;obtain⟨bc,_,ab⟩:=h (fun _ _ _=>none) S H (fun _ _ _ _ q=>by cases q) aC aE;exact⟨bc,(fun _ _ _ _ _ q=>by cases q),ab⟩
theorem gT.IW(fz:∀x∈F,(x.f,x.bJ)∈Pw)(h:a3 K B ops a8 Pw E m J bD):gT K B ops a8 F E m J bD:=by
 intro T S H dK aC aE;obtain⟨bc,aa,ab⟩:=h S H aC aE;refine⟨bc,fun f bJ H1 r b7 aZ aR=>?_,ab⟩;obtain⟨x,I,⟨aD,a5,_⟩,_⟩:=dK f bJ H1 r aZ;exact absurd (by rw[<-aD,<-a5];exact fz x I) (aa f bJ H1 b7 aR)
theorem gT.val{v:Value}(ak:nth ops i=some o)(ar:o.guard=none)(aS:o.dst=some d)(aM:Nat.blt d n=true)(ap:c1 K B o n ds l m J v)(h:gT K B ops a8 F ⟨n,ds,(d,v)::l⟩ m J bD):gT K B ops (.val i::a8) F ⟨n,ds,l⟩ m J bD:=by
 intro T S H dK aC aE;obtain⟨ba,s1,s2⟩:=aC.put (dst:=some d) aM v;obtain⟨bc,dS,aO,H',E',m',ag,aa,ab,aK,bh⟩:=h T ba H dK s2 aE;refine⟨bc,dS,aO,H',E',m',ag,fun ir q=>?_,ab,aK,bh⟩;show kW ops i (pG K.P _ _ ops S H (eH K.P _ _ ops a8))=_;unfold kW;rw[ak];show pG K.P _ _ ops S H (eH K.P _ _ ops a8) o=_;unfold pG fW;rw[ar];show F6 S H o.dst (eH K.P _ _ ops a8) (cY K.P _ _ S H o)=_;rw[ap _ _ S H aC aE,aS];show(bif Nat.beq H.af H.af then qz (eH K.P _ _ ops a8) H (S.put (some d) v) else none)=_;rw[hX,cc,s1];exact aa ir q
theorem gT.c9{is:List Nat}(av:uG K B ops n ds l m J is)(h:gT K B ops a8 F ⟨n,ds,l⟩ m J bD):gT K B ops (.c9 is::a8) F ⟨n,ds,l⟩ m J bD:=by
 intro T S H dK aC aE;obtain⟨bc,dS,aO,H',E',m',ag,aa,ab,aK,bh⟩:=h T S H dK aC aE;refine⟨bc,dS,aO,H',E',m',ag,fun ir q=>?_,ab,aK,bh⟩;show Dx K.P _ _ ops S H (eH K.P _ _ ops a8) is=_;unfold Dx;rw[uG.all aC aE av,cc];exact aa ir q
theorem gT.Q1{mk:Bool}{c:Call}{x:Operand}{f:FuncId}{first cap:Array Value}{args bJ:List Value}{a4 b2:aI}{dT:Value->aI->aA->Prop}
 (ak:nth ops i=some o)(ar:o.guard=none)(an:o.op=.call c)(aS:o.dst=some d)(aM:Nat.blt d n=true)(av:c.callee=.value x)(I:bW l x=some (.func (.func f) first cap))(aW:il l c.args.toList=some args)(has:(first.toList++args)++cap.toList=bJ)
 (al:∀x∈F,x.f=f->x.bJ=bJ->(x.a4=a4/\x.J=J/\x.dT=dT)\/(∀H,Inv K.g0 (iO x.a4 H x.J) x.J x.a4 H->Inv K.g0 (iO a4 H J) J a4 H->False)\/x.new=true)
 (MJ:mk=true->a4=[]/\∀v m' ag,dT v m' ag->∃a b,(a,b)∈m')
 (au:(a4++b2).Perm m)(gj:vS a4)(fz:Fn K f bJ a4 J dT)(h:∀v m' ag,J.le ag->dT v m' ag->gT K B ops a8 (⟨f,bJ,a4,J,dT,mk⟩::F) ⟨n,ds,(d,v)::l⟩ (m'++b2) ag bD):gT K B ops (.cv i::a8) F ⟨n,ds,l⟩ m J bD:=by
 intro T S H dK aC aE;have y8:=aE.enter au gj;obtain⟨v,H',ag,m',a',bd,bz,gX⟩:∃v H' ag m',o0 K.Q f bJ H (.returned v) H'/\Inv K.g0 (iO a4 H J) ag m' H'/\dT v m' ag/\∀r,T f bJ H=some r->r=(Ending.returned v,H'):=by
  cases acr:T f bJ H with
  |none=>
   obtain⟨v,H',ag,m',a',bd,bz⟩:=fz H y8;exact⟨v,H',ag,m',a',bd,bz,fun r q=>by cases q⟩
  |some r=>
   obtain⟨x,I,⟨aD,a5,ab8,v,H',ag,m',aav,a',bd,bz⟩,mV⟩:=dK _ _ _ _ acr;rcases al x I aD a5 with⟨aZ,aR,bY⟩|q|q
   ·rw[aZ,aR] at bd;rw[bY] at bz;exact⟨v,H',ag,m',a',bd,bz,fun b7 q=>by injection q with q;rw[<-q];exact aav⟩
   ·exact(q H ab8 y8).elim
   ·exact absurd (mV q) (C1 _)
 have gk:H.af<=H'.af:=bd.af;have df:mk=true->H.af<H'.af:=fun q=>by
  obtain⟨e,he⟩:=MJ q;subst e;obtain⟨a,b,nO⟩:=he _ _ _ bz;have an:=bd.own _ _ nO;rcases an.2.1 with q|q
  ·exact r1 q (cI.QB bd.wf an.1)
  ·exact absurd q (PQ)
 obtain⟨cM,ha⟩:=aE.leave au bd;obtain⟨ba,s1,s2⟩:=aC.put (dst:=some d) aM v
 classical
 obtain⟨bc,dS,aO,Ao,E',lZ,wu,aa,ab,aK,bh⟩:=h v m' ag ha bz (fun dj ih H1=>if dj=f/\ih=bJ/\H1=H then some (.returned v,H') else T dj ih H1) ba H' (fun dj ih H1 r q=>by
  split at q
  ·rename_i e;obtain⟨rfl,rfl,rfl⟩:=e;injection q with q
   exact⟨_,.head _,⟨rfl,rfl,y8,v,H',ag,m',q.symm,a',bd,bz⟩,df⟩
  ·obtain⟨x,I,b7,xn⟩:=dK _ _ _ _ q;exact⟨x,.tail _ I,b7,fun e=>uO (xn e) gk⟩) s2 cM
 refine⟨fun dj cD H1=>if dj=f/\cD=bJ/\H1=H then some (.returned v,H') else bc dj cD H1,fun dj cD H1 r b7 aZ aR=>?_,aO,Ao,E',lZ,wu,fun ir q=>?_,ab,aK,bh⟩
 ·dsimp only at aR
  split at aR
  ·rename_i e;obtain⟨rfl,rfl,rfl⟩:=e;injection aR with aR
   rw[gX r aZ,aR]
  ·rename_i e;exact dS dj cD H1 r b7 (by rw[aq e];exact aZ) aR
 ·have hP:ir f bJ H=some (.returned v,H'):=q f bJ H _ (by simp only[and_self,aF]);have ES:∀dj cD H1 r,bc dj cD H1=some r->ir dj cD H1=some r:=fun dj cD H1 r ax=>by
   by_cases e:dj=f/\cD=bJ/\H1=H
   ·have:=dS dj cD H1 (.returned v,H') r (by rw[aF e]) ax;rw[this,e.1,e.2.1,e.2.2];exact hP
   ·exact q dj cD H1 r (by dsimp only;rw[aq e];exact ax)
  show kW ops i (fun o=>ls (eH K.P _ _ ops a8) (one K.P _ _ ops S H o))=_;unfold kW;rw[ak];show ls (eH K.P _ _ ops a8) (one K.P _ _ ops S H o)=_;unfold one fW;rw[ar];show ls (eH K.P _ _ ops a8) (qs S H o.dst (cY K.P _ _ S H o))=_;have he:cY K.P (j' K.Q ir) (hj K.Q jz ir).aL S H o=some (.val v H'):=by
   unfold cY fU;simp only[an];show lg K.P _ c=_;unfold lg;rw[av];show nh K.P _ _ S.T H c=_;unfold nh;rw[o9 aC H aW];simp only[av];rw[ey aC H I];simp only
   show(match mj K.P H (.func f) (first.toList++args) cap.toList with|some (f,bJ)=>q3 (j' K.Q _ f bJ H)|none=>none)=_
   unfold mj;simp only
   rw[has,AK a' hP];rfl
  rw[he,aS];show ls (eH K.P _ _ ops a8) (n8 H' (S.put (some d) v))=_;rw[s1];exact aa ir ES
theorem gT.call{c:Call}{x:Operand}{f:FuncId}{first cap:Array Value}{args bJ:List Value}{a4 b2:aI}{dT:Value->aI->aA->Prop}
 (ak:nth ops i=some o)(ar:o.guard=none)(an:o.op=.call c)(aS:o.dst=some d)(aM:Nat.blt d n=true)(av:c.callee=.value x)(I:bW l x=some (.func (.func f) first cap))(aW:il l c.args.toList=some args)(has:(first.toList++args)++cap.toList=bJ)
 (al:∀x∈F,x.f=f->x.bJ=bJ->(x.a4=a4/\x.J=J/\x.dT=dT)\/(∀H,Inv K.g0 (iO x.a4 H x.J) x.J x.a4 H->Inv K.g0 (iO a4 H J) J a4 H->False)\/x.new=true)
 (au:(a4++b2).Perm m)(gj:vS a4)(fz:Fn K f bJ a4 J dT)(h:∀v m' ag,J.le ag->dT v m' ag->gT K B ops a8 (⟨f,bJ,a4,J,dT,false⟩::F) ⟨n,ds,(d,v)::l⟩ (m'++b2) ag bD):gT K B ops (.cv i::a8) F ⟨n,ds,l⟩ m J bD:=
 gT.Q1 ak ar an aS aM av I aW has al (fun q=>by cases q) au gj fz h
theorem gT.G4{c:Call}{x:Operand}{f:FuncId}{first cap:Array Value}{args bJ:List Value}{dT:Value->aI->aA->Prop}
 (ak:nth ops i=some o)(ar:o.guard=none)(an:o.op=.call c)(aS:o.dst=some d)(aM:Nat.blt d n=true)(av:c.callee=.value x)(I:bW l x=some (.func (.func f) first cap))(aW:il l c.args.toList=some args)(has:(first.toList++args)++cap.toList=bJ)
 (al:∀x∈F,x.new=true)(MJ:∀v m' ag,dT v m' ag->∃a b,(a,b)∈m')
 (fz:Fn K f bJ [] J dT)(h:∀v m' ag,J.le ag->dT v m' ag->gT K B ops a8 (⟨f,bJ,[],J,dT,true⟩::F) ⟨n,ds,(d,v)::l⟩ (m'++m) ag bD):gT K B ops (.cv i::a8) F ⟨n,ds,l⟩ m J bD:=
 gT.Q1 (mk:=true) (b2:=m) ak ar an aS aM av I aW has (fun x I _ _=>.inr (.inr (al x I))) (fun _=>⟨rfl,MJ⟩) (.refl _) trivial fz h
end
theorem ae5{g0:Nat}{B Xr:dO}{J ag:aA}{m m':aI}{H:ao}{a:Nat}{c b1:List Value}{e bn:TypeId}(h:Inv g0 B J ((a,.row c e)::m) H)(jf:Inv g0 Xr ag ((a,.row b1 bn)::m') H):c=b1:=by
 have aa:H.mem.get a=some (.row c e false 0 0 false):=(h.own _ _ (.head _)).1;have ab:H.mem.get a=some (.row b1 bn false 0 0 false):=(jf.own _ _ (.head _)).1;rw[aa] at ab;injection ab with ab;injection ab
section
variable {K:eN}{B:dO}{R:qN}{ops:List Oper}{a8:List iW}{m:aI}{J:aA}{o:Oper}{bD:b9->aI->aA->Prop}
variable {n:Nat}{ds:eQ}{l:List (Nat×Value)}{d i g:Nat}{want b:Bool}
end
section
variable {K:eN}{B:dO}{o:Oper}{n:Nat}{ds:eQ}{l:List (Nat×Value)}{m:aI}{J:aA}{eF:b9->aI->aA->Prop}{d:Nat}
def Ur(P:Program)(t:TypeId)(name:String):Option FuncId:=match P.info? t with
 |none=>none
 |some i=>match i.methods.find? (·.name==name) with
  |none=>none
  |some m=>bif !m.path.isEmpty then none else
   match m.func with
   |none=>none
   |some (f,sR)=>match P.underlying t,sR with
    |some (.pointer _),true=>some f
    |some (.pointer _),false=>none
    |some _,false=>some f
    |_,_=>none
theorem Exec.invoke{c:Call}{x:Operand}{f:FuncId}{t:TypeId}{r:Value}{name:String}{args bJ:List Value}{a4 b2:aI}{dT:Value->aI->aA->Prop}
 (an:o.op=.call c)(aS:o.dst=some d)(aM:Nat.blt d n=true)(av:c.callee=.invoke x name)(I:bW l x=some (.iface t r))(hm:Ur K.P t name=some f)(aW:il l c.args.toList=some args)(has:r::args=bJ)
 (au:(a4++b2).Perm m)(fz:Fn K f bJ a4 J dT)(h:∀v m' ag,J.le ag->dT v m' ag->eF ⟨n,ds,(d,v)::l⟩ (m'++b2) ag):Exec K B o ⟨n,ds,l⟩ m J eF:=by
 intro S H aC aE;obtain⟨v,H',ag,m',a',bd,bz⟩:=fz H (aE.enter au trivial);obtain⟨cM,ha⟩:=aE.leave au bd;obtain⟨ba,s1,s2⟩:=aC.put (dst:=some d) aM v;refine⟨jz,mL f bJ H (.returned v,H'),ba,H',_,m'++b2,ag,?_,s2,cM,h v m' ag ha bz⟩;have gN:tC K.P H (.iface t r) name args=some (f,bJ):=by
  rw[<-has];unfold Ur at hm;unfold tC;simp only
  split at hm
  ·cases hm
  ·rename_i i ak;rw[ak];simp only
   split at hm
   ·cases hm
   ·rename_i vR sy;rw[sy];simp only
    cases cn:!vR.path.isEmpty with
    |true=>rw[cn] at hm;cases hm
    |false=>
     rw[cn,dN] at hm;rw[dN];split at hm
     ·cases hm
     ·rename_i dj sR aw;rw[aw];simp only
      split at hm<;>first
       |(cases hm;done)
       |(rename_i aa ab;injection hm with hm;subst hm;simp[aa])
       |(injection hm with hm;subst hm;simp_all)
 have he:cY K.P (j' K.Q (mL f bJ H (.returned v,H'))) (hj K.Q jz (mL f bJ H (.returned v,H'))).aL S H o=some (.val v H'):=by
  unfold cY fU;simp only[an];show lg K.P _ c=_;unfold lg;rw[av];show nh K.P _ _ S.T H c=_;unfold nh;rw[o9 aC H aW];simp only[av];rw[ey aC H I];simp only
  rw[gN];simp only
  rw[AK a' (by unfold mL;rw[aF ⟨rfl,rfl,rfl⟩])];rfl
 rw[he,aS];show n8 H' (S.put (some d) v)=_;rw[s1];rfl
theorem akv{t e:TypeId}{x:Operand}{ak:Operand}{lQ off k cap aj:Nat}{gd:List Value}{b:Int}{ry:IntKind}(an:o.op=.slice t x none (some ak) none)(I:bW l x=some (.slice (some ⟨lQ,off,none⟩) k cap))(aN:kn K.P t=some (e,aj,gd))(mn:bW l ak=some (.int ry b))(bt:0<=b)(aa:b<=cap)(av:cap<cR)(k8:0<cap):c1 K B o n ds l m J (.slice (some ⟨lQ,off,none⟩) b.toNat cap):=by
 obtain⟨hu,eI,_⟩:=ux aN;intro call aL S H aC aE;obtain⟨FA,xK,xL⟩:=Dh (mO:=k) (top:=cap) (dl:=(k:Int)) (i:=b) (x:=some ak) aC H (by unfold yy;simp only[mn]) bt aa rfl;unfold cY fU;simp only[an];show n5 K.P _ t (a6 S.T H x) (h7 S.T H none) (h7 S.T H (some ak))=_;rw[ey aC H I,xK,show h7 S.T H none=some none from rfl];unfold n5;simp only
 have:mP K.P H t (.slice (some ⟨lQ,off,none⟩) k cap) none FA=some (.slice (some ⟨lQ,off,none⟩) b.toNat cap):=by
  unfold mP;simp only[hu,eI];rw[show Nat.beq cap cR=false from by
   cases ai:Nat.beq cap cR with
   |false=>rfl
   |true=>have:=eK ai;omega,dN,xL]
  simp only[kt];rw[show Nat.beq cap 0=false from by
   cases ai:Nat.beq cap 0 with
   |false=>rfl
   |true=>have:=eK ai;omega,dN]
  simp
 rw[this];rfl
theorem WQ{t e:TypeId}{x:Operand}{ak:Operand}{lQ off N aj:Nat}{b:Int}{ry:IntKind}(an:o.op=.slice t x none (some ak) none)(I:bW l x=some (.pointer (some ⟨lQ,off,none⟩)))(aN:wM K.P t=some (N,e,aj))(mn:bW l ak=some (.int ry b))(bt:0<=b)(aa:b<=N)(av:N<cR)(k8:0<N):c1 K B o n ds l m J (.slice (some ⟨lQ,off,none⟩) b.toNat N):=by
 intro call aL S H aC aE;obtain⟨FA,xK,xL⟩:=Dh (mO:=N) (top:=N) (dl:=(N:Int)) (i:=b) (x:=some ak) aC H (by unfold yy;simp only[mn]) bt aa rfl;obtain⟨hu,eI⟩:=Qx aN;unfold cY fU;simp only[an];show n5 K.P _ t (a6 S.T H x) (h7 S.T H none) (h7 S.T H (some ak))=_;rw[ey aC H I,xK,show h7 S.T H none=some none from rfl];unfold n5;simp only
 have:mP K.P H t (.pointer (some ⟨lQ,off,none⟩)) none FA=some (.slice (some ⟨lQ,off,none⟩) b.toNat N):=by
  unfold mP;simp only[hu,eI];rw[show Nat.blt N cR=true from kK av];simp only[lK,dN,xL,show kt 0 b.toNat none=some 0 from rfl];rw[show Nat.beq N 0=false from by
   cases ai:Nat.beq N 0 with
   |false=>rfl
   |true=>have:=eK ai;omega,dN]
  simp
 rw[this];rfl
end
def rU(m:aI)(J cN:aA):Prop:=∀a c e,cN a=some (c,e)->J a=some (c,e)\/(a,cI.row c e)∈m\/∃r z,(a,cI.opn c e r z)∈m
theorem rU.cons{m:aI}{J cN:aA}{x:Nat×cI}(h:rU m J cN):rU (x::m) J cN:=fun a c e q=>by
 rcases h a c e q with k|k|⟨r,z,k⟩
 ·exact .inl k
 ·exact .inr (.inl (.tail _ k))
 ·exact .inr (.inr ⟨r,z,.tail _ k⟩)
theorem rU.opn{m:aI}{J:aA}{a:Nat}{c:List Value}{e:TypeId}{r:List Nat}{z:Nat}(h:(a,cI.opn c e r z)∈m):rU m J (J.add a (c,e)):=fun b b1 bn q=>by
 unfold aA.add at q;split at q
 ·rename_i ai;subst ai;injection q with q
  injection q with aZ aR
  subst aZ;subst aR;exact .inr (.inr ⟨r,z,h⟩)
 ·exact .inl q
theorem Inv.Yp{g0:Nat}{B:dO}{J cN:aA}{m:aI}{H:ao}(h:Inv g0 B J m H)(av:rU m J cN):Inv g0 (iO [] H cN) cN [] H:=by
 refine⟨h.wf,h.bq,dH _,dH _,fun _ _ _=>rfl,fun _ _=>rfl,fun a c e q=>?_,aA.le.refl _,fun a x aZ aR=>?_,fun a b q=>(by cases q),fun a b q=>(by cases q),List.nodup_nil⟩
 ·rcases av a c e q with k|k|⟨r,z,k⟩
  ·exact h.fj a c e k
  ·exact⟨_,_,_,_,(h.own _ _ k).1⟩
  ·obtain⟨f,_,a',_⟩:=(h.own _ _ k).1;exact⟨_,_,_,_,a'⟩
 ·have aZ:cN a=none:=aZ;rw[aZ] at aR;cases aR
theorem ae.ag3{K:eN}{B:dO}{c:Code}{E:b9}{m:aI}{J:aA}{cx:Exit->b9->aI->aA->Prop}(h:(∀a b,(a,b)∈m->J a=none)->ae K B c E m J cx):ae K B c E m J cx:=fun S H aC aE=>h (fun a b q=>(aE.own a b q).2.2.1) S H aC aE
section
variable {K:eN}{B:dO}{R:qN}{ops:List Oper}{a8:List iW}{m:aI}{J:aA}{o:Oper}{bD:b9->aI->aA->Prop}
variable {n:Nat}{ds:eQ}{l:List (Nat×Value)}{d i g:Nat}{want b:Bool}
theorem eb.Y4{c:Call}{x:Operand}{f:FuncId}{first cap:Array Value}{args bJ:List Value}{v:Value}{cN:aA}
 (ak:nth ops i=some o)(ar:lz ops o=some (g,want))(ai:look l g=some (.bool b))(hw:(b==want)=true)(an:o.op=.call c)(aS:o.dst=some d)(aM:Nat.blt d n=true)(av:c.callee=.value x)(I:bW l x=some (.func (.func f) first cap))(aW:il l c.args.toList=some args)(has:(first.toList++args)++cap.toList=bJ)
 (ax:FU R f=some (bJ,v))(ac1:rU m J cN)(fz:Fn K f bJ [] cN (fun w m' ag=>w=v/\m'=[]/\ag=cN))(h:eb K B R ops a8 ⟨n,ds,(d,v)::l⟩ m J bD):eb K B R ops (.cv i::a8) ⟨n,ds,l⟩ m J bD:=by
 intro S H aC aE;have y8:=aE.enter (a4:=[]) (b2:=m) (.refl _) trivial;have A7:=aE.Yp ac1;have hex:∃H',o0 K.Q f bJ H (.returned v) H'/\yo H H':=by
  obtain⟨w,H',ag,m',a',bd,rfl,rfl,rfl⟩:=fz H A7;exact⟨H',a',yo.of A7 bd⟩
 have acY:Dv K f bJ v H=Classical.choose hex:=by unfold Dv;rw[dif_pos hex]
 obtain⟨bx,bT⟩:=Pu hex;rw[<-acY] at bx bT;obtain⟨cM,ha⟩:=aE.leave (a4:=[]) (b2:=m) (.refl _) (bT.inv y8);obtain⟨ba,s1,s2⟩:=aC.put (dst:=some d) aM v;obtain⟨aO,Ao,E',lZ,wu,aa,ab,aK,bh⟩:=h ba (Dv K f bJ v H) s2 cM;refine⟨aO,Ao,E',lZ,wu,?_,ab,aK,bh⟩;show kW ops i (fun o=>ls (eH K.P _ _ ops a8) (one K.P _ _ ops S H o))=_;unfold kW;rw[ak];show ls (eH K.P _ _ ops a8) (one K.P _ _ ops S H o)=_;unfold one;rw[Lp ar ai hw S aC];show ls (eH K.P _ _ ops a8) (qs S H o.dst (cY K.P _ _ S H o))=_;have he:cY K.P (j' K.Q (uu K R)) (hj K.Q jz (uu K R)).aL S H o=some (.val v (Dv K f bJ v H)):=by
  unfold cY fU;simp only[an];show lg K.P _ c=_;unfold lg;rw[av];show nh K.P _ _ S.T H c=_;unfold nh;rw[o9 aC H aW];simp only[av];rw[ey aC H I];simp only
  show(match mj K.P H (.func f) (first.toList++args) cap.toList with|some (f,bJ)=>q3 (j' K.Q _ f bJ H)|none=>none)=_
  unfold mj;simp only
  rw[has,AK bx (by unfold uu;rw[ax];simp only[if_true])];rfl
 rw[he,aS];show ls (eH K.P _ _ ops a8) (n8 _ (S.put (some d) v))=_;rw[s1];exact aa
end
section
variable {K:eN}{B:dO}{o:Oper}{n:Nat}{ds:eQ}{l:List (Nat×Value)}{m m':aI}{J:aA}{eF:b9->aI->aA->Prop}
theorem ale{c:Call}{t e:TypeId}{aj k a off cap:Nat}{gd cells cells':List Value}{bn:TypeId}(an:o.op=.call c)(av:c.callee=.builtin .clear)(aS:o.dst=none)(aW:il l c.args.toList=some [.slice (some ⟨a,off,none⟩) k cap])(nn:c.argTypes.toList=[t])(aN:kn K.P t=some (e,aj,gd))
 (bC:k=0->m'=m)(MQ:k≠0->gp gd k≠[]/\(gp gd k).all eT=true/\gE off cells (gp gd k)=some cells'/\dc m a (.row cells bn) (.row cells' bn) m')(h:eF ⟨n,ds,l⟩ m' J):iG K B o ⟨n,ds,l⟩ m J eF:=by
 obtain⟨hu,eI,hZ,z,h1,qi,bE,rfl,bS,cJ,gy⟩:=ux aN;intro S H aC aE;have gN:∃H1,yT K.P H t (.slice (some ⟨a,off,none⟩) k cap)=some (.tuple #[],H1)/\Inv K.g0 B J m' H1:=by
  cases k with
  |zero=>
   refine⟨H,?_,by rw[bC rfl];exact aE⟩;unfold yT;simp only[hu]
  |succ k=>
   obtain⟨aZ,aR,bY,au⟩:=MQ (by omega);obtain⟨H1,aD,a5⟩:=aE.store au;obtain⟨a',bd,bz,cM⟩:=aE.own _ _ au.mem;have a':H.mem.get a=some (.row cells bn false 0 0 false):=a';refine⟨H1,?_,a5⟩;unfold yT;simp only[hu,qi,gy,cc];unfold pW;cases cn:gp z.cells.toList (k+1) with
   |nil=>exact absurd cn aZ
   |cons hr vs=>
    rw[cn] at aR bY;simp only
    have ar:Nat.blt a H.bq=false:=by
     cases q:Nat.blt a H.bq
     ·rfl
     ·have:a<H.bq:=by simpa[Nat.blt,tb] using q
      have:=aE.bq;omega
    rw[ar,dN,a'];simp only[show Nat.ble 0 off=true from kK (dV _),JT,aR,cc,bY,aD,dN]
 obtain⟨H1,aD,a5⟩:=gN;refine⟨S,H1,⟨n,ds,l⟩,m',J,fun call aL=>?_,aC,a5,h⟩;rw[AV an av];unfold q4;rw[o9 aC H aW,nn,aS];show qs S H none (l8 (yT K.P H t (.slice (some ⟨a,off,none⟩) k cap)))=_;rw[aD];rfl
end
end
end Go.Opn
