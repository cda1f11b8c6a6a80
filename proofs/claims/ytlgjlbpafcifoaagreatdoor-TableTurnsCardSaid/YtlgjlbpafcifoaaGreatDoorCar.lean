/- A part of the proof of TableTurns. -/
import Derived.Test.YtlgjlbpafcifoaaGreatDoorCaq
import Derived.Test.YtlgjlbpafcifoaaGreatDoorCal
set_option linter.unusedVariables false
set_option linter.unusedSimpArgs false
namespace Go.Opn
noncomputable section
open Go.Cre Go.RowKit
section
variable {g0:Nat}{B:c5}{H:an}{J:af}{m m':aO}
theorem Inv.aom{a z:Nat}{full:List Value}{e:TypeId}{rest:List Nat}(h:Inv g0 B J ((a,.opn full e rest z)::m) H)(cells':List Value):
 ∃f H1 bK eX,H.mem.get a=some (.row full e true f z false)/\H.bw.get f=some (a::rest)/\se H H.ay (a::rest)=some H1/\H1.rr f [H.ay]=some bK/\H1.ay=H.ay/\bK.ay=H.ay/\bK.new (.row cells' e true f z false)=some (H.ay,eX)/\Inv g0 B J ((H.ay,.opn cells' e [] z)::m) eX:=by
 obtain⟨aU,aQ,bj,ct⟩:=h.own a _ (.head _);obtain⟨f,f1,f2,f3⟩:=aU;have b9:=h.lt (.head _);have dP:=h.fT;rw[show ids ((a,dw.opn full e rest z)::m)=a::(rest++ids m) from rfl,sN,nB,Ij] at dP;obtain⟨nj,Aj,JS,OA⟩:=dP;have hl:∀x∈a::rest,x<H.ay:=fun x U=>by
  rcases fU.1 U with q|q
  ·subst q;exact b9
  ·exact(h.opn a _ (.head _) x q).1
 obtain⟨H1,aw,bt⟩:=WZ (pp:=H.ay) (a::rest) h.wf hl;obtain⟨v1,v2,HD,v4,aqt,v6⟩:=Kh aw;have jI:f<H1.cn:=by rw[HD];exact h.wf.E8 f3
 obtain⟨bK,aR⟩:=bt.rr [H.ay] jI;obtain⟨s2,s1,fQ,k6,qq⟩:=an.DI aR;have kU:bK.ay=H.ay:=by rw[s2,v1]
 have Al:∀x,x≠a->x∉rest->bK.mem.get x=H.mem.get x:=fun x aK aH=>by
  rw[s1,v6 x (.inl (fun q=>by rcases fU.1 q with q|q;exact aK q;exact aH q))]
 have Ab:∀g,g≠f->bK.bw.get g=H.bw.get g:=fun g q=>by rw[qq,aZ q,v2]
 have hm:Inv g0 B J m bK:=by
  refine⟨bt.Rt jI aR,by rw[k6,v4];exact h.bz,by rw[kU];exact h.ay,by rw[fQ,HD];exact h.cn,fun x U dr=>?_,fun g ax=>?_,fun x c bC aY=>?_,h.le,h.fresh,fun x b ai=>?_,fun x b ai y au=>by rw[kU];exact h.opn x b (.tail _ ai) y au,JS⟩
  ·rw[Al x (fun q=>by subst q;rcases aQ with q|q;·omega
                      ·exact dr q) (fun q=>by rcases(h.opn a _ (.head _) x q).2.1 with r|r;·omega
                                              ·exact dr r)]
   exact h.fF x U dr
  ·rw[Ab g (fun q=>ax (by rw[q];exact f1))];exact h.mM g ax
  ·obtain⟨o,f',iR,s,q⟩:=h.ed x c bC aY
   exact⟨o,f',iR,s,by rw[Al x (fun r=>by subst r;rw[bj] at aY;cases aY) (fun r=>by have:=(h.opn a _ (.head _) x r).2.2;rw[this] at aY;cases aY)];exact q⟩
  ·obtain⟨dL,du,js,lv⟩:=h.own x b (.tail _ ai)
   have Au:x∈ids m:=yB ai;refine⟨?_,du,js,lv⟩;refine dw.vP dL (Al x (fun r=>nj (.inr (r▸Au))) (fun r=>OA _ r _ Au rfl)) fun g r ax=>?_;rw[Ab g (fun dj=>by
        subst dj;rw[f3] at ax;injection ax with ax;injection ax with ax
        exact nj (.inr (ax▸Au)))]
   exact ax
 obtain⟨eX,cf⟩:=hm.wf.new (.row cells' e true f z false);obtain⟨_,ej,eD,gA,jO,gm⟩:=an.oG cf;refine⟨f,H1,bK,eX,f2,f3,aw,aR,v1,kU,by rw[<-kU];exact cf,?_⟩;have ad:Inv g0 B J m eX:=by
  refine⟨hm.wf.QG cf,jO.trans hm.bz,by have:=hm.ay;omega,by rw[gA];exact hm.cn,fun x U dr=>?_,fun g ax=>by rw[eD];exact hm.mM g ax,fun x c e aY=>?_,hm.le,hm.fresh,fun x b ai=>?_,fun x b ai y au=>?_,hm.fT⟩
  ·rw[gm,aZ (by have:=hm.ay;omega)];exact hm.fF x U dr
  ·obtain⟨o,f,z,s,q⟩:=hm.ed x c e aY
   exact⟨o,f,z,s,by rw[gm,aZ (by have:=hm.wf.lt q;omega)];exact q⟩
  ·obtain⟨dL,du,js,lv⟩:=hm.own x b ai
   exact⟨dw.vP dL (by rw[gm,aZ (by have:=hm.lt ai;omega)]) (fun f l aA=>by rw[eD];exact aA),du,js,lv⟩
  ·obtain⟨dL,du,js⟩:=hm.opn x b ai y au
   exact⟨by omega,du,js⟩
 refine⟨ad.wf,ad.bz,ad.ay,ad.cn,ad.fF,ad.mM,ad.ed,ad.le,ad.fresh,fun x b ai=>?_,fun x b ai y au=>?_,?_⟩
 ·rcases fU.1 ai with q|q
  ·injection q with aK aH;subst aK;subst aH
   exact⟨⟨f,f1,by rw[gm,kU,a2 rfl],by rw[eD,qq,a2 rfl]⟩,.inl h.ay,h.QI,h.NT⟩
  ·exact ad.own x b q
 ·rcases fU.1 ai with q|q
  ·injection q with aK aH;subst aK;subst aH;cases au
  ·exact ad.opn x b q y au
 ·show(H.ay::([]++ids m)).Nodup
  rw[kE,sN];refine⟨fun q=>?_,JS⟩;have:=hm.Km q;omega
end
structure Sn (e:TypeId) (sz:Nat) (v:Value) (k:Nat) (cells:List Value) (a8:aO) (a:Nat) (full:List Value) (rest:List Nat) (z:Nat):Prop where
 v:v=.slice (some ⟨a,0,none⟩) k cG
 a8:a8=[(a,.opn full e rest z)]
 lt:k*sz<full.length
 cut:full.take (k*sz)=cells
 z:z<=k*sz
section
variable {K:dy}{B:c5}{o:Oper}{n:Nat}{ds:dJ}{l:List (Nat×Value)}{m m':aO}{J:af}{e7:b0->aO->af->Prop}{d:Nat}
theorem art{c:Call}{t iD e:TypeId}{sz k j a z:Nat}{zs cells new full:List Value}{rest:List Nat}{v x:Value}{a8 fH:aO}{eM:TypeDesc}(ah:o.op=.call c)(aD:c.callee=.builtin .append)(al:o.dst=some d)(az:Nat.blt d n=true)(aF:hC l c.args.toList=some [v,x])(p9:c.argTypes.toList=[t,iD])(aJ:mr K.P t=some (e,sz,zs))(lP:K.P.underlying iD=some eM)(yu:∀i,eM≠.int i)
 (ar:Sn e sz v k cells a8 a full rest z)(hm:m.Perm (a8++fH))(U:nG K.g0 B J m sz x j new)(dE:new.length=j*sz)(dQ:new.all eV=true)(aY:0<j)(ap:k+j<=1000000)
 (h:∀w lV,Acc e sz w (k+j) (cells++new) lV->(z=0->iR lV)->tH lV->e7 ⟨n,ds,(d,w)::l⟩ (lV++fH) J):jR K B o ⟨n,ds,l⟩ m J e7:=by
 obtain⟨rfl,rfl,b9,Cz,eG⟩:=ar;obtain⟨hu,dF,iL,l3,hF,aG,bs,rfl,bM,cB,ep⟩:=sw aJ;refine jR.Bk al az fun S H aj av=>?_;obtain⟨en,fR⟩:=U H av;have av:=av.perm hm;have gF:∀call aE,cj K.P call aE S H o=mS (pX K.P H t (.slice (some ⟨a,0,none⟩) k cG) x):=fun call aE=>by
  rw[zS ah aD];unfold pY;rw[m6 aj H aF,p9];simp only[lP]
 have kg:(!(Nat.ble (k+j) 1000000&&Nat.ble iL 1000000&&Nat.beq l3.cells.toList.length sz))=false:=by
  rw[bs,bM,hd,show Nat.ble (k+j) 1000000=true from lH ap];rfl
 have ra:(!(new.all eV&&Nat.beq new.length (j*sz)))=false:=by
  rw[dQ,dE,hd];rfl
 have ln:cells.length=k*sz:=by rw[<-Cz,dY];omega
 obtain⟨f,H1,bK,eX,bY,bZ,cz,fu,fM,gN,gp,ov⟩:=Inv.aom (m:=fH) av (cells++new);have o9:Nat.blt a H.bz=false:=by
  cases q:Nat.blt a H.bz
  ·rfl
  ·have:a<H.bz:=by simpa[Nat.blt,vK] using q
   have:=(av.own _ _ (.head _)).2.2.2;have:=av.bz;omega
 have u6:Nat.ble z (0+k*sz)=true:=lH (by omega);refine⟨.slice (some ⟨H.ay,0,none⟩) (k+j) cG,eX,(H.ay,.opn (cells++new) e [] z)::fH,J,fun call aE=>?_,ov,?_⟩
 ·rw[gF];have OT:Nat.beq j 0=false:=by
   cases q:Nat.beq j 0
   ·rfl
   ·exact absurd (eb q) (by omega)
  have hle:Nat.beq full.length (k*sz)=false:=by
   cases q:Nat.beq full.length (k*sz)
   ·rfl
   ·exact absurd (eb q) (by omega)
  have ty:takeN (k*sz) full=some cells:=by rw[xx (by omega),Cz]
  unfold pX;simp only[hu,dF,hF,aG,en,kg,da,fR,ra,hd,b4,bY,o9,St,vy,u6,oc,OT,ty,bZ,x7,hle,ER,cz,fM,fu,gN,gp];rfl
 ·exact h (.slice (some ⟨H.ay,0,none⟩) (k+j) cG) [(H.ay,.opn (cells++new) e [] z)] (.opn (by rw[eY,ln,dE,cR]) (by rw[eY];omega)) (fun q bO c' bC r g3 hm=>by rcases fU.1 hm with r|r;(cases r;exact q);cases r) (fun bO c' bC hm=>by rcases fU.1 hm with r|r;cases r;cases r)
theorem aqX{t e:TypeId}{x:Operand}{ak:Operand}{sz a len z:Nat}{zs full:List Value}{rest:List Nat}{b:Int}{qh:IntKind}(ah:o.op=.slice t x none (some ak) none)(U:bx l x=some (.slice (some ⟨a,0,none⟩) len cG))(kh:bx l ak=some (.int qh b))(aJ:mr K.P t=some (e,sz,zs))(hm:(a,dw.opn full e rest z)∈m)(aN:0<=b)(ab:b<=len):
 cO K B o n ds l m J (.slice (some ⟨a,0,none⟩) b.toNat cG):=by
 obtain⟨hu,dF,iL,l3,hF,aG,bs,rfl,bM,cB,ep⟩:=sw aJ;intro call aE S H aj av;obtain⟨f,_,kV,_⟩:=(av.own _ _ hm).1;unfold cj eF;simp only[ah];show lY K.P _ t (a1 S.T H x) (some none) (ho S.T H (some ak))=_;rw[c6 aj H U];show lY K.P _ t _ (some none) (match a1 S.T H ak with|some v=>some (some v)|none=>none)=_
 rw[c6 aj H kh];have ah9:qe b len=some b.toNat:=by
  obtain⟨c,rfl⟩:∃c:Nat,b=(c:Int):=⟨b.toNat,by omega⟩;show(bif Nat.ble c len then some c else none)=_;rw[show Nat.ble c len=true from lH (by omega)];rfl
 have:jY K.P H t (.slice (some ⟨a,0,none⟩) len cG) none (some (.int qh b))=some (.slice (some ⟨a,0,none⟩) b.toNat cG):=by
  unfold jY;simp only[hu,dF,hd,b4,kV,oc,da,jW,ah9,jA,ik];rfl
 show orElse (gH (jY K.P H t (.slice (some ⟨a,0,none⟩) len cG) none (some (.int qh b))) H) _=_;rw[this];rfl
end
def eW(e:TypeId)(sz:Nat)(v:Value)(k:Nat)(cells:List Value)(a8:aO):Prop:=(Acc e sz v k cells a8/\iR a8/\tH a8)\/∃a full rest,Sn e sz v k cells a8 a full rest 0
theorem eW.form{e:TypeId}{sz k:Nat}{v:Value}{cells:List Value}{a8:aO}(h:eW e sz v k cells a8):(∃b,v=.slice b 0 0/\k=0/\cells=[]/\a8=[])\/∃a full rest,v=.slice (some ⟨a,0,none⟩) k cG/\a8=[(a,.opn full e rest 0)]/\full.take (k*sz)=cells/\k*sz<=full.length:=by
 rcases h with⟨h,aG,az⟩|⟨a,full,rest,ab,ad,aL,a6,fb⟩
 ·cases h with
  |nil=>exact .inl ⟨_,rfl,rfl,rfl,rfl⟩
  |jF a=>exact .inl ⟨_,rfl,rfl,rfl,rfl⟩
  |opn ab ad=>
   have:=aG _ _ _ _ _ (.head _);subst this;exact .inr ⟨_,_,_,rfl,rfl,by rw[<-ab,sO],by omega⟩
  |cap=>exact absurd (.head _) (az _ _ _)
 ·exact .inr ⟨a,full,rest,ab,ad,a6,by omega⟩
theorem eW.of{e:TypeId}{sz k a:Nat}{full:List Value}{rest:List Nat}(hk:k*sz<=full.length):eW e sz (.slice (some ⟨a,0,none⟩) k cG) k (full.take (k*sz)) [(a,.opn full e rest 0)]:=by
 by_cases q:k*sz=full.length
 ·refine .inl ⟨?_,fun bO c bC r z hm=>?_,fun bO c bC hm=>?_⟩
  ·have:=Acc.opn (a:=a) (e:=e) (rest:=rest) (z:=0) q.symm (df _);rw[q,sO];exact this
  ·rcases fU.1 hm with q|q
   ·cases q;rfl
   ·cases q
  ·rcases fU.1 hm with q|q
   ·cases q
   ·cases q
 ·exact .inr ⟨a,full,rest,rfl,rfl,by omega,rfl,df _⟩
theorem eW.cut{e:TypeId}{sz k kX:Nat}{v:Value}{cells:List Value}{a8:aO}(h:eW e sz v k cells a8)(hk:kX<=k)(aN:0<k):∃a full rest,v=.slice (some ⟨a,0,none⟩) k cG/\a8=[(a,.opn full e rest 0)]/\eW e sz (.slice (some ⟨a,0,none⟩) kX cG) kX (cells.take (kX*sz)) a8:=by
 rcases h.form with⟨b,_,q,_⟩|⟨a,full,rest,rfl,rfl,rfl,a6⟩
 ·omega
 ·have:kX*sz<=k*sz:=eK _ hk;refine⟨a,full,rest,rfl,rfl,?_⟩;rw[sP,fV this];exact eW.of (by omega)
theorem eW.row{e:TypeId}{sz k:Nat}{v:Value}{cells:List Value}{a8:aO}(h:eW e sz v k cells a8)(aN:0<k):∃a full rest,v=.slice (some ⟨a,0,none⟩) k cG/\a8=[(a,.opn full e rest 0)]/\full.take (k*sz)=cells/\k*sz<=full.length:=by
 rcases h.form with⟨b,_,q,_⟩|q
 ·omega
 ·exact q
theorem QN{full cells:List Value}{n i:Nat}(h:full.take n=cells)(ak:i<n):nth full i=nth cells i:=by
 rw[kA,kA,<-h,D6 ak]
section
variable {K:dy}{B:c5}{o:Oper}{n:Nat}{ds:dJ}{l:List (Nat×Value)}{m m':aO}{J:af}{e7:b0->aO->af->Prop}{d:Nat}
theorem ua{c:Call}{t iD e:TypeId}{sz k j:Nat}{zs cells new:List Value}{v x:Value}{a8 fH:aO}{eM:TypeDesc}(ah:o.op=.call c)(aD:c.callee=.builtin .append)(al:o.dst=some d)(az:Nat.blt d n=true)(aF:hC l c.args.toList=some [v,x])(p9:c.argTypes.toList=[t,iD])(aJ:mr K.P t=some (e,sz,zs))(lP:K.P.underlying iD=some eM)(yu:∀i,eM≠.int i)
 (ar:eW e sz v k cells a8)(hm:m.Perm (a8++fH))(U:nG K.g0 B J m sz x j new)(dE:new.length=j*sz)(dQ:new.all eV=true)(aY:0<j)(ap:k+j<=1000000)
 (h:∀w lV,eW e sz w (k+j) (cells++new) lV->e7 ⟨n,ds,(d,w)::l⟩ (lV++fH) J):jR K B o ⟨n,ds,l⟩ m J e7:=by
 rcases ar with⟨ar,ab,ad⟩|⟨a,full,rest,ar⟩
 ·exact t' ah aD al az aF p9 aJ lP yu ar hm U dE dQ ap fun w lV q r=>h w lV (.inl ⟨q,r.1 ab,r.2 ad⟩)
 ·exact art ah aD al az aF p9 aJ lP yu ar hm U dE dQ aY ap fun w lV q cX cW=>h w lV (.inl ⟨q,cX rfl,cW⟩)
end
section
variable {K:dy}{B:c5}{o:Oper}{n:Nat}{ds:dJ}{l:List (Nat×Value)}{m:aO}{J:af}
def Es (k:IntKind)(a b:Int):BinOp->Option Value
 |.shr=>some (.int k (a.fdiv (2 ^ b.toNat)))
 |.and=>some (.int k (k.wrap (BitVec.ofInt k.bits a &&& BitVec.ofInt k.bits b).toNat))
 |_=>none
theorem aqz{op:BinOp}{t dx:TypeId}{x y:Operand}{k:IntKind}{a b:Int}{v:Value}(ah:o.op=.binOp op t x y dx)(U:bx l x=some (.int k a))(au:bx l y=some (.int k b))(ar:Es k a b op=some v)(ai:0<=b)(iP:b<=k.bits):cO K B o n ds l m J v:=by
 intro call aE S H aj av;unfold cj eF;simp only[ah];show lX K.P _ op t (a1 S.T H x) (a1 S.T H y)=_;rw[c6 aj H U,c6 aj H au];show(bif lT k k then iY H k a b _ op else _)=_;rw[Da,b4];have key:∀(xe:BinOp),op=xe->(xe=.shr\/xe=.and)->fl K.P S.T H o=some (.val v H):=by
  intro xe e h;subst e;refine qn aj (by rw[ah];rfl) U au rfl rfl ?_ ?_
  ·unfold execOp;simp only[ah];rw[hN aj H U,hN aj H au];rcases h with rfl|rfl
   ·simp only[Es,cl] at ar;subst ar;have ax:e0 K.P (eqGuard .shr t x y (.int k a) (.int k b))=some ():=rfl;have hY:binOp .shr t (.int k a) (.int k b)=pure (.int k (a.fdiv (2 ^ b.toNat))):=by
     simp[binOp,Op.shift,show ¬b<0 by omega,fV (show b.toNat<=k.bits by omega)]
    rw[gM (a:=.int k (a.fdiv (2 ^ b.toNat)))]
    ·rfl
    rw[gM ax,hY];rfl
   ·simp only[Es,cl] at ar;subst ar;have ax:e0 K.P (eqGuard .and t x y (.int k a) (.int k b))=some ():=rfl;have hY:binOp .and t (.int k a) (.int k b)=pure (.int k (k.wrap (BitVec.ofInt k.bits a &&& BitVec.ofInt k.bits b).toNat)):=by simp[binOp,Op.intBits]
    rw[gM (a:=.int k (k.wrap (BitVec.ofInt k.bits a &&& BitVec.ofInt k.bits b).toNat))]
    ·rfl
    rw[gM ax,hY];rfl
  ·rcases h with rfl|rfl<;>simp only[Es,cl] at ar<;>subst ar<;>rfl
 cases op<;>simp only[Es,reduceCtorEq] at ar
 ·show _=_;exact(show iY H k a b _ .and=_ from key .and rfl (.inr rfl))
 ·exact(show iY H k a b _ .shr=_ from key .shr rfl (.inl rfl))
end
theorem Ht{a:Nat}{q:Nat}:(a:Int).fdiv (2 ^ q)=((a / 2 ^ q:Nat):Int):=by
 rw[Int.fdiv_eq_ediv_of_nonneg _ (by exact uf (Int.pow_pos (by omega)))];simp
section
variable {K:dy}{B:c5}{n:Nat}{ds:dJ}{l:List (Nat×Value)}{m m':aO}{J:af}{cd:Exit->b0->aO->af->Prop}{f:FuncId}{args:List Value}
theorem akC{α:Type}{m:List α}:∃j,(m++j).Perm m:=⟨[],by rw[ij]⟩
theorem aB.aep{α:Type}{c:Code}(k:Nat)(sm:α->List (Nat×Value))(mem:α->aO)(ed:α->af)(inv:α->Prop)(ab:aB K B c ⟨n,ds,l⟩ m J fun e E' m' ae=>match e with
 |.normal=>∃s l',inv s/\E'=⟨n,ds,l'⟩/\kl l' (sm s++l.drop k)/\(∃j,(mem s++j).Perm m')/\ae=ed s
 |e=>cd e E' m' ae)(ad:∀s,inv s->cd .normal ⟨n,ds,sm s++l.drop k⟩ (mem s) (ed s)):aB K B c ⟨n,ds,l⟩ m J cd:=by
 intro S H aj av;obtain⟨e,aC,H',E',cL,ae,aU,aQ,bj,ct⟩:=ab S H aj av;cases e with
 |normal=>
  obtain⟨s,l',jM,rfl,fo,⟨j,jN⟩,rfl⟩:=ct;exact⟨_,aC,H',_,_,_,aU,aQ.sub fo,(bj.perm jN.symm).sub (lf _ _),ad s jM⟩
 |exit i=>exact⟨_,aC,H',_,_,_,aU,aQ,bj,ct⟩
 |goto i=>exact⟨_,aC,H',_,_,_,aU,aQ,bj,ct⟩
 |ret=>exact⟨_,aC,H',_,_,_,aU,aQ,bj,ct⟩
 |panic c=>exact⟨_,aC,H',_,_,_,aU,aQ,bj,ct⟩
 |outgrown=>exact⟨_,aC,H',_,_,_,aU,aQ,bj,ct⟩
end
structure uc where
 f:FuncId
 bV:List Value
 bl:aO
 J:af
 dg:Value->aO->af->Prop
 new:Bool
def uc.abm(x:uc)(K:dy)(f:FuncId)(bV:List Value)(H:an)(r:Ending×an):Prop:=
 x.f=f/\x.bV=bV/\Inv K.g0 (hS x.bl H x.J) x.J x.bl H/\∃v H' ae m',r=(Ending.returned v,H')/\iS K.Q f bV H (.returned v) H'/\Inv K.g0 (hS x.bl H x.J) ae m' H'/\x.dg v m' ae
def bh(K:dy)(B:c5)(ops:List Oper)(aX:List iG)(F:List uc)(E:b0)(m:aO)(J:af)(ba:b0->aO->af->Prop):Prop:=
 ∀(T:eo) (S:aV) (H:an),(∀f bV H1 r,T f bV H1=some r->∃x∈F,x.abm K f bV H1 r/\(x.new=true->H1.ay<H.ay))->Sat E S->Inv K.g0 B J m H->∃ck:eo,(∀f bV H r ch,T f bV H=some r->ck f bV H=some ch->ch=r)/\∃aC H' E' m' ae,
  (∀dM:eo,(∀f args H r,ck f args H=some r->dM f args H=some r)->c4 K.P (gV K.Q dM) (e8 K.Q gd dM).aE ops aX S H=some (.ok aC H'))/\Sat E' aC/\Inv K.g0 B ae m' H'/\ba E' m' ae
section
variable {K:dy}{B:c5}{ops:List Oper}{aX:List iG}{F:List uc}{F':List (FuncId×List Value)}{E:b0}{m m':aO}{J:af}{o:Oper}{ba:b0->aO->af->Prop}
variable {n:Nat}{ds:dJ}{l:List (Nat×Value)}{d i:Nat}
theorem cm.Yl(h:bh K B ops aX [] E m J ba):cm K B ops aX [] E m J ba:=by
 intro S H aj av;obtain⟨ck,_,ad⟩:=h (fun _ _ _=>none) S H (fun _ _ _ _ q=>by cases q) aj av;exact⟨ck,(fun _ _ _ _ _ q=>by cases q),ad⟩
theorem bh.Dp(b3:∀x∈F,(x.f,x.bV)∈F')(h:cm K B ops aX F' E m J ba):bh K B ops aX F E m J ba:=by
 intro T S H b1 aj av;obtain⟨ck,ab,ad⟩:=h S H aj av;refine⟨ck,fun f bV H1 r ch aK aH=>?_,ad⟩;obtain⟨x,U,⟨aw,aR,_⟩,_⟩:=b1 f bV H1 r aK;exact absurd (by rw[<-aw,<-aR];exact b3 x U) (ab f bV H1 ch aH)
theorem bh.val{v:Value}(ak:nth ops i=some o)(ax:o.guard=none)(al:o.dst=some d)(az:Nat.blt d n=true)(ar:cO K B o n ds l m J v)(h:bh K B ops aX F ⟨n,ds,(d,v)::l⟩ m J ba):bh K B ops (.val i::aX) F ⟨n,ds,l⟩ m J ba:=by
 intro T S H b1 aj av;obtain⟨a0,s1,s2⟩:=aj.put (dst:=some d) az v;obtain⟨ck,cP,aC,H',E',m',ae,ab,ad,aL,a6⟩:=h T a0 H b1 s2 av;refine⟨ck,cP,aC,H',E',m',ae,fun dM q=>?_,ad,aL,a6⟩;show h3 ops i (k9 K.P _ _ ops S H (c4 K.P _ _ ops aX))=_;unfold h3;rw[ak];show k9 K.P _ _ ops S H (c4 K.P _ _ ops aX) o=_;unfold k9 fa;rw[ax];show Bl S H o.dst (c4 K.P _ _ ops aX) (cj K.P _ _ S H o)=_;rw[ar _ _ S H aj av,al];show(bif Nat.beq H.ay H.ay then oL (c4 K.P _ _ ops aX) H (S.put (some d) v) else none)=_;rw[hd,b4,s1];exact ab dM q
theorem bh.ca{is:List Nat}(aD:sH K B ops n ds l m J is)(h:bh K B ops aX F ⟨n,ds,l⟩ m J ba):bh K B ops (.ca is::aX) F ⟨n,ds,l⟩ m J ba:=by
 intro T S H b1 aj av;obtain⟨ck,cP,aC,H',E',m',ae,ab,ad,aL,a6⟩:=h T S H b1 aj av;refine⟨ck,cP,aC,H',E',m',ae,fun dM q=>?_,ad,aL,a6⟩;show zH K.P _ _ ops S H (c4 K.P _ _ ops aX) is=_;unfold zH;rw[sH.all aj av aD,b4];exact ab dM q
theorem bh.TX{mk:Bool}{c:Call}{x:Operand}{f:FuncId}{first cap:Array Value}{args bV:List Value}{bl c2:aO}{dg:Value->aO->af->Prop}
 (ak:nth ops i=some o)(ax:o.guard=none)(ah:o.op=.call c)(al:o.dst=some d)(az:Nat.blt d n=true)(aD:c.callee=.value x)(U:bx l x=some (.func (.func f) first cap))(aF:hC l c.args.toList=some args)(has:(first.toList++args)++cap.toList=bV)
 (hs:∀x∈F,x.f=f->x.bV=bV->(x.bl=bl/\x.J=J/\x.dg=dg)\/(∀H,Inv K.g0 (hS x.bl H x.J) x.J x.bl H->Inv K.g0 (hS bl H J) J bl H->False)\/x.new=true)
 (O8:mk=true->bl=[]/\∀v m' ae,dg v m' ae->∃a b,(a,b)∈m')
 (ao:(bl++c2).Perm m)(gr:yK bl)(b3:Fn K f bV bl J dg)(h:∀v m' ae,J.le ae->dg v m' ae->bh K B ops aX (⟨f,bV,bl,J,dg,mk⟩::F) ⟨n,ds,(d,v)::l⟩ (m'++c2) ae ba):bh K B ops (.bD i::aX) F ⟨n,ds,l⟩ m J ba:=by
 intro T S H b1 aj av;have fc:=av.enter ao gr;obtain⟨v,H',ae,m',aU,aQ,bj,jM⟩:∃v H' ae m',iS K.Q f bV H (.returned v) H'/\Inv K.g0 (hS bl H J) ae m' H'/\dg v m' ae/\∀r,T f bV H=some r->r=(Ending.returned v,H'):=by
  cases wx:T f bV H with
  |none=>
   obtain⟨v,H',ae,m',aU,aQ,bj⟩:=b3 H fc;exact⟨v,H',ae,m',aU,aQ,bj,fun r q=>by cases q⟩
  |some r=>
   obtain⟨x,U,⟨aw,aR,N7,v,H',ae,m',nQ,aU,aQ,bj⟩,mh⟩:=b1 _ _ _ _ wx;rcases hs x U aw aR with⟨aK,aH,bJ⟩|q|q
   ·rw[aK,aH] at aQ;rw[bJ] at bj;exact⟨v,H',ae,m',aU,aQ,bj,fun ch q=>by injection q with q;rw[<-q];exact nQ⟩
   ·exact(q H N7 fc).elim
   ·exact absurd (mh q) (BM _)
 have kU:H.ay<=H'.ay:=aQ.ay;have dE:mk=true->H.ay<H'.ay:=fun q=>by
  obtain⟨e,he⟩:=O8 q;subst e;obtain⟨a,b,iV⟩:=he _ _ _ bj;have ah:=aQ.own _ _ iV;rcases ah.2.1 with q|q
  ·exact nC q (dw.TH aQ.wf ah.1)
  ·exact absurd q (Ik)
 obtain⟨ct,fo⟩:=av.leave ao aQ;obtain⟨a0,s1,s2⟩:=aj.put (dst:=some d) az v
 classical
 obtain⟨ck,cP,aC,mV,E',k0,nA,ab,ad,aL,a6⟩:=h v m' ae fo bj (fun f' iu H1=>if f'=f/\iu=bV/\H1=H then some (.returned v,H') else T f' iu H1) a0 H' (fun f' iu H1 r q=>by
  split at q
  ·rename_i e;obtain⟨rfl,rfl,rfl⟩:=e;injection q with q
   exact⟨_,.head _,⟨rfl,rfl,fc,v,H',ae,m',q.symm,aU,aQ,bj⟩,dE⟩
  ·obtain⟨x,U,ch,wN⟩:=b1 _ _ _ _ q;exact⟨x,.tail _ U,ch,fun e=>hA (wN e) kU⟩) s2 ct
 refine⟨fun f' bP H1=>if f'=f/\bP=bV/\H1=H then some (.returned v,H') else ck f' bP H1,fun f' bP H1 r ch aK aH=>?_,aC,mV,E',k0,nA,fun dM q=>?_,ad,aL,a6⟩
 ·dsimp only at aH
  split at aH
  ·rename_i e;obtain⟨rfl,rfl,rfl⟩:=e;injection aH with aH
   rw[jM r aK,aH]
  ·rename_i e;exact cP f' bP H1 r ch (by rw[aZ e];exact aK) aH
 ·have gR:dM f bV H=some (.returned v,H'):=q f bV H _ (by simp only[IH,a2]);have wQ:∀f' bP H1 r,ck f' bP H1=some r->dM f' bP H1=some r:=fun f' bP H1 r aq=>by
   by_cases e:f'=f/\bP=bV/\H1=H
   ·have:=cP f' bP H1 (.returned v,H') r (by rw[a2 e]) aq;rw[this,e.1,e.2.1,e.2.2];exact gR
   ·exact q f' bP H1 r (by dsimp only;rw[aZ e];exact aq)
  show h3 ops i (fun o=>iM ops (c4 K.P _ _ ops aX) (one K.P _ _ ops S H o))=_;unfold h3;rw[ak];show iM ops (c4 K.P _ _ ops aX) (one K.P _ _ ops S H o)=_;unfold one fa;rw[ax];show iM ops (c4 K.P _ _ ops aX) (np S H o.dst (cj K.P _ _ S H o))=_;have he:cj K.P (gV K.Q dM) (e8 K.Q gd dM).aE S H o=some (.val v H'):=by
   unfold cj eF;simp only[ah];show ju K.P _ c=_;unfold ju;rw[aD];show lK K.P _ _ S.T H c=_;unfold lK;rw[m6 aj H aF];simp only[aD];rw[c6 aj H U];simp only
   show(match jG K.P H (.func f) (first.toList++args) cap.toList with|some (f,bV)=>m5 (gV K.Q _ f bV H)|none=>none)=_
   unfold jG;simp only
   rw[has,x3 aU gR];rfl
  rw[he,al];show iM ops (c4 K.P _ _ ops aX) (mq H' (S.put (some d) v))=_;rw[s1];exact ab dM wQ
theorem bh.call{c:Call}{x:Operand}{f:FuncId}{first cap:Array Value}{args bV:List Value}{bl c2:aO}{dg:Value->aO->af->Prop}
 (ak:nth ops i=some o)(ax:o.guard=none)(ah:o.op=.call c)(al:o.dst=some d)(az:Nat.blt d n=true)(aD:c.callee=.value x)(U:bx l x=some (.func (.func f) first cap))(aF:hC l c.args.toList=some args)(has:(first.toList++args)++cap.toList=bV)
 (hs:∀x∈F,x.f=f->x.bV=bV->(x.bl=bl/\x.J=J/\x.dg=dg)\/(∀H,Inv K.g0 (hS x.bl H x.J) x.J x.bl H->Inv K.g0 (hS bl H J) J bl H->False)\/x.new=true)
 (ao:(bl++c2).Perm m)(gr:yK bl)(b3:Fn K f bV bl J dg)(h:∀v m' ae,J.le ae->dg v m' ae->bh K B ops aX (⟨f,bV,bl,J,dg,false⟩::F) ⟨n,ds,(d,v)::l⟩ (m'++c2) ae ba):bh K B ops (.bD i::aX) F ⟨n,ds,l⟩ m J ba:=
 bh.TX ak ax ah al az aD U aF has hs (fun q=>by cases q) ao gr b3 h
theorem bh.TY{c:Call}{x:Operand}{f:FuncId}{first cap:Array Value}{args bV:List Value}{dg:Value->aO->af->Prop}
 (ak:nth ops i=some o)(ax:o.guard=none)(ah:o.op=.call c)(al:o.dst=some d)(az:Nat.blt d n=true)(aD:c.callee=.value x)(U:bx l x=some (.func (.func f) first cap))(aF:hC l c.args.toList=some args)(has:(first.toList++args)++cap.toList=bV)
 (hs:∀x∈F,x.new=true)(O8:∀v m' ae,dg v m' ae->∃a b,(a,b)∈m')
 (b3:Fn K f bV [] J dg)(h:∀v m' ae,J.le ae->dg v m' ae->bh K B ops aX (⟨f,bV,[],J,dg,true⟩::F) ⟨n,ds,(d,v)::l⟩ (m'++m) ae ba):bh K B ops (.bD i::aX) F ⟨n,ds,l⟩ m J ba:=
 bh.TX (mk:=true) (c2:=m) ak ax ah al az aD U aF has (fun x U _ _=>.inr (.inr (hs x U))) (fun _=>⟨rfl,O8⟩) (.refl _) trivial b3 h
end
section
variable {K:dy}{B:c5}{R:uq}{ops:List Oper}{aX:List iG}{m:aO}{J:af}{o:Oper}{ba:b0->aO->af->Prop}
variable {n:Nat}{ds:dJ}{l:List (Nat×Value)}{d i g:Nat}{want b:Bool}
end
section
variable {K:dy}{B:c5}{o:Oper}{n:Nat}{ds:dJ}{l:List (Nat×Value)}{m:aO}{J:af}{e7:b0->aO->af->Prop}{d:Nat}
theorem aqY{t e:TypeId}{x:Operand}{ak:Operand}{c0 off k cap sz:Nat}{zs:List Value}{b:Int}{qh:IntKind}(ah:o.op=.slice t x none (some ak) none)(U:bx l x=some (.slice (some ⟨c0,off,none⟩) k cap))(aJ:mr K.P t=some (e,sz,zs))(kh:bx l ak=some (.int qh b))(aN:0<=b)(ab:b<=cap)(aD:cap<cG)(kT:0<cap):cO K B o n ds l m J (.slice (some ⟨c0,off,none⟩) b.toNat cap):=by
 obtain⟨hu,dF,_⟩:=sw aJ;intro call aE S H aj av;obtain⟨xa,pt,pu⟩:=uA (iO:=k) (top:=cap) (dl:=(k:Int)) (i:=b) (x:=some ak) aj H (by unfold s3;simp only[kh]) aN ab rfl;unfold cj eF;simp only[ah];show lY K.P _ t (a1 S.T H x) (ho S.T H none) (ho S.T H (some ak))=_;rw[c6 aj H U,pt,show ho S.T H none=some none from rfl];unfold lY;simp only
 have:jY K.P H t (.slice (some ⟨c0,off,none⟩) k cap) none xa=some (.slice (some ⟨c0,off,none⟩) b.toNat cap):=by
  unfold jY;simp only[hu,dF];rw[show Nat.beq cap cG=false from by
   cases ai:Nat.beq cap cG with
   |false=>rfl
   |true=>have:=eb ai;omega,da,pu]
  simp only[jW];rw[show Nat.beq cap 0=false from by
   cases ai:Nat.beq cap 0 with
   |false=>rfl
   |true=>have:=eb ai;omega,da]
  simp
 rw[this];rfl
end
section
variable {K:dy}{B:c5}{R:uq}{ops:List Oper}{aX:List iG}{m:aO}{J:af}{o:Oper}{ba:b0->aO->af->Prop}
variable {n:Nat}{ds:dJ}{l:List (Nat×Value)}{d i g:Nat}{want b:Bool}
end
section
variable {K:dy}{B:c5}{o:Oper}{n:Nat}{ds:dJ}{l:List (Nat×Value)}{m m':aO}{J:af}{e7:b0->aO->af->Prop}
end
end
end Go.Opn
set_option maxRecDepth 100000
namespace Go.Opn
noncomputable section
open Go.Cre Go.RowKit Go.Proofs
def bW(k:IntKind)(l:List Nat):List Value:=l.map fun x:Nat=>Value.int k (x:Int)
theorem qj{k:IntKind}{l:List Nat}:(bW k l).length=l.length:=eP _
theorem KL{k:IntKind}{l:List Nat}{i x:Nat}(h:l[i]?=some x):(bW k l)[i]?=some (.int k (x:Int)):=by unfold bW;rw[j6,h];rfl
theorem qk{k:IntKind}{l:List Nat}{i off x:Nat}(h:l[i]?=some x)(ah:off=i:=by omega):nth (bW k l) off=some (.int k (x:Int)):=by subst ah;rw[kA];exact KL h
theorem AO{k:IntKind}{a b:List Nat}:bW k (a++b)=bW k a++bW k b:=xR
theorem k3{k:IntKind}{l:List Nat}{off:Nat}{x:Nat}(i:Nat)(h:i<l.length)(ah:off=i:=by omega):gf off (bW k l) [.int k (x:Int)]=some (bW k (l.set i x)):=by
 subst ah;exact ZT (f:=fun x:Nat=>Value.int k (x:Int)) h
theorem Dl{k:IntKind}(l:List Nat):(bW k l).all eV=true:=by
 induction l with
 |nil=>rfl
 |cons a l aP=>show(eV (Value.int k (a:Int))&&_)=true;unfold bW at aP;rw[aP];rfl
theorem zero_num{k:IntKind}{n:Nat}:fp [.int k 0] n=bW k (List.replicate n 0):=by rw[arO];unfold bW;rw[List.map_replicate];rfl
def cJ(k:IntKind)(J:af)(v:Value)(l:List Nat):Prop:=∃e,fg J e 1 v l.length (bW k l)
theorem cJ.mono{k:IntKind}{J ae:af}(hle:J.le ae){v:Value}{l:List Nat}(h:cJ k J v l):cJ k ae v l:=by obtain⟨e,h⟩:=h;exact⟨e,h.mono hle⟩
theorem cJ.addr{k:IntKind}{J:af}{b:Option Addr}{n c:Nat}{l:List Nat}(h:cJ k J (.slice b n c) l):addrEq b b=true:=by obtain⟨e,h⟩:=h;exact h.addr
theorem cJ.form{k:IntKind}{J:af}{v:Value}{l:List Nat}(h:cJ k J v l):∃b c,v=.slice b l.length c:=by
 obtain⟨e,h⟩:=h;obtain⟨b,c,ab,_⟩:=fg.inv h;exact⟨b,c,ab⟩
theorem cJ.ed{k:IntKind}{J:af}{b:Option Addr}{n c:Nat}{l:List Nat}(h:cJ k J (.slice b n c) l)(ao:0<l.length):∃a off cells e,b=some ⟨a,off,none⟩/\J a=some (cells,e)/\∀i x:Nat,l[i]?=some x->nth cells (off+i*1)=some (.int k (x:Int)):=by
 obtain⟨e,h⟩:=h;obtain⟨b',c',ab,_,_,aL⟩:=fg.inv h;injection ab with a6 fb fX
 subst a6;obtain⟨a,off,cells,e,aU,aQ,bj⟩:=aL ao;refine⟨a,off,cells,e,aU,aQ,fun i x U=>?_⟩;have ak:=(gS.1 U).1;rw[gJ,bj i I];exact KL U
theorem cJ.rd{k:IntKind}{g0:Nat}{B:c5}{J:af}{m:aO}{v:Value}{l:List Nat}(h:cJ k J v l):nG g0 B J m 1 v l.length (bW k l):=by obtain⟨e,h⟩:=h;exact h.rd
theorem cJ.nil{k:IntKind}{J:af}:cJ k J (.slice none 0 0) []:=⟨3,.nil⟩
theorem cJ.row{k:IntKind}{J:af}{a n cap:Nat}{l:List Nat}{e:TypeId}(az:n<=l.length)(aD:n<=cap)(gQ:cap<cG)(h:J a=some (bW k l,e)):cJ k J (.slice (some ⟨a,0,none⟩) n cap) (l.take n):=by
 have ap:(l.take n).length=n:=by rw[dY];omega
 refine⟨e,?_⟩;rw[ap];refine .row h ?_ ?_ (fun _=>⟨aD,gQ⟩) (fun q=>absurd q I)
 ·rw[g5,gJ];unfold bW;rw[BJ]
 ·rw[qj,ap,gJ]
end
end Go.Opn
namespace Go.Opn
noncomputable section
def a3:List Nat->Nat
 |[]=>0
 |x::l=>x+18446744073709551616*a3 l
def okW(l:List Nat):Prop:=∀x∈l,x<18446744073709551616
def xL(l:List Nat):Prop:=okW l/\∀x,l.getLast?=some x->x≠0
def aS(n:Nat):List Nat:=if h:n=0 then[] else n % 18446744073709551616::aS (n / 18446744073709551616)
termination_by n
decreasing_by omega
theorem sD:aS 0=[]:=by unfold aS;rfl
theorem vw{n:Nat}(h:n≠0):aS n=n % 18446744073709551616::aS (n / 18446744073709551616):=by rw[aS];rw[dif_neg h]
theorem hr:∀n:Nat,a3 (aS n)=n:=by
 intro n
 induction n using Nat.strongRecOn with
 |_ n aP=>
  by_cases h:n=0
  ·subst h;rw[sD];rfl
  ·rw[vw h]
   show n % 18446744073709551616+18446744073709551616*a3 (aS (n / 18446744073709551616))=n
   rw[aP _ (by omega)];omega
theorem oH:∀n:Nat,okW (aS n):=by
 intro n
 induction n using Nat.strongRecOn with
 |_ n aP=>
  by_cases h:n=0
  ·subst h;rw[sD];intro x U;cases U
  ·rw[vw h]
   intro x U
   rcases fU.1 U with rfl|U
   ·omega
   ·exact aP _ (by omega) x U
theorem Ly:∀(n:Nat) (x:Nat),(aS n).getLast?=some x->x≠0:=by
 intro n
 induction n using Nat.strongRecOn with
 |_ n aP=>
  intro x U
  by_cases h:n=0
  ·subst h;rw[sD] at U;cases U
  ·rw[vw h] at U
   by_cases ad:n / 18446744073709551616=0
   ·rw[ad,sD] at U
    have U:n % 18446744073709551616=x:=by simpa using U
    omega
   ·rw[vw ad,L1,<-vw ad] at U
    exact aP _ (by omega) x U
theorem aet(n:Nat):xL (aS n):=⟨oH n,Ly n⟩
theorem okW.tail{x:Nat}{l:List Nat}(h:okW (x::l)):okW l:=fun y au=>h y (.tail _ au)
theorem T5{x:Nat}{l:List Nat}(h:xL (x::l)):xL l:=⟨h.1.tail,fun y au=>by
 cases l with
 |nil=>cases au
 |cons z l=>exact h.2 y (by rw[L1];exact au)⟩
theorem aaM:∀{l:List Nat},xL l->a3 l=0->l=[]
 |[],_,_=>rfl
 |x::l,h,aN=>by
  have aN:x+18446744073709551616*a3 l=0:=aN
  have:=aaM (T5 h) (by omega)
  subst this
  exact absurd (show x=0 by omega) (h.2 x rfl)
theorem I2:∀{l:List Nat},xL l->l=aS (a3 l)
 |[],_=>by show[]=aS 0;rw[sD]
 |x::l,h=>by
  have U:=h.1 x (.head _)
  have aP:=I2 (T5 h)
  have az:a3 (x::l)≠0:=fun q=>by have:=aaM h q;cases this
  rw[vw az]
  have aw:a3 (x::l) % 18446744073709551616=x:=by show(x+18446744073709551616*a3 l) % 18446744073709551616=x;omega
  have aR:a3 (x::l) / 18446744073709551616=a3 l:=by show(x+18446744073709551616*a3 l) / 18446744073709551616=a3 l;omega
  rw[aw,aR,<-aP]
theorem tX:∀(a b:List Nat),a3 (a++b)=a3 a+18446744073709551616 ^ a.length*a3 b
 |[],b=>by show a3 b=0+1*a3 b;omega
 |x::a,b=>by
  show x+18446744073709551616*a3 (a++b)=x+18446744073709551616*a3 a+18446744073709551616 ^ (a.length+1)*a3 b
  rw[tX a b,cH,ff,e4,D9,rJ]
theorem HI(x:Nat):a3 [x]=x:=by show x+18446744073709551616*0=x;omega
theorem ry:∀{l:List Nat},okW l->a3 l<18446744073709551616 ^ l.length
 |[],_=>by decide
 |x::l,h=>by
  have aP:=ry h.tail
  have U:=h x (.head _)
  show x+18446744073709551616*a3 l<18446744073709551616 ^ (l.length+1)
  rw[ff]
  omega
theorem aq2{l:List Nat}(h:xL l)(az:l≠[]):18446744073709551616 ^ (l.length -1)<=a3 l:=by
 have e:=abu az
 have aN:l.getLast az≠0:=h.2 _ (aby az)
 rw[<-e,tX,HI,eY,zl,lg]
 have:18446744073709551616 ^ l.dropLast.length*1<=18446744073709551616 ^ l.dropLast.length*l.getLast az:=hf _ (by omega)
 omega
theorem kC{l:List Nat}{i x:Nat}(h:l[i]?=some x):a3 (l.take (i+1))=a3 (l.take i)+18446744073709551616 ^ i*x:=by
 have ak:=(gS.1 h).1
 rw[ko,h,Option.toList_some,tX,HI,dY,fV (by omega)]
theorem HH{l:List Nat}{i x:Nat}(h:l[i]?=some x):a3 (l.drop i)=x+18446744073709551616*a3 (l.drop (i+1)):=by
 have ak:=(gS.1 h).1
 have U:l[i]=x:=by rw[dX ak] at h;injection h
 rw[Ic ak,U];rfl
theorem Bo(l:List Nat)(i:Nat)(ak:i<=l.length):a3 l=a3 (l.take i)+18446744073709551616 ^ i*a3 (l.drop i):=by
 have:=tX (l.take i) (l.drop i)
 rwa [Il,dY,fV ak] at this
theorem Bm{l:List Nat}{i x y:Nat}(h:l[i]?=some x):a3 (l.set i y)+18446744073709551616 ^ i*x=a3 l+18446744073709551616 ^ i*y:=by
 have ak:=(gS.1 h).1
 have aw:=Bo l i (by omega)
 have aR:=Bo (l.set i y) i (by rw[g6];omega)
 rw[Im (bF i),HH (i:=i) (x:=y) (by rw[mz,a2 rfl,a2 ak]),BI (by omega)] at aR
 rw[HH h] at aw
 rw[aw,aR,cH,cH]
 omega
theorem rn{l:List Nat}{i y:Nat}(h:okW l)(au:y<18446744073709551616):okW (l.set i y):=fun x U=>by
 rcases SY U with q|q
 ·exact h x q
 ·omega
theorem KR{a b:List Nat}(ab:okW a)(ad:okW b):okW (a++b):=fun x U=>by
 rcases nB.1 U with q|q
 ·exact ab x q
 ·exact ad x q
theorem tJ{l:List Nat}{i:Nat}(h:okW l):okW (l.take i):=fun x U=>h x (vG U)
theorem xb{l:List Nat}{i x:Nat}(h:okW l)(U:l[i]?=some x):x<18446744073709551616:=h x (gh U)
theorem yQ{n:Nat}:okW (List.replicate n 0):=fun x U=>by rw[SM U];decide
theorem Lu:∀n:Nat,a3 (List.replicate n 0)=0
 |0=>rfl
 |n+1=>by rw[S1];show 0+18446744073709551616*a3 (List.replicate n 0)=0;rw[Lu n]
theorem aq4{a b:List Nat}(aF:okW a)(ai:xL b)(h:a.length<b.length):a3 a<a3 b:=by
 have ab:=ry aF
 have ad:=aq2 ai (fun q=>by rw[q] at h;exact Ee _ h)
 have aL:18446744073709551616 ^ a.length<=18446744073709551616 ^ (b.length -1):=nE (by decide) (by omega)
 omega
theorem aq5{a b:List Nat}{i x y:Nat}(aF:okW a)(U:a[i]?=some x)(au:b[i]?=some y)(al:a.drop (i+1)=b.drop (i+1))(h:x<y):a3 a<a3 b:=by
 have akc:=(gS.1 U).1
 have akd:=(gS.1 au).1
 have aw:=Bo a (i+1) (by omega)
 have aR:=Bo b (i+1) (by omega)
 rw[kC U,al] at aw
 rw[kC au] at aR
 have ab:=ry (tJ (i:=i) aF)
 rw[dY,fV (by omega)] at ab
 have ad:18446744073709551616 ^ i*(x+1)<=18446744073709551616 ^ i*y:=hf _ h
 rw[cH,gJ] at ad
 generalize 18446744073709551616 ^ (i+1)*a3 (b.drop (i+1))=R at aw aR
 generalize 18446744073709551616 ^ i*x=X at aw ad
 generalize 18446744073709551616 ^ i*y=Y at aR ad
 omega
end
end Go.Opn
set_option maxHeartbeats 4000000
namespace Go.Opn
noncomputable section
open Go.Cre Go.RowKit Go.Proofs
section
variable {Q:cZ Tryz.prog}{g0:Nat}{B:c5}{o:Oper}{n:Nat}{ds:dJ}{l:List (Nat×Value)}{m:aO}{J:af}
theorem Zk{a:Nat}{cells:List Value}(h:pQ m J a cells:=by first|exact .ed (by assumption)|exact .own (by repeat first|exact .head _|refine .tail _ ?_|refine iI _ ?_)|exact .opn (by repeat first|exact .head _|refine .tail _ ?_|refine iI _ ?_)):pQ m J a cells:=h
theorem V.W'{t:TypeId}{x:Operand}{a off:Nat}{cells:List Value}{v:Value}(ah:o.op=.load t x:=by exact rfl) (U:bx l x=some (.pointer (some ⟨a,off,none⟩)):=by exact rfl) (aq:pQ m J a cells:=by exact Zk) (ar:mD (aT Q g0).P t cells off=some v:=by exact iy (g2 rfl) (by first|rfl|assumption)):cO (aT Q g0) B o n ds l m J (v):=ob ah U aq ar
theorem V.W9{t:TypeId}{x:Operand}{a off:Nat}{cells:List Value}{v:Value}(ah:o.op=.load t x:=by exact rfl) (U:bx l x=some (.pointer (some ⟨a,off,none⟩)):=by exact rfl) (aq:pQ m J a cells:=by exact Zk) (ar:mD (aT Q g0).P t cells off=some v:=by exact yX (g2 rfl) (by first|rfl|assumption)):cO (aT Q g0) B o n ds l m J (v):=ob ah U aq ar
end
theorem aph{cells:List Value}{off:Nat}{v:Value}(i:Nat)(h:i<cells.length)(ah:off=i:=by omega):gf off cells [v]=some (cells.set i v):=by
 subst ah;have:=ZT (f:=fun v:Value=>v) (L:=cells) (x:=v) h;rwa [List.map_id',List.map_id'] at this
theorem dz.at{α:Type}{J:af}{e:TypeId}{sz n c:Nat}{b:Option Addr}{R:α->List Value->Prop}{xs:List α}(h:dz J e sz R (.slice b n c) xs):n=xs.length/\(0<xs.length->∃a off cells bC,b=some ⟨a,off,none⟩/\J a=some (cells,bC)/\
 ∀i:Int,0<=i->i<xs.length->∃x cs,xs[i.toNat]?=some x/\takeN sz (nP (off+i.toNat*sz) cells)=some cs/\(∀k v,k<sz->nth cs k=some v->nth cells (off+i.toNat*sz+k)=some v)/\R x cs):=by
 obtain⟨ab,ad⟩:=h.get;refine⟨ab,fun ao=>?_⟩;obtain⟨a,off,cells,bC,aU,aQ,bj⟩:=ad ao;refine⟨a,off,cells,bC,aU,aQ,fun i i0 i1=>?_⟩;have U:=dX (l:=xs) (i:=i.toNat) I;obtain⟨cs,bp,bN⟩:=bj _ _ U;rw[h9] at bp;refine⟨_,cs,U,bp,fun k v hk ar=>?_,bN⟩;obtain⟨q,_,_⟩:=DK bp;rw[kA] at ar ⊢;rw[q,v9,iH,a2 hk,oX] at ar;exact ar
section
variable {Q:cZ Tryz.prog}{g0:Nat}{J:af}
theorem mY.DC{b:Option Addr}{n c:Nat}{l:List Int}(h:mY J (.slice b n c) l):0<l.length->∃a off cells e,b=some ⟨a,off,none⟩/\J a=some (cells,e)/\∀i:Nat,i<l.length->∃x,l[i]?=some x/\nth cells (off+i*1)=some (.int .i64 x):=fun ao=>by
 obtain⟨_,_,aL⟩:=h.get;obtain⟨a,off,cells,e,a6,fb,fX⟩:=aL ao;refine⟨a,off,cells,e,a6,fb,fun i ak=>?_⟩;have:=fX i I I;rwa [h9] at this
end
section
variable {K:dy}{B:c5}{o:Oper}{n:Nat}{ds:dJ}{l:List (Nat×Value)}{m:aO}{J:af}
theorem aqv{t dx:TypeId}{x y:Operand}{k:IntKind}{a b:Int}(ah:o.op=.binOp .and t x y dx)(U:bx l x=some (.int k a))(au:bx l y=some (.int k b)):cO K B o n ds l m J (.int k (k.wrap (BitVec.ofInt k.bits a &&& BitVec.ofInt k.bits b).toNat)):=by
 intro call aE S H aj av;unfold cj eF;simp only[ah];show lX K.P _ .and t (a1 S.T H x) (a1 S.T H y)=_;rw[c6 aj H U,c6 aj H au];show(bif lT k k then iY H k a b _ .and else _)=_;rw[Da,b4];have key:fl K.P S.T H o=some (.val (.int k (k.wrap (BitVec.ofInt k.bits a &&& BitVec.ofInt k.bits b).toNat)) H):=by
  refine qn aj (by rw[ah];rfl) U au rfl rfl ?_ rfl;unfold execOp;simp only[ah];rw[hN aj H U,hN aj H au];have ax:e0 K.P (eqGuard .and t x y (.int k a) (.int k b))=some ():=rfl;have hY:binOp .and t (.int k a) (.int k b)=pure (.int k (k.wrap (BitVec.ofInt k.bits a &&& BitVec.ofInt k.bits b).toNat)):=by simp[binOp,Op.intBits]
  rw[gM (a:=.int k (k.wrap (BitVec.ofInt k.bits a &&& BitVec.ofInt k.bits b).toNat))]
  ·rfl
  rw[gM ax,hY];rfl
 exact(show iY H k a b _ .and=_ from key)
end
def cp(J:af)(v:Value)(x:Nat):Prop:=cJ .u64 J v (aS x)
theorem cp.mono{J ae:af}(hle:J.le ae){v:Value}{x:Nat}(h:cp J v x):cp ae v x:=cJ.mono hle h
def zw(x n:Nat):Prop:=n=(aS x).length
theorem zw.z{x n:Nat}(h:zw x n)(az:n=0):x=0:=by
 by_cases q:x=0
 ·exact q
 ·have h:n=(aS x).length:=h
  rw[vw q,lc] at h;omega
theorem zw.iR{x n:Nat}(h:zw x n)(U:x=0):n=0:=by subst U;exact h.trans (by rw[sD];rfl)
theorem cp.cA{J:af}{v:Value}{x:Nat}(h:cp J v x):∃b n c,v=.slice b n c/\addrEq b b=true/\zw x n/\True:=by
 have h:cJ .u64 J v (aS x):=h;obtain⟨b,c,rfl⟩:=h.form;exact⟨b,_,c,rfl,h.addr,rfl,trivial⟩
theorem zw.QR{x n:Nat}(h:zw x n)(U:n≠0):x≠0:=fun q=>U (h.iR q)
theorem cp.bQ{J:af}{v:Value}{x:Nat}(h:cp J v x):∃b c,v=.slice b (aS x).length c/\addrEq b b=true:=by
 have h:cJ .u64 J v (aS x):=h;obtain⟨b,c,rfl⟩:=h.form;exact⟨b,c,rfl,h.addr⟩
theorem cp.zero{J:af}{b:Option Addr}{c:Nat}(h:∃e,fg J e 1 (.slice b 0 c) 0 []):cp J (.slice b 0 c) 0:=by
 obtain⟨e,h⟩:=h;show cJ .u64 J _ (aS 0);rw[sD];exact⟨e,h⟩
theorem cp.nil{J:af}:cp J (.slice none 0 0) 0:=.zero ⟨3,.nil⟩
theorem cp.row{J:af}{a n cap x:Nat}{l:List Nat}{e:TypeId}(az:l.take n=aS x)(ap:n<=l.length)(aD:n<=cap)(gQ:cap<cG)(h:J a=some (bW .u64 l,e)):cp J (.slice (some ⟨a,0,none⟩) n cap) x:=by
 have:=cJ.row ap aD gQ h;rw[az] at this;exact this
end
end Go.Opn
set_option maxHeartbeats 8000000
namespace Go.Opn
noncomputable section
open Go.Cre Go.RowKit Go.Proofs
section
variable {K:dy}{B:c5}{o:Oper}{n:Nat}{ds:dJ}{l:List (Nat×Value)}{m:aO}{J:af}
theorem aqQ{t dx:TypeId}{x y:Operand}{k:IntKind}{a b:Int}(ah:o.op=.binOp .or t x y dx)(U:bx l x=some (.int k a))(au:bx l y=some (.int k b)):cO K B o n ds l m J (.int k (k.wrap (BitVec.ofInt k.bits a ||| BitVec.ofInt k.bits b).toNat)):=by
 intro call aE S H aj av;unfold cj eF;simp only[ah];show lX K.P _ .or t (a1 S.T H x) (a1 S.T H y)=_;rw[c6 aj H U,c6 aj H au];show(bif lT k k then iY H k a b _ .or else _)=_;rw[Da,b4];have key:fl K.P S.T H o=some (.val (.int k (k.wrap (BitVec.ofInt k.bits a ||| BitVec.ofInt k.bits b).toNat)) H):=by
  refine qn aj (by rw[ah];rfl) U au rfl rfl ?_ rfl;unfold execOp;simp only[ah];rw[hN aj H U,hN aj H au];have ax:e0 K.P (eqGuard .or t x y (.int k a) (.int k b))=some ():=rfl;have hY:binOp .or t (.int k a) (.int k b)=pure (.int k (k.wrap (BitVec.ofInt k.bits a ||| BitVec.ofInt k.bits b).toNat)):=by simp[binOp,Op.intBits]
  rw[gM (a:=.int k (k.wrap (BitVec.ofInt k.bits a ||| BitVec.ofInt k.bits b).toNat))]
  ·rfl
  rw[gM ax,hY];rfl
 exact(show iY H k a b _ .or=_ from key)
theorem aqS{t dx:TypeId}{x y:Operand}{k aQ:IntKind}{a b:Int}(ah:o.op=.binOp .shl t x y dx)(U:bx l x=some (.int k a))(au:bx l y=some (.int aQ b))(lN:lT k aQ=false)(aN:0<=b)(ab:b<=k.bits):cO K B o n ds l m J (.int k (k.wrap (a*2 ^ b.toNat))):=by
 intro call aE S H aj av;unfold cj eF;simp only[ah];show lX K.P _ .shl t (a1 S.T H x) (a1 S.T H y)=_;rw[c6 aj H U,c6 aj H au];show(bif lT k aQ then iY H k a b _ .shl else _)=_;rw[lN,da];have key:fl K.P S.T H o=some (.val (.int k (k.wrap (a*2 ^ b.toNat))) H):=by
  refine qn aj (by rw[ah];rfl) U au rfl rfl ?_ rfl;unfold execOp;simp only[ah];rw[hN aj H U,hN aj H au];have ax:e0 K.P (eqGuard .shl t x y (.int k a) (.int aQ b))=some ():=rfl;have hY:binOp .shl t (.int k a) (.int aQ b)=pure (.int k (k.wrap (a*2 ^ b.toNat))):=by
   simp[binOp,Op.shift,show ¬b<0 by omega,fV (show b.toNat<=k.bits by omega)]
  rw[gM (a:=.int k (k.wrap (a*2 ^ b.toNat)))]
  ·rfl
  rw[gM ax,hY];rfl
 show orElse (fl K.P S.T H o) _=_;rw[key];rfl
theorem aqT{t dx:TypeId}{x y:Operand}{k aQ:IntKind}{a b:Int}(ah:o.op=.binOp .shl t x y dx)(U:bx l x=some (.int k a))(au:bx l y=some (.int aQ b))(aN:0<=b)(ab:b<=k.bits):cO K B o n ds l m J (.int k (k.wrap (a*2 ^ b.toNat))):=by
 cases lN:lT k aQ with
 |false=>exact aqS ah U au lN aN ab
 |true=>
  obtain rfl:k=aQ:=by revert lN;cases k<;>cases aQ<;>intro lN<;>first|rfl|cases lN
  intro call aE S H aj av;unfold cj eF;simp only[ah];show lX K.P _ .shl t (a1 S.T H x) (a1 S.T H y)=_;rw[c6 aj H U,c6 aj H au];show(bif lT k k then iY H k a b _ .shl else _)=_;rw[lN,b4];have key:fl K.P S.T H o=some (.val (.int k (k.wrap (a*2 ^ b.toNat))) H):=by
   refine qn aj (by rw[ah];rfl) U au rfl rfl ?_ rfl;unfold execOp;simp only[ah];rw[hN aj H U,hN aj H au];have ax:e0 K.P (eqGuard .shl t x y (.int k a) (.int k b))=some ():=rfl;have hY:binOp .shl t (.int k a) (.int k b)=pure (.int k (k.wrap (a*2 ^ b.toNat))):=by
    simp[binOp,Op.shift,show ¬b<0 by omega,fV (show b.toNat<=k.bits by omega)]
   rw[gM (a:=.int k (k.wrap (a*2 ^ b.toNat)))]
   ·rfl
   rw[gM ax,hY];rfl
  exact(show iY H k a b _ .shl=_ from key)
theorem aqU{t dx:TypeId}{x y:Operand}{k aQ:IntKind}{a b:Int}(ah:o.op=.binOp .shr t x y dx)(U:bx l x=some (.int k a))(au:bx l y=some (.int aQ b))(lN:lT k aQ=false)(aN:0<=b)(ab:b<=k.bits):cO K B o n ds l m J (.int k (a.fdiv (2 ^ b.toNat))):=by
 intro call aE S H aj av;unfold cj eF;simp only[ah];show lX K.P _ .shr t (a1 S.T H x) (a1 S.T H y)=_;rw[c6 aj H U,c6 aj H au];show(bif lT k aQ then iY H k a b _ .shr else _)=_;rw[lN,da];have key:fl K.P S.T H o=some (.val (.int k (a.fdiv (2 ^ b.toNat))) H):=by
  refine qn aj (by rw[ah];rfl) U au rfl rfl ?_ rfl;unfold execOp;simp only[ah];rw[hN aj H U,hN aj H au];have ax:e0 K.P (eqGuard .shr t x y (.int k a) (.int aQ b))=some ():=rfl;have hY:binOp .shr t (.int k a) (.int aQ b)=pure (.int k (a.fdiv (2 ^ b.toNat))):=by
   simp[binOp,Op.shift,show ¬b<0 by omega,fV (show b.toNat<=k.bits by omega)]
  rw[gM (a:=.int k (a.fdiv (2 ^ b.toNat)))]
  ·rfl
  rw[gM ax,hY];rfl
 show orElse (fl K.P S.T H o) _=_;rw[key];rfl
theorem aqV{t dx:TypeId}{x y:Operand}{k aQ:IntKind}{a b:Int}(ah:o.op=.binOp .shr t x y dx)(U:bx l x=some (.int k a))(au:bx l y=some (.int aQ b))(aN:0<=b)(ab:b<=k.bits):cO K B o n ds l m J (.int k (a.fdiv (2 ^ b.toNat))):=by
 cases lN:lT k aQ with
 |false=>exact aqU ah U au lN aN ab
 |true=>
  obtain rfl:k=aQ:=by revert lN;cases k<;>cases aQ<;>intro lN<;>first|rfl|cases lN
  intro call aE S H aj av;unfold cj eF;simp only[ah];show lX K.P _ .shr t (a1 S.T H x) (a1 S.T H y)=_;rw[c6 aj H U,c6 aj H au];show(bif lT k k then iY H k a b _ .shr else _)=_;rw[lN,b4];have key:fl K.P S.T H o=some (.val (.int k (a.fdiv (2 ^ b.toNat))) H):=by
   refine qn aj (by rw[ah];rfl) U au rfl rfl ?_ rfl;unfold execOp;simp only[ah];rw[hN aj H U,hN aj H au];have ax:e0 K.P (eqGuard .shr t x y (.int k a) (.int k b))=some ():=rfl;have hY:binOp .shr t (.int k a) (.int k b)=pure (.int k (a.fdiv (2 ^ b.toNat))):=by
    simp[binOp,Op.shift,show ¬b<0 by omega,fV (show b.toNat<=k.bits by omega)]
   rw[gM (a:=.int k (a.fdiv (2 ^ b.toNat)))]
   ·rfl
   rw[gM ax,hY];rfl
  exact(show iY H k a b _ .shr=_ from key)
end
end
end Go.Opn
