/- A part of the proof of SampleParts. -/
import Derived.Test.YtdbhjgpppmkagaaGreatCbo
import Derived.Test.YtdbhjgpppmkagaaGreatCbn
import Derived.Test.YtdbhjgpppmkagaaGreatCbh
set_option maxRecDepth 100000
set_option maxHeartbeats 8000000
set_option linter.unusedVariables false
set_option linter.unusedSimpArgs false
namespace Go.Opn
noncomputable section
open Go.Cre Go.RowKit Go.Proofs
abbrev Wh(ac:Nat)(va:Value)(r sd:Int)(cT:Option Addr)(dk c3:Nat)(ee:Value)(dd:Option Addr)(dG c8 bK dn dQ:Nat):List Value:=[.pointer (some ⟨ac,0,none⟩),va,.int .i64 r,.int .i64 sd,.slice cT dk c3,ee,.slice dd dG c8,.slice (some ⟨bK,0,none⟩) dn dQ]
abbrev ed(ac:Nat)(va:Value)(r sd:Int)(cT:Option Addr)(dk c3:Nat)(ee:Value)(dd:Option Addr)(dG c8 bK dn dQ:Nat)(cS:List Int):List Value:=kh (Wh ac va r sd cT dk c3 ee dd dG c8 bK dn dQ) cS []
abbrev bM(a:Nat)(L:List Int):Nat×cI:=(a,.row (L.map (Value.int .i64)) 3)
structure XR (J:aA) (a1 off:Nat) (m1:List Value) (i:Nat) (x:cH) (bE:Option Addr) (bx:Nat) (bS:Option Addr) (bT:Nat) (cJ:Option Addr) (dA:Nat):Prop where
 gX:nth m1 (off+((i:Nat):Int).toNat*6+0)=some (.int .i64 x.k)
 a':nth m1 (off+((i:Nat):Int).toNat*6+1)=some (.int .i64 x.p)
 bd:nth m1 (off+((i:Nat):Int).toNat*6+2)=some (.int .i64 x.i)
 bz:nth m1 (off+((i:Nat):Int).toNat*6+3)=some (.slice bE x.af.length bx)
 cM:nth m1 (off+((i:Nat):Int).toNat*6+4)=some (.slice bS x.ws.length bT)
 ha:nth m1 (off+((i:Nat):Int).toNat*6+5)=some (.slice cJ x.gw.length dA)
 aa:ew J (.slice bE x.af.length bx) x.af
 ab:ew J (.slice bS x.ws.length bT) x.ws
 aK:ew J (.slice cJ x.gw.length dA) x.gw
theorem hB.node{J:aA}{g:bp}{aT bi:Option Addr}{aP ci i:Nat}{x:cH}(h:hB J g aT aP bi ci)(I:g.ns[i]?=some x):∃a1 off m1 ne bE bx bS bT cJ dA,aT=some ⟨a1,off,none⟩/\J a1=some (m1,ne)/\XR J a1 off m1 i x bE bx bS bT cJ dA:=by
 have ak:=(dv.1 I).1;obtain⟨_,ky⟩:=h.n.at;obtain⟨a1,off,m1,ne,rfl,tL,tV⟩:=ky (by omega);obtain⟨dD,cs,fe,kx,mU,gB⟩:=tV i (by omega) (by omega);rw[ea,I] at fe;injection fe with fe
 subst fe;obtain⟨bE,bx,bS,bT,cJ,dA,rfl,lc,nX,rq⟩:=gB;exact⟨a1,off,m1,ne,bE,bx,bS,bT,cJ,dA,rfl,tL,mU 0 _ (by decide) rfl,mU 1 _ (by decide) rfl,mU 2 _ (by decide) rfl,mU 3 _ (by decide) rfl,mU 4 _ (by decide) rfl,mU 5 _ (by decide) rfl,lc,nX,rq⟩
theorem Rl:∀{vs row:List Int} {k:Nat} {v w:Int},vs[k]?=some v->row[k]?=some w->nH (vs.take (k+1)) (row.take (k+1))=nH (vs.take k) (row.take k)+v*w
 |x::vs,y::row,0,v,w,aa,ab=>by
  injection aa with aa;injection ab with ab;subst aa;subst ab
  show x*y+nH [] []=nH [] []+x*y;show x*y+0=0+x*y;omega
 |x::vs,y::row,k+1,v,w,aa,ab=>by
  have:=Rl (vs:=vs) (row:=row) (k:=k) aa ab;show x*y+nH (vs.take (k+1)) (row.take (k+1))=x*y+nH (vs.take k) (row.take k)+v*w;omega
 |[],_,0,_,_,h,_=>by cases h
 |[],_,_+1,_,_,h,_=>by cases h
 |_::_,[],0,_,_,_,h=>by cases h
 |_::_,[],_+1,_,_,_,h=>by cases h
section
variable {Q:db Tryz.prog}{g0:Nat}{J:aA}
variable {g:bp}{aT bi cT dd:Option Addr}{aP ci ck ac bK cj cE di a1 c7 dh dk c3 dG c8 dn dQ:Nat}{va dy vs ee:Value}{p r sd:Int}{cS cG:List Int}
theorem aiT{i:Nat}{x:cH}(hw:hV g)(ar:hB J g aT aP bi ci)(I:g.ns[i]?=some x)(aH:x.k=3)(k9:0<=p)(k':p<g.pl)(lC:cG.length=dn)(ak:i<dn):
 Fn (a2 Q g0) 125 [.pointer (some ⟨ck,0,none⟩),.int .i64 (i:Int)] [(ck,.row (ed ac va r sd cT dk c3 ee dd dG c8 bK dn dQ cS) 73),(ac,.row (c6 g aT aP bi ci dy p cj cE di a1 c7 dh vs) 80),bM bK cG] J (fun v m' ag=>m'=[(ck,.row (ed ac va r sd cT dk c3 ee dd dG c8 bK dn dQ cS) 73),(ac,.row (c6 g aT aP bi ci dy p cj cE di a1 c7 dh vs) 80),bM bK (cG.set i (x.gw.getD p.toNat 0*1024))]/\J=ag):=by
 have jg:=(dv.1 I).1;obtain⟨hv,off,m1,ne,bE,bx,bS,bT,cJ,dA,rfl,tL,jR⟩:=ar.node I;obtain⟨gX,a',bd,bz,cM,ha,aa,ab,aK⟩:=jR;have nV:(x.gw.length:Int)=g.pl/\∀w∈x.gw,-3<=w/\w<=3:=by
  rcases hw.kind x (cV I) with⟨_,_,h,jf⟩|⟨h,_⟩|⟨h,_⟩
  ·exact⟨h,jf⟩
  ·omega
  ·omega
 obtain⟨al5,zX,amo,yY,rfl,am0,ads⟩:=aK.zY (by omega);obtain⟨w,BH,sz⟩:=ads p.toNat (by omega);have TC:=nV.2 w (cV BH);refine Fn.dw (dB Tryz.func125) rfl rfl fun H=>?_;refine aJ ?_;refine ae.draw rfl (by kernel_rfl) (a8:=[.val 0,.val 1,.val 2,.val 3,.val 4,.val 5,.val 6,.val 7,.val 8,.val 9,.val 10,.val 11,.val 12,.val 13,.val 14,.val 15,.val 16,.val 17,.val 18,.val 19,.val 20,.val 21,.val 22,.val 23,.val 24,.val 25,.val 26,.val 27,.cv 28]) (by kernel_rfl) ?_;refine cm ?_;refine aB rfl V.a9 ?_;refine cm ?_;refine aB rfl V.a9 ?_;refine cm ?_;refine aB rfl V.a9 ?_;refine aB rfl V.az ?_;refine aB rfl V.bf ?_;refine aB rfl V.bU ?_;refine aB rfl V.a9 ?_;refine cm ?_;refine aB rfl V.a9 ?_;refine cm ?_;refine aB rfl V.a9 ?_;refine aB rfl V.bf ?_;refine aB rfl V.a9 ?_;refine aB rfl V.va ?_;refine aB rfl V.bf ?_;refine' a3.ij rfl rfl (jY rfl rfl rfl rfl (h' rfl) rfl rfl rfl ?aa ?al ?au ?_);case au=>repeat first|exact .head _ _ _ _|apply dc.tail|apply dc.app
 case al=>exact pC i (by omega)
 case aa=>first|rfl|assumption
 refine a3.nil ?_;refine'⟨.inl rfl,rfl,_,_,.nil,bV _,⟨by rw[getD_some BH],rfl⟩⟩
theorem Wf{i k:Nat}{hr:Int}(lC:cG.length=dn)(ak:i<dn)(aH:cG[k]?=some hr):
 Fn (a2 Q g0) 127 [.pointer (some ⟨ck,0,none⟩),.int .i64 (i:Int),.int .i64 (k:Int)] [(ck,.row (ed ac va r sd cT dk c3 ee dd dG c8 bK dn dQ cS) 73),bM bK cG] J (fun v m' ag=>m'=[(ck,.row (ed ac va r sd cT dk c3 ee dd dG c8 bK dn dQ cS) 73),bM bK (cG.set i hr)]/\J=ag):=by
 have ano:=(dv.1 aH).1;have MP:nth (cG.map (Value.int .i64)) (0+((k:Nat):Int).toNat*1)=some (.int .i64 hr):=n3 k (by rw[gG,aH];rfl) (by omega);refine Fn.dw (dB Tryz.func127) rfl rfl fun H=>?_;refine aJ ?_;refine ae.draw rfl (by kernel_rfl) (a8:=[.val 0,.val 1,.val 2,.val 3,.val 4,.val 5,.val 6,.val 7,.val 8,.val 9,.val 10,.val 11,.val 12,.cv 13]) (by kernel_rfl) ?_;refine cm ?_;refine aB rfl V.a9 ?_;refine cm ?_;refine aB rfl V.a9 ?_;refine aB rfl V.az ?_;refine aB rfl V.bf ?_;refine aB rfl V.a9 ?_;refine aB rfl V.bf ?_;refine' a3.ij rfl rfl (jY rfl rfl rfl rfl (h' rfl) rfl rfl rfl ?aa ?al ?au ?_);case au=>repeat first|exact .head _ _ _ _|apply dc.tail|apply dc.app
 case al=>exact pC i (by omega)
 case aa=>first|rfl|assumption
 refine a3.nil ?_;refine'⟨.inl rfl,rfl,_,_,.nil,bV _,⟨rfl,rfl⟩⟩
theorem X9{row vs:List Int}{v a b:Int}{k:Nat}(aa:row[k]?=some a)(ab:vs[k]?=some b):(nC row vs v)[k]?=some (a+(b -v)):=by unfold nC;rw[J8,aa,ab]
theorem Vd{α:Type}{s c v h u:α}:[s,c,v,h,u].Perm (u::[s,c,v,h]):=by open Classical in exact iu
theorem ajf{i k mJ mv r3 rG ja jb Rf:Nat}{cw:List Nat}{x:cH}{wX u3:List Value}{AR yR:TypeId}{et mG:List Int}(hw:hV g)(ar:hB J g aT aP bi ci)(I:g.ns[i]?=some x)(aH:x.k=2)(hn:x.i=(k:Int))(lC:cG.length=dn)(ak:i<dn)(am6:dn=g.ns.length)(L3:∀c∈x.af,-3072<=cG.getD c.toNat 0/\cG.getD c.toNat 0<=3072)
 (acN:dd=some ⟨mJ,mv,none⟩)(amV:J mJ=some (wX,AR))(ank:k<dG)(acV:nth wX (mv+k*1)=some (.slice (some ⟨ja,0,none⟩) et.length et.length))(xc:et.length=x.af.length)(xb:∀w∈et,0<=w/\w<=65536)(Ep:et.sum=65536)
 (acO:cT=some ⟨r3,rG,none⟩)(ab':J r3=some (u3,yR))(anm:k<dk)(acW:nth u3 (rG+k*1)=some (.slice (some ⟨jb,0,none⟩) mG.length Rf))(Ss:mG.length=x.af.length)(L1:∀w∈mG,-1000000000000<=w/\w<=1000000000000):
 Fn (a2 Q g0) 126 [.pointer (some ⟨ck,0,none⟩),.int .i64 (i:Int)] [(ck,.row (ed ac va r sd cT dk c3 ee dd dG c8 bK dn dQ cS) 73),(ac,.row (c6 g aT aP bi ci dy p cj cE di a1 c7 dh vs) 80),bM bK cG,bM ja et,iv jb mG cw] J (fun v m' ag=>(∃g1,m'=[(ck,.row (ed ac va r sd cT dk c3 ee dd dG c8 bK dn dQ cS) 73),(ac,.row (c6 g aT aP bi ci dy p cj cE di a1 c7 dh vs) 80),bM bK (cG.set i (kD (x.af.map fun c=>cG.getD c.toNat 0) et)),bM ja et,iv jb (nC mG (x.af.map fun c=>cG.getD c.toNat 0) (kD (x.af.map fun c=>cG.getD c.toNat 0) et)) g1])/\J=ag):=by
 subst acN;subst acO;have jg:=(dv.1 I).1;have vz:=hw.kids i x I;obtain⟨hv,off,m1,ne,bE,bx,bS,bT,cJ,dA,rfl,tL,jR⟩:=ar.node I;obtain⟨gX,a',bd,bz,cM,ha,aa,ab,aK⟩:=jR;have df:1<=x.af.length/\x.af.length<=3:=by
  rcases hw.kind x (cV I) with⟨h,_⟩|⟨h,_⟩|⟨_,h,jf,_⟩
  ·omega
  ·omega
  ·exact⟨h,jf⟩
 obtain⟨GU,pz,G9,ex,rfl,Ej,tW⟩:=aa.zY (by omega);obtain⟨iF,qg⟩:∃l,l=x.af.map fun c=>cG.getD c.toNat 0:=⟨_,rfl⟩;have vG:iF.length=x.af.length:=by rw[qg,ig]
 have Tv:∀(a:Nat) (c:Int),x.af[a]?=some c->iF[a]?=some (cG.getD c.toNat 0):=fun a c h=>by rw[qg,gG,h];rfl
 have St:∀c∈x.af,cG[c.toNat]?=some (cG.getD c.toNat 0):=fun c av=>by
  have:=vz c av;rw[oe,du (by omega)];rfl
 have xx:∀v∈iF,-3072<=v/\v<=3072:=fun v ap=>by
  rw[qg] at ap;obtain⟨c,av,rfl⟩:=m8.1 ap;exact L3 c av
 have anL:=UZ (vs:=iF) (row:=et) (b:=3072) (by decide) xx (fun w h=>(xb w h).1) Ep;have aeJ:IntKind.i64.wrap ((nH iF et).tdiv 65536)=kD iF et:=wrap_i64 (n:=kD iF et) (by omega) (by omega);have am8:nth wX (mv+x.i.toNat*1)=some (.slice (some ⟨ja,0,none⟩) et.length et.length):=by rw[hn,ea];exact acV
 have am9:nth u3 (rG+x.i.toNat*1)=some (.slice (some ⟨jb,0,none⟩) mG.length Rf):=by rw[hn,ea];exact acW
 rw[<-qg];refine Fn.dw (dB Tryz.func126) rfl rfl fun H=>?_;refine rg ?_;refine aV ?_;refine U V.bL ?_;refine aV ?_;refine U V.bL ?_;refine U V.az ?_;refine U V.bf ?_;refine U V.a7 ?_;refine bP ?_;refine U V.a7 ?_;refine bP ?_;refine aV ?_;refine U V.bL ?_;refine aV ?_;refine ns ?_;refine ae.block ?_;refine' ae.fy (l':=[(5,.int .i64 (nH (iF.take (0)) (et.take (0)))),(25,.int .i64 ((0):Int)),(0,_),(1,_),(4,_),(23,_),(24,_)]) ⟨?wj,?W6,rfl,rfl,rfl,rfl,rfl,trivial⟩ (bV _) ?_;case wj=>exact ec
 case W6=>exact ec
 refine aJ ?_;refine' ae.cf (fun(a:Nat)=>⟨[(5,.int .i64 (nH (iF.take a) (et.take a))),(25,.int .i64 (a:Int))],[(ck,.row (ed ac va r sd (some ⟨r3,rG,none⟩) dk c3 ee (some ⟨mJ,mv,none⟩) dG c8 bK dn dQ cS) 73),(ac,.row (c6 g (some ⟨hv,off,none⟩) aP bi ci dy p cj cE di a1 c7 dh vs) 80),bM bK cG,bM ja et,iv jb mG cw],J,a<=x.af.length/\-(201326592*(a:Int))<=nH (iF.take a) (et.take a)/\nH (iF.take a) (et.take a)<=201326592*a,x.af.length -a⟩) (0) ?al ?cp;case al=>exact⟨dV _,by show -(201326592*((0:Nat):Int))<=0;decide,by show(0:Int)<=201326592*((0:Nat):Int);decide⟩
 case cp=>
  rintro a hinv;try simp only at hinv
  obtain⟨aW,SI,SJ⟩:=hinv;refine rg ?_;refine U V.bm ?_;refine ns ?_;refine If (fun r'=>?_) fun r'=>?_
  ·obtain⟨ca,gi,Br⟩:=tW a (by omega);have lD:=cV gi;have Ex:=vz ca lD;have ua:=St ca lD;have zz:=Tv a ca gi;generalize cG.getD ca.toNat 0=hr at ua zz;have MP:nth (cG.map (Value.int .i64)) (0+ca.toNat*1)=some (.int .i64 hr):=n3 ca.toNat (by rw[gG,ua];rfl) (by omega);obtain⟨w,BH⟩:∃w,et[a]?=some w:=⟨_,du (by omega)⟩;have TC:=xb w (cV BH);have Tw:=xx hr (cV zz);have sz:nth (et.map (Value.int .i64)) (0+((a:Nat):Int).toNat*1)=some (.int .i64 w):=n3 a (by rw[gG,BH];rfl) (by omega);have EN:=ahX (v:=hr) (w:=w) (b:=3072) (by omega) Tw.2 TC.1;have anf:=Rl zz BH;refine gn ?_;refine aJ ?_;refine ae.block ?_;refine rg ?_;refine U V.az ?_;refine U V.bf ?_;refine U V.bL ?_;refine aV ?_;refine ns ?_;refine ae.draw rfl (by kernel_rfl) (a8:=[.val 0,.val 1,.val 2,.val 3,.val 4,.val 5,.val 6,.val 7,.val 8,.val 9,.val 10,.val 11,.val 12,.val 13,.val 14,.val 15,.val 16,.val 17,.val 18,.val 19,.val 20,.val 21,.val 22,.cv 23]) (by kernel_rfl) ?_;refine cm ?_;refine aB rfl V.bL ?_;refine aB rfl V.az ?_;refine aB rfl V.bf ?_;refine aB rfl V.bL ?_;refine cm ?_;refine aB rfl V.bL ?_;refine cm ?_;refine aB rfl V.bL ?_;refine aB rfl V.bf ?_;refine aB rfl V.bL ?_;refine aB rfl V.az ?_;refine aB rfl V.bf ?_;refine aB rfl V.bL ?_;refine aB rfl V.va ?_;refine aB rfl V.va ?_;refine Gl rfl V.a7 ?_;refine a3.nil ?_;refine rg ?_;refine U V.va ?_;refine U V.az ?_;refine bu ?_;refine e2 (a+1) ?_;exact⟨by omega,by omega,by omega⟩
  ·obtain rfl:a=x.af.length:=by omega
   refine aJ ?_;refine ae.exit ?_;have aD:iF.take x.af.length=iF:=fZ (by omega);have a5:et.take x.af.length=et:=fZ (by omega);rw[aD,a5];refine rg ?_;refine U V.az ?_;refine U V.tz ?_;refine U V.a7 ?_;refine bu ?_;rw[aeJ];refine rg ?_;refine aV ?_;refine U V.bL ?_;refine aV ?_;refine U V.bf ?_;refine' W.step rfl (.of (jY rfl rfl rfl rfl (h' rfl) rfl rfl rfl ?aa ?al ?au ?_));case au=>repeat first|exact .head _ _ _ _|apply dc.tail|apply dc.app
   case al=>exact pC i (by omega)
   case aa=>first|rfl|assumption
   refine bP ?_;refine aV ?_;refine U V.bL ?_;refine aV ?_;refine ns ?_;refine ae.block ?_;refine' ae.fy (l':=[(68,.int .i64 ((0):Int)),(0,_),(4,_),(5,_),(66,_),(67,_)]) ⟨?akX,rfl,rfl,rfl,rfl,rfl,trivial⟩ (bV _) ?_;case akX=>exact ec
   refine aJ ?_;refine' ae.cf (fun(cU:Nat×(List Nat))=>match cU with|(a,g1)=>⟨[(68,.int .i64 (a:Int))],[(ck,.row (ed ac va r sd (some ⟨r3,rG,none⟩) dk c3 ee (some ⟨mJ,mv,none⟩) dG c8 bK dn dQ cS) 73),(ac,.row (c6 g (some ⟨hv,off,none⟩) aP bi ci dy p cj cE di a1 c7 dh vs) 80),bM bK (cG.set i (kD iF et)),bM ja et,iv jb ((nC mG iF (kD iF et)).take a++mG.drop a) g1],J,a<=x.af.length,x.af.length -a⟩) ⟨0,cw⟩ ?al ?cp
   case al=>exact dV _
   case cp=>
    rintro⟨a,g1⟩ hinv;try simp only at hinv
    have aW:=hinv;refine rg ?_;refine U V.bm ?_;refine ns ?_;refine If (fun yE=>?_) fun yE=>?_
    ·obtain⟨ca,gi,Br⟩:=tW a (by omega);have lD:=cV gi;have Ex:=vz ca lD;have ua:=St ca lD;have zz:=Tv a ca gi;generalize cG.getD ca.toNat 0=hr at ua zz;have Tw:=xx hr (cV zz);have MP:nth ((cG.set i (kD iF et)).map (Value.int .i64)) (0+ca.toNat*1)=some (.int .i64 hr):=n3 ca.toNat (by rw[gG,j1,aq (by omega),ua];rfl) (by omega);obtain⟨u,hu⟩:∃w,mG[a]?=some w:=⟨_,du (by omega)⟩;have aeA:=L1 u (cV hu);have vm:=GP (row:=mG) (vs:=iF) (v:=kD iF et) (by omega);have acB:=X9 (v:=kD iF et) hu zz;have zu:nth (((nC mG iF (kD iF et)).take a++mG.drop a).map (Value.int .i64)) (0+((a:Nat):Int).toNat*1)=some (.int .i64 u):=n3 a (by rw[gG,rY (by rw[fc];omega),fc,o2,show a+(a -min a (nC mG iF (kD iF et)).length)=a by omega,hu];rfl) (by omega);refine gn ?_;refine aJ ?_;refine ae.block ?_;refine rg ?_;refine U V.az ?_;refine U V.bf ?_;refine U V.bL ?_;refine aV ?_;refine ns ?_;refine ae.draw rfl (by kernel_rfl) (a8:=[.val 0,.val 1,.val 2,.val 3,.val 4,.val 5,.val 6,.val 7,.val 8,.val 9,.val 10,.val 11,.val 12,.val 13,.val 14,.val 15,.val 16,.val 17,.val 18,.val 19,.val 20,.val 21,.val 22,.val 23,.val 24,.cv 25]) (by kernel_rfl) ?_;refine cm ?_;refine aB rfl V.bL ?_;refine cm ?_;refine aB rfl V.bL ?_;refine aB rfl V.bf ?_;refine aB rfl V.bL ?_;refine aB rfl V.az ?_;refine aB rfl V.bf ?_;refine aB rfl V.bL ?_;refine cm ?_;refine aB rfl V.bL ?_;refine aB rfl V.az ?_;refine aB rfl V.bf ?_
     refine aB rfl V.bL ?_;refine aB rfl V.az ?_;refine aB rfl V.va ?_;refine aB rfl V.va ?_;refine aB rfl V.bf ?_;refine' a3.ij rfl rfl (CD rfl rfl rfl rfl (h' rfl) rfl rfl rfl ?aa ?al ?bC ?au ?_);case au=>exact Vd
     case al=>exact pC a (by rw[er,fc,jJ];omega)
     case aa=>first|rfl|assumption
     case bC=>exact dV _
     refine a3.nil ?_;rw[Ab (by omega) acB];refine ae.gZ Vd ?_;refine rg ?_;refine U V.va ?_;refine U V.az ?_;refine bu ?_;refine e2 ⟨a+1,[]⟩ ?_;exact(by omega)
    ·obtain rfl:a=x.af.length:=by omega
     have vm:=GP (row:=mG) (vs:=iF) (v:=kD iF et) (by omega);have vv:(nC mG iF (kD iF et)).take x.af.length++mG.drop x.af.length=nC mG iF (kD iF et):=by rw[fZ (by omega),wv (by omega),fb]
     refine aJ ?_;refine ae.exit ?_;refine'⟨.inl rfl,rfl,_,_,.nil,bV _,⟨⟨g1,by show[_,_,_,_,iv jb (List.take _ _++_) g1]=_;rw[vv]⟩,rfl⟩⟩
end
section
variable {Q:db Tryz.prog}{g0:Nat}{J:aA}
end
section
variable {K:eN}{B:dO}{R:qN}{ops:List Oper}{a8:List iW}{E:b9}{m m':aI}{J:aA}{o:Oper}{bD:b9->aI->aA->Prop}{i:Nat}
end
section
variable {Q:db Tryz.prog}{g0:Nat}{B:dO}{R:qN}{ops:List Oper}{a8:List iW}{n:Nat}{ds:eQ}{l:List (Nat×Value)}{m m':aI}{J:aA}{o:Oper}{bD:b9->aI->aA->Prop}{i:Nat}
end
section
variable {Q:db Tryz.prog}{g0:Nat}{J:aA}
end
theorem ahb{α:Type}{pre bs R:List α}{i:Nat}{x:α}(h:bs[i]?=some x):(pre++(bs++R)).Perm (x::(pre++(bs.eraseIdx i++R))):=by
 have aa:(bs++R).Perm (x::(bs.eraseIdx i++R)):=(ahu h).append_right R;exact(aa.append_left pre).trans Au
theorem ahc{α:Type}{pre bs R:List α}{i:Nat}{x y:α}(h:bs[i]?=some x):(pre++(bs.set i y++R)).Perm (y::(pre++(bs.eraseIdx i++R))):=by
 have aa:(bs.set i y++R).Perm (y::(bs.eraseIdx i++R)):=(ahq h y).symm.append_right R;exact(aa.append_left pre).trans Au
section
variable {Q:db Tryz.prog}{g0:Nat}{J:aA}
end
section
variable {Q:db Tryz.prog}{g0:Nat}{J:aA}
end
theorem FL{α:Type}{d:List α}{x w:α}{i n:Nat}(aS:d.length=i)(ak:i<n):(d++List.replicate (n -i) x).set i w=(d++[w])++List.replicate (n -(i+1)) x:=by
 rw[show n -i=(n -(i+1))+1 by omega,List.replicate_succ,Gv _ _ (by omega),aS,ta];simp
theorem FK{α:Type}{d:List α}{x:α}{i n:Nat}(aS:d.length=i):(d++List.replicate (n -i) x).length=i+(n -i):=by rw[er,kJ,aS]
section
variable {Q:db Tryz.prog}{g0:Nat}{J:aA}
open Classical in
theorem QH{g:bp}{aT bi:Option Addr}{aP ci:Nat}(hw:hV g)(ar:hB J g aT aP bi ci):
 Fn (a2 Q g0) 36 [p0 g aT aP bi ci] [] J (fun u m' ag=>J.le ag/\∃bl bs,m'=je bl g aT aP bi ci::bs/\fk k1 ag 22 u (jl g) bs):=by
 have kZ:addrEq bi bi=true:=ar.i.addr;have lj:addrEq aT aT=true:=ar.n.addr;obtain⟨_,nk⟩:=ar.i.at;have pn:=hw.i2;refine Fn.dw (dB Tryz.func36) rfl rfl fun H=>?_;refine rg ?_;refine fG fun bl=>?_;refine U V.a7 ?_;refine bP ?_;refine U V.bU ?_;refine U V.bL ?_;refine U V.cr ?_;refine' W.step rfl (.of (CC rfl rfl rfl rfl rfl (sX Q g0) ?bt ?aa ?ab fun gx=>?_));case bt=>exact cQ
 case aa=>exact cQ
 case ab=>exact cQ
 refine U V.a7 ?_;refine bu ?_;rw[yj,ea];refine rg ?_;refine U V.bU ?_;refine U V.bL ?_;refine aV ?_;refine ns ?_;refine ae.block ?_;refine' ae.fy (l':=[(13,.int .i64 ((0):Int)),(3,_),(11,_),(12,_)]) ⟨?F7,rfl,rfl,rfl,trivial⟩ (bV _) ?_;case F7=>exact ec
 refine aJ ?_;refine' ae.cf (fun(cU:Nat×(List Value)×aI)=>match cU with|(i,d,bs)=>⟨[(13,.int .i64 (i:Int))],(gx,.row (d++List.replicate (g.is.length -i) (.slice none 0 0)) 22)::(bs++[je bl g aT aP bi ci]),J,i<=g.is.length/\lJ k1 ((jl g).take i) d bs,g.is.length -i⟩) ⟨0,[],[]⟩ ?al ?cp
 case al=>exact⟨dV _,lJ.nil⟩
 case cp=>
  rintro⟨i,d,bs⟩ hinv;try simp only at hinv
  obtain⟨ak,dF⟩:=hinv;refine rg ?_;refine U V.bm ?_;refine ns ?_;refine If (fun ng=>?_) fun ng=>?_
  ·obtain⟨j6,n4,yI,yS,rfl,nM,oy⟩:=nk (by omega);obtain⟨y,yK,ah,xf,rc,rfl⟩:=oy i (by omega) (by omega);rw[ea] at ah;have E5:=hw.tj y (cV ah);have tT:d.length=i:=by rw[dF.1,fc,qH];omega
   refine gn ?_;refine aJ ?_;refine ae.block ?_;refine rg ?_;refine U V.az ?_;refine U V.bf ?_;refine U V.qk ?_;refine' W.step rfl (.of (ic rfl rfl rfl (Gf Q g0) rfl rfl rfl fun c2=>?_));refine U V.a7 ?_;refine fF ?_;refine bP ?_;refine aV ?_;refine U V.bL ?_;refine' W.step rfl (.of (CC rfl rfl rfl rfl rfl (hL Q g0) ?bt ?aa ?ab fun C7=>?_));case bt=>exact cQ
   case aa=>exact cQ
   case ab=>exact cQ
   refine U V.bf ?_;refine' W.step rfl (.of (jY rfl rfl rfl rfl (h' rfl) rfl rfl rfl ?aa ?al ?au ?_));case au=>repeat first|exact .head _ _ _ _|apply dc.tail|apply dc.app
   case al=>exact x6 i (by rw[FK tT];omega)
   case aa=>first|rfl|assumption
   refine bu ?_;rw[yi,FL tT (by omega)];refine ae.e7 (m':=(gx,.row ((d++[.slice (some ⟨C7,0,none⟩) y.2.toNat y.2.toNat])++List.replicate (g.is.length -(i+1)) (.slice none 0 0)) 22)::((bs++[(C7,.row ((List.replicate y.2.toNat 0).map (Value.int .i64)) 3)])++[je bl g aT aP (some ⟨j6,n4,none⟩) ci])) (lZ:=[(c2,.row [.int .i64 y.1,.int .i64 y.2] 87)]) iu ?_;refine rg ?_;refine U V.va ?_;refine U V.az ?_;refine bu ?_;refine e2 ⟨i+1,d++[.slice (some ⟨C7,0,none⟩) y.2.toNat y.2.toNat],bs++[(C7,.row ((List.replicate y.2.toNat 0).map (Value.int .i64)) 3)]⟩ ?_;exact⟨by omega,dF.take (JP ah) ⟨C7,by rw[kJ],by rw[kJ];exact r1 (show y.2.toNat<=100 by omega) (by decide),rfl⟩⟩
  ·refine aJ ?_;refine ae.exit ?_;obtain rfl:i=g.is.length:=by omega
   have sx:=qH (g:=g);refine ae.gZ (m':=(gx,.row d 22)::(bs++[je bl g aT aP bi ci])) (by show List.Perm _ ((gx,.row (d++List.replicate (g.is.length -g.is.length) (.slice none 0 0)) 22)::(bs++[je bl g aT aP bi ci]));rw[ta,PU,fb]) ?_;rw[fZ (by omega)] at dF;refine ae.lH rfl fun fu=>?_;refine ae.gZ (m':=je bl g aT aP bi ci::bs) ahr ?_;refine rg ?_;refine aV ?_;refine ns ?_;refine ae.ret ?_;refine'⟨.inr rfl,rfl,_,_,.tmp rfl .nil,bV _,?_⟩;refine⟨fu,bl,bs,rfl,dF.d2 ?_⟩;have tT:d.length=g.is.length:=by rw[dF.1,qH]
   rw[qH];exact .row (aA.mf J gx (d,22)) (by rw[m7,fZ (by omega)]) (by omega) (fun _=>⟨dH _,r1 pn (by decide)⟩) (fun _=>rfl)
open Classical in
theorem aj2{g:bp}{aT bi:Option Addr}{aP ci:Nat}(hw:hV g)(ar:hB J g aT aP bi ci)(au:rK g=0):
 Fn (a2 Q g0) 18 [p0 g aT aP bi ci] [] J (fun u m' ag=>J.le ag/\∃bE kG bx bS nx bT s1 s2,kG=g.is.length/\nx=g.is.length/\u=.tuple #[.agg #[.int .i64 0,.int .i64 0,.slice bE kG bx,.slice bS nx bT],.int .i64 0]/\m'=s1++s2/\fk k1 ag 22 (.slice bE kG bx) (jl g) s1/\fk k1 ag 22 (.slice bS nx bT) (jl g) s2):=by
 have kZ:addrEq bi bi=true:=ar.i.addr;have lj:addrEq aT aT=true:=ar.n.addr;refine Fn.dw (dB Tryz.func18) rfl rfl fun H=>?_;refine rg ?_;refine fG fun bl=>?_;refine' W.step rfl (.of (ic rfl rfl rfl (yg Q g0) rfl rfl rfl fun bF=>?_));refine U V.a7 ?_;refine bP ?_;refine U V.hb ?_;refine cl (G:=Vr ar) (h:=?_);rintro v m' cN eL ⟨rfl,rfl,_⟩;refine U V.a7 ?_;refine bP ?_;refine U V.az ?_;refine U V.bm ?_;refine ns ?_;refine If (fun yF=>?_) fun yF=>?_
 ·exfalso;exact yF au
 ·refine aJ ?_;refine ae.skip ?_;refine aJ ?_;refine ae.draw rfl (by kernel_rfl) (a8:=[.val 0,.val 2,.cv 1,.c9 [2],.cv 3,.val 4,.cv 5,.val 6]) (by kernel_rfl) ?_;refine aB rfl V.hb ?_;refine aB rfl V.hb ?_;refine a3.IX ?_;refine' gT.G4 rfl rfl rfl rfl rfl rfl rfl rfl rfl (fun x I=>by cases I) Xj (QH hw (ar.mono eL)) ?_;rintro v m' hs fu ⟨_,h4,s1,rfl,nL⟩;obtain⟨bE,kG,bx,rfl,TM⟩:=nL.len;refine gT.c9 g7 ?_;refine' gT.G4 rfl rfl rfl rfl rfl rfl rfl rfl rfl (fun x I=>by rcases ft.1 I with rfl|I;rfl;cases I) Xj (QH hw ((ar.mono eL).mono fu)) ?_;rintro v m' mA gO ⟨_,hd,s2,rfl,lU⟩;obtain⟨bS,nx,bT,rfl,lX⟩:=lU.len;rw[qH] at TM lX;refine gT.IW (fun x I=>CW (f:=fun x=>(x.f,x.bJ)) I) ?_;refine aB rfl V.lp ?_;refine m6 rfl ?_;refine aB rfl V.a7 ?_;refine a3.nil ?_;refine ae.e7 (m':=(s1++s2)++[(bF,.row [.int .i64 0,.int .i64 0,.slice bE kG bx,.slice bS nx bT] 32),je bl g aT aP bi ci]) (lZ:=[je hd g aT aP bi ci,je h4 g aT aP bi ci]) (iu (r:=(je hd g aT aP bi ci::s2)++((je h4 g aT aP bi ci::s1)++[(bF,.row [.int .i64 0,.int .i64 0,.slice bE kG bx,.slice bS nx bT] 32),je bl g aT aP bi ci]))) ?_;refine aJ ?_;refine ae.ret ?_;refine'⟨.inr rfl,rfl,_,_,.cell rfl (by repeat first|exact .head _|refine .tail _ ?_|refine lm _ ?_) (v5 (hh rfl) rfl) (.tmp rfl .nil),oh _ _,⟨eL.trans (fu.trans gO),bE,kG,bx,bS,nx,bT,s1,s2,TM,lX,rfl,rfl,nL.mono gO,lU⟩⟩
end
theorem fk.BQ{J:aA}{e:TypeId}{b:Option Addr}{n c i:Nat}{cr:List (List Int)}{bs:aI}(h:fk k1 J e (.slice b n c) cr bs)(ak:i<cr.length):∃a off cells bn ad l,b=some ⟨a,off,none⟩/\J a=some (cells,bn)/\cr[i]?=some l/\nth cells (off+i*1)=some (.slice (some ⟨ad,0,none⟩) l.length l.length)/\bs[i]?=some (ad,cI.row (l.map (Value.int .i64)) 3)/\
 ∀l':List Int,l'.length=l.length->fk k1 J e (.slice b n c) (cr.set i l') (bs.set i (ad,.row (l'.map (Value.int .i64)) 3)):=by
 obtain⟨b',b1,ap,ab⟩:=h.at;injection ap with M' ub Na
 subst M';subst ub;subst Na;obtain⟨a,off,cells,bn,rfl,a',bd⟩:=ab (by omega);obtain⟨l,w,x,aZ,aR,bY,ep,gl⟩:=bd i ak;obtain⟨ad,rfl,rfl,kY⟩:=ep.row;exact⟨a,off,cells,bn,ad,l,rfl,a',aZ,aR,bY,fun l' de=>gl _ _ (kY l' de)⟩
end
end Go.Opn
