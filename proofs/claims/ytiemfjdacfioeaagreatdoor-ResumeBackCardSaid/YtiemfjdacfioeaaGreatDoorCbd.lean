/- A part of the proof of ResumeBack. -/
import Derived.Test.YtiemfjdacfioeaaGreatDoorCbc
set_option maxRecDepth 100000
set_option maxHeartbeats 4000000
set_option linter.unusedVariables false
set_option linter.unusedSimpArgs false
namespace Go.Opn
noncomputable section
open Go.Cre Go.RowKit Go.Proofs
theorem ij.mono{m:aO}{J ag:aI}(hle:J.le ag){a:Nat}{cells:List Value}(h:ij m J a cells):ij m ag a cells:=by
 cases h with
 |own h=>exact .own h
 |opn h=>exact .opn h
 |fz h=>exact .fz (hle _ _ h)
theorem Q'{g:bz}{i:Int}{x:Int}(h:x∈eJ i 0 g.ns):∃c:Nat,x=(c:Int)/\∃y,g.ns[c]?=some y/\y.k=2/\y.i=i:=by
 have key:∀(l:List cS) (n:Nat),x∈eJ i n l->∃c:Nat,x=((n+c:Nat):Int)/\∃y,l[c]?=some y/\y.k=2/\y.i=i:=by
  intro l;induction l with
  |nil=>intro n h;cases h
  |cons y r aK=>
   intro n h;unfold eJ at h;have Cp:x∈eJ i (n+1) r->∃c:Nat,x=((n+c:Nat):Int)/\∃z,(y::r)[c]?=some z/\z.k=2/\z.i=i:=fun q=>by
        obtain⟨c,aa,z,ae,aG⟩:=aK (n+1) q;exact⟨c+1,by rw[aa];omega,z,by rw[yr];exact ae,aG⟩
   split at h
   ·rename_i ai
    rcases fg.1 h with q|q
    ·exact⟨0,by rw[q];rfl,y,rfl,ai⟩
    ·exact Cp q
   ·exact Cp h
 obtain⟨c,aa,ae⟩:=key g.ns 0 h;exact⟨c,by rw[aa];omega,ae⟩
section
variable {Q:dI Tryz.prog}{g0:Nat}{J:aI}
def v7(g:bz)(P:List Int)(p:Int)(s:List Int):Prop:=∀x∈s,gF g P p x.toNat=gF g P p (fc s).toNat
open Classical in
theorem ano{dd df ad cg:Nat}{g:bz}{aT aL:Option Addr}{aQ ci:Nat}{P:List Int}{a9:Nat}{info:Nat}{y:Int×Int}{b:Option Addr}{c:Nat}{s:List Int}
 (aq:fG J g aT aQ aL ci)(hw:u2 J dd df ad cg g aT aQ aL ci P)(aD:Tree g P)(dn:g.ns.length<=2000)(nJ:∀x∈g.ns,x.ak.length<=60)(ai:g.is[info]?=some y)(af:dG J (.slice b s.length c) s)(jB:s.length<=2000)(BA:s≠[])(lC:∀x∈s,∃c:Nat,x=(c:Int)/\c<g.ns.length):
 Fn (bb Q g0) 85 [.agg #[.pointer (some ⟨dd,0,none⟩),.func (.func 83) #[] #[.pointer (some ⟨a9,0,none⟩)]],.int .i64 (info:Int),.slice b s.length c] [(a9,.row [.bool true] 4)] J (fun u m' ag=>u=.bool (decide (v7 g P y.1 s))/\m'=[(a9,.row [.bool (decide (v7 g P y.1 s))] 4)]/\J.le ag):=by
 obtain⟨_,kt⟩:=aq.i.at;have fW:addrEq aL aL=true:=aq.i.addr;have gn:addrEq aT aT=true:=aq.n.addr;have sV:addrEq b b=true:=by obtain⟨e,h⟩:=af;exact h.addr
 have zn:=hw.w;have oT:=(dX.1 ai).1;obtain⟨ha,XM,vf,vm,rfl,mu,lZ⟩:=kt (by omega);obtain⟨iM,wT,hf,tU,l1,rfl⟩:=lZ info (by omega) (by omega);rw[cy,ai] at hf;injection hf with hf;subst hf
 have Hg:=l1 0 _ (by decide) rfl;have k':0<s.length:=Fw.2 BA;have j':=af.iB [];obtain⟨S0,Lp,TR,rfl,zj,Bo⟩:=j' k';obtain⟨kG,ky,Hq⟩:=Bo 0 (by omega) (by omega);have zo:s[0]?=some kG:=ky;have sy:=DU zo;obtain⟨dU,ho,DR⟩:=lC kG (cd zo);subst ho;refine Fn.cH (cQ Tryz.func85) rfl rfl fun H=>?_;refine rg ?_;refine dJ fun a3=>?_;refine dJ fun a4=>?_;refine I V.aA ?_;refine ns ?_;refine ab.draw rfl (by kernel_rfl) (bf:=[.val 0,.val 1,.val 2,.val 3,.val 4,.val 5,.val 6,.val 7,.val 8,.val 9,.val 10]) (by kernel_rfl) ?_;refine an rfl V.bc ?_;refine an rfl V.aF ?_;refine cq ?_;refine an rfl V.aF ?_;refine an rfl V.aF ?_;refine an rfl V.aX ?_;refine an rfl V.bc ?_;refine an rfl V.aF ?_;refine an rfl V.aA ?_;refine a7.nil ?_;refine aj ?_;refine ab.draw rfl (by kernel_rfl) (bf:=[.val 0,.val 1,.val 2,.val 3,.val 4,.val 5,.bV 6,.val 7]) (by kernel_rfl) ?_;refine an rfl V.bc ?_;refine an rfl V.aF ?_;refine an rfl V.ah ?_;refine an rfl V.aX ?_;refine' a7.val rfl rfl rfl rfl (gY rfl rfl ?ay (hp (eV rfl) ?az)) ?_;case ay=>exact zj.sub (fun _ q=>by cases q)
 case az=>first|rfl|assumption
 refine an rfl V.ah ?_;refine' a7.call rfl rfl rfl rfl rfl rfl rfl rfl rfl rfl (bh:=[]) (bW:=_) (.refl _) trivial (RC aq hw aD dn nJ DR) ?_;rintro v m' dQ ck ⟨aqq,oC,rfl,rfl,_,VC⟩;rw[me];refine an rfl V.aA ?_;refine a7.nil ?_;have xH:=zD (g:=g) (P:=P) (p:=y.1) dU dU (cZ _);have asV:(gF g P y.1 dU).length<=2000:=by unfold gF jU;rw[uT,mc];omega
 refine rg ?_;refine aM ?_;refine ns ?_;refine ab.block ?_;refine' ab.c2 (l':=[(31,.int .i64 ((0):Int)),(2,_),(3,_),(4,_),(7,_),(8,_),(29,_),(30,_)]) ⟨?ao7,rfl,rfl,rfl,rfl,rfl,rfl,rfl,trivial⟩ (bA _) ?_;case ao7=>exact bS
 refine aj ?_;refine' ab.dF (fun(bH:Nat×aI)=>match bH with|(i,dY)=>⟨[(31,.int .i64 (i:Int))],[(a4,.row [.int .i64 (info:Int)] 3),(a3,.row [.pointer (some ⟨dd,0,none⟩),.func (.func 83) #[] #[.pointer (some ⟨a9,0,none⟩)]] 153),(a9,.row [.bool true] 4)],dY,i<=s.length/\(∀x∈s.take i,gF g P y.1 x.toNat=gF g P y.1 dU)/\dQ.le dY,s.length -i⟩) ⟨0,dQ⟩ ?af ?bE
 case af=>exact⟨cB _,fun x U=>(by cases U),aI.le.refl _⟩
 case bE=>
  rintro⟨i,dY⟩ hinv;try simp only at hinv
  obtain⟨ao,bB,dr⟩:=hinv;refine rg ?_;refine I V.a1 ?_;refine ns ?_;refine If (fun mS=>?_) fun mS=>?_
  ·obtain⟨x,U,e0⟩:=Bo i (by omega) (by omega);rw[cy] at U;obtain⟨hb,y9,xk⟩:=lC x (cd U);subst y9;have rr:=ck.trans dr;have nH:=aq.mono rr;have HN:=hw.mono rr;have zn:=HN.w;refine c5 ?_;refine aj ?_;refine ab.block ?_;refine rg ?_;refine I V.aX ?_;refine' W.step rfl (Exec.val rfl rfl (gY rfl rfl ?ay (hp (eV rfl) ?az)) ?_);case ay=>exact ij.mono rr (zj.sub (fun _ q=>by cases q))
   case az=>first|rfl|assumption
   refine I V.aA ?_;refine bj ?_;refine' W.step rfl (.of (e4 rfl rfl rfl (aag Q g0) rfl rfl rfl fun kJ=>?_));refine dN ?_;refine bj ?_;refine I V.bc ?_;refine I V.aF ?_;refine aM ?_;refine' W.step rfl (Exec.call rfl rfl rfl rfl rfl rfl rfl (bh:=[(kJ,_),(a4,_),(a3,_)]) (bW:=[_]) (.refl _) trivial (SF (σ:=Int) (step:=fun d a k=>(if l5 g a=(info:Int) then(a:Int) else d,decide ((if l5 g a=(info:Int) then(a:Int) else d)<0))) (te:=fun c d ah=>ah=[(kJ,.row [.int .i64 d] 3),(a4,.row [.int .i64 (info:Int)] 3),(a3,.row [.pointer (some ⟨dd,0,none⟩),.func (.func 83) #[] #[.pointer (some ⟨a9,0,none⟩)]] 153)]) (rR:=-1) nH HN aD dn nJ (fun c a s ah _ h=>h) (fun c a s ah k c4 tT h=>by subst h;exact ann nH HN dn (by omega) rfl) xk rfl) ?_);rintro v m' ag hle ⟨rfl,bw,rfl⟩;refine a8 ?_;generalize Ad (fun(d:Int) a k=>(if l5 g a=(info:Int) then(a:Int) else d,decide ((if l5 g a=(info:Int) then(a:Int) else d)<0))) (-1) (o1 g P y.1 hb)=wX;refine rg ?_;refine I V.aF ?_;refine I V.a1 ?_;refine I V.ah ?_;refine dq 43 (fun af9=>?_) fun af9=>?_
   ·refine aW V.bc ?_;refine aW V.aF ?_;refine aW V.ah ?_;refine aW V.aF ?_;refine aW V.aF ?_;refine aW V.jL ?_;refine' W.rb rfl rfl rfl (Exec.call rfl rfl rfl rfl rfl rfl rfl (bh:=[(a9,_)]) (bW:=[_,_,_]) (fM 3 rfl (fM 0 rfl (fM 0 rfl (fM 0 rfl .nil)))) trivial (QL) ?_);rintro v m' ag hle ⟨rfl,rfl,rfl⟩;refine W.gB (m':=[_,_,_,_]) (fM 1 rfl (fM 1 rfl (fM 1 rfl (fM 0 rfl .nil)))) ?_;refine aW V.oe ?_;refine I V.aV ?_;refine ns ?_;refine If (fun nZ=>?_) fun nZ=>?_
    ·exfalso;simp at nZ
    ·refine aj ?_;refine ab.skip ?_;refine rg ?_;refine I V.bc ?_;refine I V.aF ?_;refine aM ?_;refine cl (G:=RC nH HN aD dn nJ xk) (h:=?_);rintro v m' eZ cE ⟨abo,Db,rfl,rfl,_,OK⟩;have ajr:=zD (g:=g) (P:=P) (p:=y.1) hb hb (cZ _);have ajs:(gF g P y.1 hb).length<=2000:=by unfold gF jU;rw[uT,mc];omega
     refine I V.ah ?_;refine cl (G:=Ue OK (VC.mono (dr.trans cE) fun _ _ q=>q) (by omega)) (h:=?_);rintro v m' ag hle ⟨rfl,rfl,rfl⟩;refine ns ?_;refine If (fun ik=>?_) fun ik=>?_
     ·refine aj ?_;refine ab.exit ?_;refine rg ?_;refine I V.bx ?_;refine I V.ah ?_;refine a8 ?_;refine cA ⟨i+1,_⟩ ?_ (hm:=.cons _ (.refl _));exact⟨by omega,sY bB U (by rw[cy];exact ik),dr.trans cE⟩
     ·refine aj ?_;refine ab.skip ?_;refine aj ?_;refine ab.draw rfl (by kernel_rfl) (bf:=[.val 0,.val 1,.val 2,.val 3,.val 4,.val 5,.val 6,.val 7,.bV 8,.val 9]) (by kernel_rfl) ?_;refine an rfl V.bc ?_;refine an rfl V.aF ?_;refine an rfl V.ah ?_;refine an rfl V.aF ?_;refine an rfl V.ah ?_;refine an rfl V.aX ?_;refine' a7.val rfl rfl rfl rfl (gY rfl rfl ?ay (hp (eV rfl) ?az)) ?_;case ay=>exact ij.mono (rr.trans cE) (zj.sub (fun _ q=>by cases q))
      case az=>first|rfl|assumption
      refine an rfl V.jL ?_;refine' a7.call rfl rfl rfl rfl rfl rfl rfl rfl rfl rfl (bh:=[(a9,_)]) (bW:=[_,_,_]) (fM 3 rfl (fM 0 rfl (fM 0 rfl (fM 0 rfl .nil)))) trivial (QL) ?_;rintro v m' ag hle ⟨rfl,rfl,rfl⟩;refine an rfl V.oe ?_;refine a7.nil ?_;refine aj ?_;refine If (fun to=>?_) fun to=>?_
      ·
        refine rg ?_;refine I V.aA ?_;refine ns ?_;refine ab.ret ?_;refine'⟨.inr rfl,rfl,_,[(a9,_)],.tmp rfl .nil,(by first|exact .cons _ (.cons _ (.refl _))|exact .cons_cons _ (iR _)),?_⟩;first
         |(have c:=ik
           have fy:decide (v7 g P y.1 s)=false:=by
               rw[mm];intro q;have:=q hb (cd U);rw[sy,cy,cy] at this;exact ik this
           rw[fy];exact⟨rfl,rfl,rr.trans cE⟩)
         |(have zp:decide (v7 g P y.1 s)=true:=by
               rw[lS];intro x U;rw[et (by omega)] at bB;rw[sy,cy];exact bB x U
           rw[zp];exact⟨rfl,rfl,ck.trans dr⟩)
      ·
        exfalso;simp at to
   ·refine al ?_;refine al ?_;refine al ?_;refine al ?_;refine al ?_;refine al ?_;refine W.oL rfl rfl rfl rfl rfl ?_;refine al ?_;refine I V.aV ?_;refine ns ?_;refine ab.wS rfl ?_;refine nf ?_;refine I V.bc ?_;refine I V.aF ?_;refine aM ?_;refine cl (G:=RC nH HN aD dn nJ xk) (h:=?_);rintro v m' eZ cE ⟨abo,Db,rfl,rfl,_,OK⟩;have ajr:=zD (g:=g) (P:=P) (p:=y.1) hb hb (cZ _);have ajs:(gF g P y.1 hb).length<=2000:=by unfold gF jU;rw[uT,mc];omega
    refine I V.ah ?_;refine cl (G:=Ue OK (VC.mono (dr.trans cE) fun _ _ q=>q) (by omega)) (h:=?_);rintro v m' ag hle ⟨rfl,rfl,rfl⟩;refine ns ?_;refine If (fun ik=>?_) fun ik=>?_
    ·refine aj ?_;refine ab.exit ?_;refine rg ?_;refine I V.bx ?_;refine I V.ah ?_;refine a8 ?_;refine cA ⟨i+1,_⟩ ?_ (hm:=.cons _ (.refl _));exact⟨by omega,sY bB U (by rw[cy];exact ik),dr.trans cE⟩
    ·refine aj ?_;refine ab.skip ?_;refine aj ?_;refine ab.draw rfl (by kernel_rfl) (bf:=[.val 0,.val 1,.val 2,.val 3,.val 4,.val 5,.val 6,.val 7,.bV 8,.val 9]) (by kernel_rfl) ?_;refine an rfl V.bc ?_;refine an rfl V.aF ?_;refine an rfl V.ah ?_;refine an rfl V.aF ?_;refine an rfl V.ah ?_;refine an rfl V.aX ?_;refine' a7.val rfl rfl rfl rfl (gY rfl rfl ?ay (hp (eV rfl) ?az)) ?_;case ay=>exact ij.mono (rr.trans cE) (zj.sub (fun _ q=>by cases q))
     case az=>first|rfl|assumption
     refine an rfl V.jL ?_;refine' a7.call rfl rfl rfl rfl rfl rfl rfl rfl rfl rfl (bh:=[(a9,_)]) (bW:=[_,_,_]) (fM 3 rfl (fM 0 rfl (fM 0 rfl (fM 0 rfl .nil)))) trivial (QL) ?_;rintro v m' ag hle ⟨rfl,rfl,rfl⟩;refine an rfl V.oe ?_;refine a7.nil ?_;refine aj ?_;refine If (fun to=>?_) fun to=>?_
     ·refine rg ?_;refine I V.aA ?_;refine ns ?_;refine ab.ret ?_;refine'⟨.inr rfl,rfl,_,[(a9,_)],.tmp rfl .nil,(by first|exact .cons _ (.cons _ (.refl _))|exact .cons_cons _ (iR _)),?_⟩;first
       |(have c:=ik
         have fy:decide (v7 g P y.1 s)=false:=by
             rw[mm];intro q;have:=q hb (cd U);rw[sy,cy,cy] at this;exact ik this
         rw[fy];exact⟨rfl,rfl,rr.trans cE⟩)
       |(have zp:decide (v7 g P y.1 s)=true:=by
             rw[lS];intro x U;rw[et (by omega)] at bB;rw[sy,cy];exact bB x U
         rw[zp];exact⟨rfl,rfl,ck.trans dr⟩)
     ·exfalso;simp at to
  ·refine aj ?_;refine ab.exit ?_;refine rg ?_;refine I V.aA ?_;refine ns ?_;refine ab.ret ?_;refine'⟨.inr rfl,rfl,_,[(a9,_)],.tmp rfl .nil,(by first|exact .cons _ (.cons _ (.refl _))|exact .cons_cons _ (iR _)),?_⟩;first
    |(have zp:decide (v7 g P y.1 s)=true:=by
          rw[lS];intro x U;rw[et (by omega)] at bB;rw[sy,cy];exact bB x U
      rw[zp];exact⟨rfl,rfl,ck.trans dr⟩)
end
def gA(g:bz):List Int:=match dP g.ns (g.ns.length+1) (-1) 0 0 with|none=>[]|some (_,es)=>es.map fun e=>e.1
theorem X0{g:bz}{n:Nat}{es:List gq}(h:dP g.ns (g.ns.length+1) (-1) 0 0=some (n,es)):gA g=es.map fun e=>e.1:=by unfold gA;rw[h]
theorem IA{g:bz}(h:ym g):Tree g (gA g):=by
 obtain⟨es,aa,_⟩:=h.walk;rw[X0 aa];exact aok aa
def xY(g:bz)(p:Int):Prop:=∀(i:Nat) (s:List Int) (y:Int×Int),(gC g)[i]?=some s->g.is[i]?=some y->y.1=p->v7 g (gA g) p s
section
variable {Q:dI Tryz.prog}{g0:Nat}{J:aI}
open Classical in
theorem alP{g:bz}{aT aL:Option Addr}{aQ ci:Nat}{p:Int}(aq:fG J g aT aQ aL ci)(aC:h6 g=0)(iL:0<=p)(dS:p<g.pl):
 Fn (bb Q g0) 64 [hc g aT aQ aL ci,.int .i64 p] [] J (tg (.tuple #[.bool (decide (xY g p)),.int .i64 0]) J):=by
 have dt:=GG aC;have fW:addrEq aL aL=true:=aq.i.addr;have gn:addrEq aT aT=true:=aq.n.addr;have dn:=dt.dn;have i2:=dt.i2;have lJ:=dt.lJ;have nJ:∀x∈g.ns,x.ak.length<=60:=fun x U=>(EE (dt.nodes x U) dt.lJ).1;refine Fn.cH (cQ Tryz.func64) rfl rfl fun H=>?_;refine rg ?_;refine dJ fun a2=>?_;refine aM ?_;refine bj ?_;refine I V.c8 ?_;refine' W.step rfl (Exec.call rfl rfl rfl rfl rfl rfl rfl (bh:=[]) (bW:=[_]) (.refl _) trivial (Z' aq) ?_);rintro v m' ag hle ⟨rfl,w,rfl,jz⟩;obtain⟨es,dd,df,ad,cg,ed,rfl,rfl⟩:=jz aC;refine aM ?_;refine a8 ?_;refine ab.mD rfl fun nI=>?_;refine ab.mD rfl fun Hj=>?_;refine ab.mD rfl fun O8=>?_;refine ab.mD rfl fun O9=>?_;have KE:=(nI.trans Hj).trans (O8.trans O9);have hw:u2 _ dd df ad cg g aT aQ aL ci (gA g):=⟨(Hj.trans (O8.trans O9)) _ _ (aI.oy _ _ _),(O8.trans O9) _ _ (by rw[X0 ed];exact aI.oy _ _ _)⟩;have OT:=aq.mono KE;generalize aI.add (aI.add (aI.add (aI.add J dd _) df _) ad _) cg _=apX at*;have zn:=hw.w;obtain⟨_,kt⟩:=OT.i.at;refine rg ?_;refine I V.ah ?_;refine I V.a1 ?_;refine ns ?_;refine If (fun hB=>?_) fun hB=>?_
 ·exfalso;exact hB aC
 ·refine aj ?_;refine ab.skip ?_;refine rg ?_;refine I V.bc ?_;refine I V.aF ?_;refine I V.bx ?_;refine I V.ah ?_;refine jw (eX Q g0) fun aaU=>?_;refine' W.step rfl (Exec.call rfl rfl rfl rfl rfl rfl rfl (bh:=[(aaU,_)]) (bW:=[_]) (.refl _) trivial (I9 (l:=[p]) (jJ.own (.head _)) (by simp)) ?_);rintro v m' ag hle ⟨rfl,rfl,rfl⟩;refine I V.aA ?_;refine a8 ?_;rw[ap (by rw[u6];omega)];refine rg ?_;refine I V.ah ?_;refine I V.a1 ?_;refine ns ?_;refine If (fun yP=>?_) fun yP=>?_
  ·exfalso;exact absurd rfl yP
  ·refine aj ?_;refine ab.skip ?_;refine rg ?_;refine' W.step rfl (.of (e4 rfl rfl rfl (apM Q g0) rfl rfl rfl fun a9=>?_));refine dN ?_;refine bj ?_;refine aM ?_;refine' W.step rfl (.of (e4 rfl rfl rfl (apK Q g0) rfl rfl rfl fun q2=>?_));refine dN ?_;refine bj ?_;refine I V.ah ?_;refine cl (G:=akv OT hw dn i2 dt.nodes) (h:=?_);rintro v m' eZ cE ⟨aqr,aqX,rfl,rfl,_,jO⟩;obtain⟨_,lY⟩:=jO.at;have k':(gC g).length=g.is.length:=uG;refine aM ?_;refine ns ?_;refine ab.block ?_;refine aj ?_;refine ab.gB (m':=[_,_,_]) (fM 1 rfl (fM 0 rfl (fM 0 rfl .nil))) ?_;refine' ab.c2 (l':=[(36,.int .i64 ((0):Int)),(1,_),(6,_),(9,_),(10,_),(34,_),(35,_)]) ⟨?ao8,rfl,rfl,rfl,rfl,rfl,rfl,trivial⟩ (bA _) ?_;case ao8=>exact bS
   refine aj ?_;refine' ab.dF (fun(bH:Nat×aI)=>match bH with|(i,dY)=>⟨[(36,.int .i64 (i:Int))],[(a9,.row [.bool true] 4),(q2,.row [.pointer (some ⟨dd,0,none⟩),.func (.func 83) #[] #[.pointer (some ⟨a9,0,none⟩)]] 153),(a2,.row (iq g aT aQ aL ci) 27)],dY,i<=(gC g).length/\(∀(j:Nat) (s:List Int) (y:Int×Int),j<i->(gC g)[j]?=some s->g.is[j]?=some y->y.1=p->v7 g (gA g) p s)/\eZ.le dY,(gC g).length -i⟩) ⟨0,eZ⟩ ?af ?bE
   case af=>exact⟨cB _,fun j s y ba=>by omega,aI.le.refl _⟩
   case bE=>
    rintro⟨i,dY⟩ hinv;try simp only at hinv
    obtain⟨ao,bB,dr⟩:=hinv;refine rg ?_;refine I V.a1 ?_;refine ns ?_;refine If (fun oB=>?_) fun oB=>?_
    ·obtain⟨FJ,Iq,Gd,Gn,rfl,lU,tY⟩:=lY (by omega);obtain⟨s,vh,af,vC,l2,bs,cs,rfl,Ec⟩:=tY i (by omega) (by omega);have sC:=l2 0 _ (by decide) rfl;obtain⟨ha,jk,vf,vm,rfl,mu,lZ⟩:=kt (by omega);obtain⟨y,wT,ai,tU,l1,rfl⟩:=lZ i (by omega) (by omega);have KC:=l1 0 _ (by decide) rfl;rw[cy] at af ai;have lU:=dr _ _ lU;have rr:=cE.trans dr;have mu:=rr _ _ mu;have zn:=rr _ _ zn;have lE:s=eJ (i:Int) 0 g.ns:=by rw[sW (by omega)] at af;injection af with af;exact af.symm
     have kN:s≠[]:=dt.Ra s (cd af);have Wh:s.length<=2000:=by have:=LV (j:=(i:Int)) (l:=g.ns) (n:=0);rw[lE];omega
     have lC:∀x∈s,∃c:Nat,x=(c:Int)/\c<g.ns.length:=fun x U=>by
        rw[lE] at U;obtain⟨c,aa,z,ae,_⟩:=Q' U;exact⟨c,aa,(dX.1 ae).1⟩
     refine c5 ?_;refine aj ?_;refine ab.block ?_;refine rg ?_;refine I V.ah ?_;refine I V.aX ?_;refine I V.aF ?_;refine aM ?_;refine bj ?_;refine aM ?_;refine I V.aF ?_;refine I V.ah ?_;refine I V.aX ?_;refine I V.bc ?_;refine I V.aF ?_;refine I V.ah ?_;refine I V.a1 ?_;refine I V.ah ?_;refine dq 52 (fun GK=>?_) fun GK=>?_
     ·refine aW V.c8 ?_;refine aW V.ah ?_;refine aW V.ah ?_;refine' W.rb rfl rfl rfl (Exec.call rfl rfl rfl rfl rfl rfl rfl (bh:=[(a9,_)]) (bW:=[_,_]) (.refl _) trivial (ano (OT.mono rr) (hw.mono rr) (IA dt) dn nJ ai (Ec.mono dr) Wh kN lC) ?_);rintro v m' kh dV ⟨rfl,rfl,_⟩;refine aW V.oe ?_;refine I V.aV ?_;refine ns ?_;refine If (fun wP=>?_) fun wP=>?_
      ·
        refine aj ?_;refine ab.exit ?_;refine rg ?_;refine I V.aF ?_;refine aM ?_;refine ns ?_;refine ab.ret ?_;refine c' ?_;first
         |(have c:=wP
           rw[Gi wP,show decide (xY g p)=false from Gi fun q=>wP (GK▸q i s y af ai GK)];exact⟨rfl,rfl,KE.trans (rr.trans dV)⟩)
         |(rw[show decide (xY g p)=true from yV fun j s y aa ae aG=>bB j s y (by have:=(dX.1 aa).1;omega) aa ae aG]
           exact⟨rfl,rfl,KE.trans (cE.trans dr)⟩)
      ·
        have HF:=gP.1 wP;rw[yV HF];refine nf ?_;refine I V.bx ?_;refine I V.ah ?_;refine a8 ?_;refine cA ⟨i+1,_⟩ ?_;first|(have nO:=dV;refine⟨by omega,fun j c3 iM ba aa ae aG=>?_,dr.trans dV⟩;by_cases q:j<i;(exact bB j c3 iM q aa ae aG);(obtain rfl:j=i:=by omega);(rw[af] at aa;rw[ai] at ae;injection aa with aa;injection ae with ae;subst aa;subst ae;rw[<-aG];exact HF))|(refine⟨by omega,fun j c3 iM ba aa ae aG=>?_,dr⟩;by_cases q:j<i;(exact bB j c3 iM q aa ae aG);(obtain rfl:j=i:=by omega);(rw[ai] at ae;injection ae with ae;subst ae;exact absurd aG GK))
     ·refine al ?_;refine al ?_;refine al ?_;refine W.oL rfl rfl rfl rfl rfl ?_;refine al ?_;refine I V.aV ?_;refine ns ?_;refine ab.wS rfl ?_;refine nf ?_;refine I V.bx ?_;refine I V.ah ?_;refine a8 ?_;refine cA ⟨i+1,_⟩ ?_;first|(have nO:=dV;refine⟨by omega,fun j c3 iM ba aa ae aG=>?_,dr.trans dV⟩;by_cases q:j<i;(exact bB j c3 iM q aa ae aG);(obtain rfl:j=i:=by omega);(rw[af] at aa;rw[ai] at ae;injection aa with aa;injection ae with ae;subst aa;subst ae;rw[<-aG];exact HF))|(refine⟨by omega,fun j c3 iM ba aa ae aG=>?_,dr⟩;by_cases q:j<i;(exact bB j c3 iM q aa ae aG);(obtain rfl:j=i:=by omega);(rw[ai] at ae;injection ae with ae;subst ae;exact absurd aG GK))
    ·refine aj ?_;refine ab.exit ?_;refine rg ?_;refine I V.aF ?_;refine aM ?_;refine ns ?_;refine ab.ret ?_;refine c' ?_;first
        |(rw[show decide (xY g p)=true from yV fun j s y aa ae aG=>bB j s y (by have:=(dX.1 aa).1;omega) aa ae aG]
          exact⟨rfl,rfl,KE.trans (cE.trans dr)⟩)
end
open Classical in
def kc (g:bz):Int:=if h6 g≠0 then h6 g else if ∃p,0<=p/\p<g.pl/\¬xY g p then 13 else 0
def rQ(cm:Int):List (List Int)->List (Int×Int)->Int
 |r::l,y::ys=>if(r.length:Int)≠y.2 then 3 else if r.any (hG cm 70368744177664)=true then 2 else rQ cm l ys
 |_,_=>0
def ng(g:bz)(l:List (List Int))(cm:Int):Int:=if l.length≠g.is.length then 3 else rQ cm l g.is
theorem zS{cm:Int}{l:List (List Int)}{ys:List (Int×Int)}{i:Nat}{r:List Int}{y:Int×Int}(aa:l[i]?=some r)(ae:ys[i]?=some y):rQ cm (l.drop i) (ys.drop i)=if(r.length:Int)≠y.2 then 3 else if r.any (hG cm 70368744177664)=true then 2 else rQ cm (l.drop (i+1)) (ys.drop (i+1)):=by
 have ao:=(dX.1 aa).1;have ba:=(dX.1 ae).1;rw[mO ao,mO ba];have aN:l[i]=r:=by rw[de ao] at aa;injection aa
 have bn:ys[i]=y:=by rw[de ba] at ae;injection ae
 rw[aN,bn];rfl
theorem zT{cm:Int}{l:List (List Int)}{ys:List (Int×Int)}{i:Nat}(h:l.length<=i):rQ cm (l.drop i) (ys.drop i)=0:=by
 rw[wm h];rfl
structure gI where
 r:Int
 s:Int
 sum:List (List Int)
 pl:List (List Int)
structure iS (J:aI) (t:gI) (bs:Option Addr) (cs:Nat) (cu:Option Addr) (cD:Nat):Prop where
 s:fa J 22 1 (jI J) (.slice bs t.sum.length cs) t.sum
 p:fa J 22 1 (jI J) (.slice cu t.pl.length cD) t.pl
theorem iS.mono{J ag:aI}(hle:J.le ag){t:gI}{bs cu:Option Addr}{cs cD:Nat}(h:iS J t bs cs cu cD):iS ag t bs cs cu cD:=⟨h.s.mono hle fun _ _ q=>q.mono hle,h.p.mono hle fun _ _ q=>q.mono hle⟩
abbrev hI(t:gI)(bs:Option Addr)(cs:Nat)(cu:Option Addr)(cD:Nat):List Value:=[.int .i64 t.r,.int .i64 t.s,.slice bs t.sum.length cs,.slice cu t.pl.length cD]
abbrev mG(t:gI)(bs:Option Addr)(cs:Nat)(cu:Option Addr)(cD:Nat):Value:=.agg (hI t bs cs cu cD).toArray
def rX (g:bz)(t:gI):Int:=if t.r<0\/1000000<t.r\/t.s<0\/2147483646<t.s then 2 else if ng g t.sum (-70368744177664)≠0 then ng g t.sum (-70368744177664) else ng g t.pl 0
def nA (g:bz)(t:gI):Int:=if kc g≠0 then kc g else rX g t
section
variable {Q:dI Tryz.prog}{g0:Nat}{J:aI}
theorem Yi{g:bz}{aT aL:Option Addr}{aQ ci:Nat}(aq:fG J g aT aQ aL ci):
 Fn (bb Q g0) 38 [hc g aT aQ aL ci] [] J (tg (.int .i64 (kc g)) J):=by
 have fW:addrEq aL aL=true:=aq.i.addr;have gn:addrEq aT aT=true:=aq.n.addr;refine Fn.cH (cQ Tryz.func38) rfl rfl fun H=>?_;refine rg ?_;refine dJ fun bo=>?_;refine I V.aA ?_;refine bj ?_;refine I V.c8 ?_;refine cl (G:=NN aq) (h:=?_);rintro v m' dQ ck ⟨rfl,rfl,_⟩;refine I V.aA ?_;refine bj ?_;refine I V.ah ?_;refine I V.a1 ?_;refine ns ?_;refine If (fun eE=>?_) fun eE=>?_
 ·refine rg ?_;refine aM ?_;refine ns ?_;refine ab.ret ?_;refine c' ?_;unfold kc;first
   |(have c:=eE
     rw[aE eE];exact⟨rfl,rfl,ck⟩)
   |(rw[ap eE,ap (fun⟨p,aa,ae,aG⟩=>aG (bB p aa (by omega)))]
     exact⟨rfl,rfl,ck.trans dr⟩)
 ·have aC:=gP.1 eE;have dt:=GG aC;have asL:=dt.lJ;refine nf ?_;refine I V.bc ?_;refine I V.aF ?_;refine I V.ah ?_;refine ns ?_;refine ab.block ?_;refine' ab.c2 (l':=[(14,.int .i64 ((0):Int)),(1,_),(13,_)]) ⟨?Cw,rfl,rfl,trivial⟩ (bA _) ?_;case Cw=>exact bS
  refine aj ?_;refine' ab.dF (fun(bH:Nat×aI)=>match bH with|(i,dY)=>⟨[(14,.int .i64 (i:Int))],[(bo,.row (iq g aT aQ aL ci) 27)],dY,(i:Int)<=g.pl/\(∀p:Int,0<=p->p<i->xY g p)/\dQ.le dY,(g.pl -i).toNat⟩) ⟨0,dQ⟩ ?af ?bE
  case af=>exact⟨by have:=dt.dS;omega,fun p aa ae=>by omega,aI.le.refl _⟩
  case bE=>
   rintro⟨i,dY⟩ hinv;try simp only at hinv
   obtain⟨ao,bB,dr⟩:=hinv;refine rg ?_;refine I V.a1 ?_;refine ns ?_;refine If (fun q4=>?_) fun q4=>?_
   ·refine aj ?_;refine ab.skip ?_;refine aj ?_;refine ab.block ?_;refine rg ?_;refine aM ?_;refine bj ?_;refine I V.c8 ?_;refine I V.ah ?_;refine cl (G:=alP (aq.mono (ck.trans dr)) aC (by omega) (by omega)) (h:=?_);rintro v m' eZ cE ⟨rfl,rfl,_⟩;refine aM ?_;refine bj ?_;refine I V.ah ?_;refine I V.a1 ?_;refine ns ?_;refine If (fun nY=>?_) fun nY=>?_
    ·exfalso;exact absurd rfl nY
    ·refine aj ?_;refine ab.skip ?_;refine rg ?_;refine I V.ah ?_;refine I V.oe ?_;refine ns ?_;refine If (fun jx=>?_) fun jx=>?_
     ·refine rg ?_;refine I V.aA ?_;refine ns ?_;refine ab.ret ?_;refine c' ?_;unfold kc;first
       |(have c:=jx
         rw[ap eE,aE ⟨(i:Int),by omega,by omega,by simpa using jx⟩];exact⟨rfl,rfl,ck.trans (dr.trans cE)⟩)
       |(have c:=eE
         rw[aE eE];exact⟨rfl,rfl,ck⟩)
       |(rw[ap eE,ap (fun⟨p,aa,ae,aG⟩=>aG (bB p aa (by omega)))]
         exact⟨rfl,rfl,ck.trans dr⟩)
     ·refine aj ?_;refine ab.skip ?_;refine rg ?_;refine I V.bx ?_;refine I V.ah ?_;refine a8 ?_;refine cA ⟨i+1,_⟩ ?_;refine⟨by omega,fun p aa ae=>?_,dr.trans cE⟩;by_cases q:p<i;(exact bB p aa q);(obtain rfl:p=i:=by omega);(exact gP.1 (by simpa using jx))
   ·refine aj ?_;refine ab.exit ?_;refine rg ?_;refine I V.aA ?_;refine ns ?_;refine ab.ret ?_;refine c' ?_;unfold kc;first
     |(have c:=eE
       rw[aE eE];exact⟨rfl,rfl,ck⟩)
     |(rw[ap eE,ap (fun⟨p,aa,ae,aG⟩=>aG (bB p aa (by omega)))]
       exact⟨rfl,rfl,ck.trans dr⟩)
theorem TK{g:bz}{aT aL:Option Addr}{aQ ci:Nat}{l:List (List Int)}{b:Option Addr}{c:Nat}{cm:Int}(aq:fG J g aT aQ aL ci)(av:fa J 22 1 (jI J) (.slice b l.length c) l)(aa:l.length<=1000)(ae:∀r∈l,r.length<=1000):
 Fn (bb Q g0) 39 [hc g aT aQ aL ci,.slice b l.length c,.int .i64 cm] [] J (fun u m' ag=>u=.int .i64 (ng g l cm)/\m'=[]/\J=ag):=by
 have fW:addrEq aL aL=true:=aq.i.addr;have gn:addrEq aT aT=true:=aq.n.addr;obtain⟨_,kt⟩:=aq.i.at;obtain⟨_,qi⟩:=av.at;refine Fn.cH (cQ Tryz.func39) rfl rfl fun H=>?_;refine rg ?_;refine dJ fun a3=>?_;refine I V.aA ?_;refine bj ?_;refine aM ?_;refine I V.aF ?_;refine I V.bP ?_;refine I V.a1 ?_;refine ns ?_;refine If (fun kL=>?_) fun kL=>?_
 ·refine rg ?_;refine I V.aA ?_;refine ns ?_;refine ab.ret ?_;refine c' ?_;refine⟨cC (Value.int .i64) ?_,rfl,rfl⟩;unfold ng;first
   |(have c:=gj;rw[ap (by omega),gj,zT (by omega)])
   |rw[aE (by omega)]
 ·refine aj ?_;refine ab.skip ?_;refine rg ?_;refine aM ?_;refine ns ?_;refine ab.block ?_;refine' ab.c2 (l':=[(19,.int .i64 ((0):Int)),(2,_),(3,_),(17,_),(18,_)]) ⟨?IY,rfl,rfl,rfl,rfl,trivial⟩ (bA _) ?_;case IY=>exact bS
  refine aj ?_;refine' ab.dF (fun(i:Nat)=>⟨[(19,.int .i64 (i:Int))],[(a3,.row (iq g aT aQ aL ci) 27)],J,i<=l.length/\rQ cm l g.is=rQ cm (l.drop i) (g.is.drop i),l.length -i⟩) (0) ?af ?bE;case af=>exact⟨cB _,rfl⟩
  case bE=>
   rintro i hinv;try simp only at hinv
   obtain⟨ao,gj⟩:=hinv;refine rg ?_;refine I V.a1 ?_;refine ns ?_;refine If (fun wM=>?_) fun wM=>?_
   ·obtain⟨FJ,Iq,Gd,Gn,rfl,lU,tY⟩:=qi (by omega);obtain⟨r,vh,ay,vC,l2,jd,ko,rfl,n9⟩:=tY i (by omega) (by omega);have sC:=l2 0 _ (by decide) rfl;obtain⟨ha,jk,vf,vm,rfl,mu,lZ⟩:=kt (by omega);obtain⟨y,wT,ai,tU,l1,rfl⟩:=lZ i (by omega) (by omega);have VL:=l1 1 _ (by decide) rfl;rw[cy] at ay ai;have px:=ae r (cd ay);have j':=n9.iB [];refine c5 ?_;refine aj ?_;refine ab.block ?_;refine rg ?_;refine I V.ah ?_;refine I V.aX ?_;refine I V.aF ?_;refine aM ?_;refine bj ?_;refine aM ?_;refine I V.aF ?_;refine I V.ah ?_;refine I V.aX ?_;refine I V.bc ?_;refine I V.aF ?_;refine I V.a1 ?_;refine ns ?_;refine If (fun mS=>?_) fun mS=>?_
    ·refine rg ?_;refine I V.aA ?_;refine ns ?_;refine ab.ret ?_;refine c' ?_;refine⟨cC (Value.int .i64) ?_,rfl,rfl⟩;unfold ng;first
       |(have c:=mS;rw[ap (by omega),gj,zS ay ai,aE mS])
       |(have c:=gj;rw[ap (by omega),gj,zT (by omega)])
       |rw[aE (by omega)]
    ·refine aj ?_;refine ab.skip ?_;refine rg ?_;refine aM ?_;refine ns ?_;refine ab.block ?_;refine' ab.c2 (l':=[(35,.int .i64 ((0):Int)),(2,_),(3,_),(17,_),(18,_),(19,_),(33,_),(34,_)]) ⟨?Z4,rfl,rfl,rfl,rfl,rfl,rfl,rfl,trivial⟩ (bA _) ?_;case Z4=>exact bS
     refine aj ?_;refine' ab.dF (fun(k:Nat)=>⟨[(35,.int .i64 (k:Int))],[(a3,.row (iq g aT aQ (some ⟨ha,jk,none⟩) ci) 27)],J,k<=r.length/\(r.take k).any (hG cm 70368744177664)=false,r.length -k⟩) (0) ?af ?bE;case af=>exact⟨cB _,rfl⟩
     case bE=>
      rintro k hinv;try simp only at hinv
      obtain⟨aU,rf⟩:=hinv;refine rg ?_;refine I V.a1 ?_;refine ns ?_;refine If (fun fV=>?_) fun fV=>?_
      ·obtain⟨mh,iW,oD,rfl,Bz,ia⟩:=j' (by omega);obtain⟨x,U,e0⟩:=ia k (by omega) (by omega);refine c5 ?_;refine aj ?_;refine ab.block ?_;refine rg ?_;refine I V.aX ?_;refine' W.step rfl (Exec.val rfl rfl (gY rfl rfl ?ay (hp (eV rfl) ?az)) ?_);case ay=>exact Bz.sub (fun _ q=>by cases q)
       case az=>first|rfl|assumption
       refine I V.aA ?_;refine a8 ?_;refine fT [10,2,3,17,18,19,33,34,35] ?_;refine aj ?_;refine' ab.ht 1 [(45,.bool (decide ((x<cm\/70368744177664<x))))] ?Ng ?Nq;case Ng=>
        refine ab.region ?_;refine aM ?_;refine I V.a1 ?_;refine I V.ah ?_;refine dq 42 (fun vv=>?_) fun vv=>?_
        ·refine al ?_;refine al ?_;refine I V.aV ?_;refine a8 ?_;exact ce
        ·refine aW V.ah ?_;refine aW V.a1 ?_;refine I V.aV ?_;refine a8 ?_;exact ce
       case Nq=>
        refine aj ?_;refine If (fun k1=>?_) fun k1=>?_
        ·refine rg ?_;refine I V.aA ?_;refine ns ?_;refine ab.ret ?_;refine c' ?_;refine⟨cC (Value.int .i64) ?_,rfl,rfl⟩;unfold ng;first
          |(have c:=k1;rw[ap (by omega),gj,zS ay ai,ap mS,aE (JG U (by simp[hG];omega))])
          |(have c:=mS;rw[ap (by omega),gj,zS ay ai,aE mS])
          |(have c:=gj;rw[ap (by omega),gj,zT (by omega)])
          |rw[aE (by omega)]
        ·refine aj ?_;refine ab.skip ?_;refine rg ?_;refine I V.bx ?_;refine I V.ah ?_;refine a8 ?_;refine cA (k+1) ?_;exact⟨by omega,MJ U rf (by simp[hG];omega)⟩
      ·refine aj ?_;refine ab.exit ?_;refine rg ?_;refine I V.bx ?_;refine I V.ah ?_;refine a8 ?_;refine cA (i+1) ?_;refine⟨by omega,?_⟩;rw[gj,zS ay ai,ap mS,ap (by rw[et (by omega)] at rf;rw[rf];exact RW)]
   ·refine aj ?_;refine ab.exit ?_;refine rg ?_;refine I V.aA ?_;refine ns ?_;refine ab.ret ?_;refine c' ?_;refine⟨cC (Value.int .i64) ?_,rfl,rfl⟩;unfold ng;first
     |(have c:=gj;rw[ap (by omega),gj,zT (by omega)])
     |rw[aE (by omega)]
theorem ack{g:bz}{aT aL:Option Addr}{aQ ci:Nat}{t:gI}{bs cu:Option Addr}{cs cD:Nat}(aq:fG J g aT aQ aL ci)(aD:iS J t bs cs cu cD)(aa:t.sum.length<=1000)(ae:∀r∈t.sum,r.length<=1000)(aG:t.pl.length<=1000)(br:∀r∈t.pl,r.length<=1000):
 Fn (bb Q g0) 18 [hc g aT aQ aL ci,mG t bs cs cu cD] [] J (tg (.int .i64 (nA g t)) J):=by
 have fW:addrEq aL aL=true:=aq.i.addr;have gn:addrEq aT aT=true:=aq.n.addr;refine Fn.cH (cQ Tryz.func18) rfl rfl fun H=>?_;refine rg ?_;refine dJ fun a2=>?_;refine dJ fun a3=>?_;refine I V.aA ?_;refine bj ?_;refine I V.c8 ?_;refine cl (G:=Yi aq) (h:=?_);rintro v m' dQ ck ⟨rfl,rfl,_⟩;refine I V.aA ?_;refine bj ?_;refine I V.ah ?_;refine I V.a1 ?_;refine ns ?_;refine If (fun eE=>?_) fun eE=>?_
 ·refine rg ?_;refine aM ?_;refine ns ?_;refine ab.ret ?_;refine c' ?_;refine⟨cC (Value.int .i64) ?_,rfl,ck⟩;unfold nA rX;first
   |rw[aE eE]
 ·refine aj ?_;refine ab.skip ?_;refine fT [2,3] ?_;refine aj ?_;refine' ab.ht 0 [(19,.bool (decide ((t.r<0\/1000000<t.r))))] ?tv ?tx;case tv=>
   refine ab.region ?_;refine I V.bc ?_;refine I V.aF ?_;refine I V.a1 ?_;refine I V.ah ?_;refine dq 15 (fun pq=>?_) fun pq=>?_
   ·refine al ?_;refine al ?_;refine al ?_;refine I V.aV ?_;refine a8 ?_;exact ce
   ·refine aW V.bc ?_;refine aW V.aF ?_;refine aW V.a1 ?_;refine I V.aV ?_;refine a8 ?_;exact ce
  case tx=>
   refine aj ?_;refine If (fun hB=>?_) fun hB=>?_
   ·refine rg ?_;refine I V.aA ?_;refine ns ?_;refine ab.ret ?_;refine c' ?_;refine⟨cC (Value.int .i64) ?_,rfl,ck⟩;unfold nA rX;first
     |(have c:=hB;rw[ap eE,aE (by omega)])
     |rw[aE eE]
   ·refine aj ?_;refine ab.skip ?_;refine fT [2,3] ?_;refine aj ?_;refine' ab.ht 0 [(27,.bool (decide ((t.s<0\/2147483646<t.s))))] ?ac1 ?adP;case ac1=>
     refine ab.region ?_;refine I V.bc ?_;refine I V.aF ?_;refine I V.a1 ?_;refine I V.ah ?_;refine dq 23 (fun af5=>?_) fun af5=>?_
     ·refine al ?_;refine al ?_;refine al ?_;refine I V.aV ?_;refine a8 ?_;exact ce
     ·refine aW V.bc ?_;refine aW V.aF ?_;refine aW V.a1 ?_;refine I V.aV ?_;refine a8 ?_;exact ce
    case adP=>
     refine aj ?_;refine If (fun jx=>?_) fun jx=>?_
     ·refine rg ?_;refine I V.aA ?_;refine ns ?_;refine ab.ret ?_;refine c' ?_;refine⟨cC (Value.int .i64) ?_,rfl,ck⟩;unfold nA rX;first
       |(have c:=jx;rw[ap eE,aE (by omega)])
       |(have c:=hB;rw[ap eE,aE (by omega)])
       |rw[aE eE]
     ·refine aj ?_;refine ab.skip ?_;refine rg ?_;refine I V.c8 ?_;refine I V.bc ?_;refine I V.aF ?_;refine cl (G:=TK (aq.mono ck) (aD.mono ck).s aa ae) (h:=?_);rintro v m' eZ cE ⟨rfl,rfl,rfl⟩;refine I V.aA ?_;refine bj ?_;refine I V.ah ?_;refine I V.a1 ?_;refine ns ?_;refine If (fun pi=>?_) fun pi=>?_
      ·refine rg ?_;refine aM ?_;refine ns ?_;refine ab.ret ?_;refine c' ?_;refine⟨cC (Value.int .i64) ?_,rfl,ck⟩;unfold nA rX;first
         |(have c:=pi
           first
              |rw[ap eE,ap (by omega),aE pi]
              |rw[ap eE,ap (by omega),ap pi])
         |(have c:=jx;rw[ap eE,aE (by omega)])
         |(have c:=hB;rw[ap eE,aE (by omega)])
         |rw[aE eE]
      ·refine aj ?_;refine ab.skip ?_;refine rg ?_;refine I V.c8 ?_;refine I V.bc ?_;refine I V.aF ?_;refine cl (G:=TK (aq.mono ck) (aD.mono ck).p aG br) (h:=?_);rintro v m' kh dV ⟨rfl,rfl,rfl⟩;refine I V.aA ?_;refine ns ?_;refine ab.ret ?_;refine c' ?_;refine⟨cC (Value.int .i64) ?_,rfl,ck⟩;unfold nA rX;first
         |(have c:=pi
           first
              |rw[ap eE,ap (by omega),aE pi]
              |rw[ap eE,ap (by omega),ap pi])
         |(have c:=jx;rw[ap eE,aE (by omega)])
         |(have c:=hB;rw[ap eE,aE (by omega)])
         |rw[aE eE]
end
end
end Go.Opn
