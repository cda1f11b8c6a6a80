/- A part of the proof of ResumeBytes. -/
import Derived.Test.YtkmfhjilfjecmaaGreatDoorCbg
set_option maxRecDepth 100000
set_option maxHeartbeats 4000000
set_option linter.unusedVariables false
set_option linter.unusedSimpArgs false
namespace Go.Opn
noncomputable section
open Go.Cre Go.RowKit Go.Proofs
theorem hW.mono{m:aN}{J af:aH}(hle:J.le af){a:Nat}{cells:List Value}(h:hW m J a cells):hW m af a cells:=by
 cases h with
 |own h=>exact .own h
 |opn h=>exact .opn h
 |h6 h=>exact .h6 h
 |fw h=>exact .fw (hle _ _ h)
theorem Rx{g:bq}{i:Int}{x:Int}(h:x∈eJ i 0 g.ns):∃c:Nat,x=(c:Int)/\∃y,g.ns[c]?=some y/\y.k=2/\y.i=i:=by
 have key:∀(l:List cR) (n:Nat),x∈eJ i n l->∃c:Nat,x=((n+c:Nat):Int)/\∃y,l[c]?=some y/\y.k=2/\y.i=i:=by
  intro l;induction l with
  |nil=>intro n h;cases h
  |cons y r aI=>
   intro n h;unfold eJ at h;have Jd:x∈eJ i (n+1) r->∃c:Nat,x=((n+c:Nat):Int)/\∃z,(y::r)[c]?=some z/\z.k=2/\z.i=i:=fun q=>by
        obtain⟨c,aa,z,ae,aF⟩:=aI (n+1) q;exact⟨c+1,by rw[aa];omega,z,by rw[yB];exact ae,aF⟩
   split at h
   ·rename_i ai
    rcases e3.1 h with q|q
    ·exact⟨0,by rw[q];rfl,y,rfl,ai⟩
    ·exact Jd q
   ·exact Jd h
 obtain⟨c,aa,ae⟩:=key g.ns 0 h;exact⟨c,by rw[aa];omega,ae⟩
section
variable {Q:dD Tryz.prog}{g0:Nat}{J:aH}
def wx(g:bq)(P:List Int)(p:Int)(s:List Int):Prop:=∀x∈s,gE g P p x.toNat=gE g P p (fj s).toNat
open Classical in
theorem an3{db dc ad cj:Nat}{g:bq}{aT aK:Option Addr}{aQ ci:Nat}{P:List Int}{a9:Nat}{info:Nat}{y:Int×Int}{b:Option Addr}{c:Nat}{s:List Int}
 (aq:fH J g aT aQ aK ci)(hw:u9 J db dc ad cj g aT aQ aK ci P)(aB:Tree g P)(de:g.ns.length<=2000)(nO:∀x∈g.ns,x.ak.length<=60)(ai:g.is[info]?=some y)(hs:dI J (.slice b s.length c) s)(jN:s.length<=2000)(Et:s≠[])(lN:∀x∈s,∃c:Nat,x=(c:Int)/\c<g.ns.length):
 Fn (bd Q g0) 85 [.agg #[.pointer (some ⟨db,0,none⟩),.func (.func 83) #[] #[.pointer (some ⟨a9,0,none⟩)]],.int .i64 (info:Int),.slice b s.length c] [(a9,.row [.bool true] 4)] J (fun u m' af=>u=.bool (decide (wx g P y.1 s))/\m'=[(a9,.row [.bool (decide (wx g P y.1 s))] 4)]/\J.le af):=by
 obtain⟨_,kx⟩:=aq.i.at;have fX:addrEq aK aK=true:=aq.i.addr;have gq:addrEq aT aT=true:=aq.n.addr;have ta:addrEq b b=true:=by obtain⟨e,h⟩:=hs;exact h.addr
 have zv:=hw.w;have mE:=(dY.1 ai).1;obtain⟨g',Yc,vl,vu,rfl,mD,me⟩:=kx (by omega);obtain⟨iQ,xa,hd,ub,mf,rfl⟩:=me info (by omega) (by omega);rw[cx,ai] at hd;injection hd with hd;subst hd
 have Hy:=mf 0 _ (by decide) rfl;have lj:0<s.length:=FK.2 Et;have kf:=hs.iH [];obtain⟨Tm,LM,Ul,rfl,zr,Bx⟩:=kf lj;obtain⟨kI,kA,HG⟩:=Bx 0 (by omega) (by omega);have zw:s[0]?=some kI:=kA;have vP:=Ea zw;obtain⟨dS,ib,D8⟩:=lN kI (cb zw);subst ib;refine Fn.cH (cM Tryz.func85) rfl rfl fun H=>?_;refine rg ?_;refine dK fun a3=>?_;refine dK fun a4=>?_;refine I V.az ?_;refine ns ?_;refine ab.draw rfl (by kernel_rfl) (bc:=[.val 0,.val 1,.val 2,.val 3,.val 4,.val 5,.val 6,.val 7,.val 8,.val 9,.val 10]) (by kernel_rfl) ?_;refine al rfl V.ba ?_;refine al rfl V.aG ?_;refine cq ?_;refine al rfl V.aG ?_;refine al rfl V.aG ?_;refine al rfl V.aW ?_;refine al rfl V.ba ?_;refine al rfl V.aG ?_;refine al rfl V.az ?_;refine a8.nil ?_;refine aj ?_;refine ab.draw rfl (by kernel_rfl) (bc:=[.val 0,.val 1,.val 2,.val 3,.val 4,.val 5,.bR 6,.val 7]) (by kernel_rfl) ?_;refine al rfl V.ba ?_;refine al rfl V.aG ?_;refine al rfl V.ag ?_;refine al rfl V.aW ?_;refine' a8.val rfl rfl rfl rfl (gP rfl rfl ?aw (ho (eW rfl) ?ay)) ?_;case aw=>exact zr.sub (fun _ q=>by cases q)
 case ay=>first|rfl|assumption
 refine al rfl V.ag ?_;refine' a8.call rfl rfl rfl rfl rfl rfl rfl rfl rfl rfl (bf:=[]) (bM:=_) (.refl _) trivial (RZ aq hw aB de nO D8) ?_;rintro v m' dO ch ⟨ard,oO,rfl,rfl,_,V3⟩;rw[k2];refine al rfl V.az ?_;refine a8.nil ?_;have xU:=zG (g:=g) (P:=P) (p:=y.1) dS dS (cW _);have atM:(gE g P y.1 dS).length<=2000:=by unfold gE j5;rw[uY,lB];omega
 refine rg ?_;refine aM ?_;refine ns ?_;refine ab.block ?_;refine' ab.c0 (l':=[(31,.int .i64 ((0):Int)),(2,_),(3,_),(4,_),(7,_),(8,_),(29,_),(30,_)]) ⟨?apT,rfl,rfl,rfl,rfl,rfl,rfl,rfl,trivial⟩ (bu _) ?_;case apT=>exact bP
 refine aj ?_;refine' ab.dF (fun(bC:Nat×aH)=>match bC with|(i,dX)=>⟨[(31,.int .i64 (i:Int))],[(a4,.row [.int .i64 (info:Int)] 3),(a3,.row [.pointer (some ⟨db,0,none⟩),.func (.func 83) #[] #[.pointer (some ⟨a9,0,none⟩)]] 153),(a9,.row [.bool true] 4)],dX,i<=s.length/\(∀x∈s.take i,gE g P y.1 x.toNat=gE g P y.1 dS)/\dO.le dX,s.length -i⟩) ⟨0,dO⟩ ?hs ?bA
 case hs=>exact⟨cy _,fun x U=>(by cases U),aH.le.refl _⟩
 case bA=>
  rintro⟨i,dX⟩ hinv;try simp only at hinv
  obtain⟨ao,bx,dp⟩:=hinv;refine rg ?_;refine I V.aZ ?_;refine ns ?_;refine If (fun mV=>?_) fun mV=>?_
  ·obtain⟨x,U,e4⟩:=Bx i (by omega) (by omega);rw[cx] at U;obtain⟨ha,zi,xC⟩:=lN x (cb U);subst zi;have rH:=ch.trans dp;have nN:=aq.mono rH;have H4:=hw.mono rH;have zv:=H4.w;refine c7 ?_;refine aj ?_;refine ab.block ?_;refine rg ?_;refine I V.aW ?_;refine' W.step rfl (Exec.val rfl rfl (gP rfl rfl ?aw (ho (eW rfl) ?ay)) ?_);case aw=>exact hW.mono rH (zr.sub (fun _ q=>by cases q))
   case ay=>first|rfl|assumption
   refine I V.az ?_;refine bi ?_;refine' W.step rfl (.of (eT rfl rfl rfl (aaE Q g0) rfl rfl rfl fun kL=>?_));refine dC ?_;refine bi ?_;refine I V.ba ?_;refine I V.aG ?_;refine aM ?_;refine' W.step rfl (Exec.call rfl rfl rfl rfl rfl rfl rfl (bf:=[(kL,_),(a4,_),(a3,_)]) (bM:=[_]) (.refl _) trivial (S3 (σ:=Int) (step:=fun d a k=>(if mj g a=(info:Int) then(a:Int) else d,decide ((if mj g a=(info:Int) then(a:Int) else d)<0))) (tp:=fun c d ag=>ag=[(kL,.row [.int .i64 d] 3),(a4,.row [.int .i64 (info:Int)] 3),(a3,.row [.pointer (some ⟨db,0,none⟩),.func (.func 83) #[] #[.pointer (some ⟨a9,0,none⟩)]] 153)]) (r4:=-1) nN H4 aB de nO (fun c a s ag _ h=>h) (fun c a s ag k cV ua h=>by subst h;exact an2 nN H4 de (by omega) rfl) xC rfl) ?_);rintro v m' af hle ⟨rfl,c2,rfl⟩;refine a6 ?_;generalize Ad (fun(d:Int) a k=>(if mj g a=(info:Int) then(a:Int) else d,decide ((if mj g a=(info:Int) then(a:Int) else d)<0))) (-1) (pa g P y.1 ha)=xe;refine rg ?_;refine I V.aG ?_;refine I V.aZ ?_;refine I V.ag ?_;refine dr 43 (fun agI=>?_) fun agI=>?_
   ·refine aX V.ba ?_;refine aX V.aG ?_;refine aX V.ag ?_;refine aX V.aG ?_;refine aX V.aG ?_;refine aX V.jl ?_;refine' W.sH rfl rfl rfl (Exec.call rfl rfl rfl rfl rfl rfl rfl (bf:=[(a9,_)]) (bM:=[_,_,_]) (fN 3 rfl (fN 0 rfl (fN 0 rfl (fN 0 rfl .nil)))) trivial (Ra) ?_);rintro v m' af hle ⟨rfl,rfl,rfl⟩;refine W.gN (m':=[_,_,_,_]) (fN 1 rfl (fN 1 rfl (fN 1 rfl (fN 0 rfl .nil)))) ?_;refine aX V.ou ?_;refine I V.aU ?_;refine ns ?_;refine If (fun n5=>?_) fun n5=>?_
    ·exfalso;simp at n5
    ·refine aj ?_;refine ab.skip ?_;refine rg ?_;refine I V.ba ?_;refine I V.aG ?_;refine aM ?_;refine cl (G:=RZ nN H4 aB de nO xC) (h:=?_);rintro v m' e2 cF ⟨abQ,AN,rfl,rfl,_,O5⟩;have aj4:=zG (g:=g) (P:=P) (p:=y.1) ha ha (cW _);have aj5:(gE g P y.1 ha).length<=2000:=by unfold gE j5;rw[uY,lB];omega
     refine I V.ag ?_;refine cl (G:=UJ O5 (V3.mono (dp.trans cF) fun _ _ q=>q) (by omega)) (h:=?_);rintro v m' af hle ⟨rfl,rfl,rfl⟩;refine ns ?_;refine If (fun iv=>?_) fun iv=>?_
     ·refine aj ?_;refine ab.exit ?_;refine rg ?_;refine I V.bt ?_;refine I V.ag ?_;refine a6 ?_;refine cB ⟨i+1,_⟩ ?_ (hm:=.cons _ (.refl _));exact⟨by omega,te bx U (by rw[cx];exact iv),dp.trans cF⟩
     ·refine aj ?_;refine ab.skip ?_;refine aj ?_;refine ab.draw rfl (by kernel_rfl) (bc:=[.val 0,.val 1,.val 2,.val 3,.val 4,.val 5,.val 6,.val 7,.bR 8,.val 9]) (by kernel_rfl) ?_;refine al rfl V.ba ?_;refine al rfl V.aG ?_;refine al rfl V.ag ?_;refine al rfl V.aG ?_;refine al rfl V.ag ?_;refine al rfl V.aW ?_;refine' a8.val rfl rfl rfl rfl (gP rfl rfl ?aw (ho (eW rfl) ?ay)) ?_;case aw=>exact hW.mono (rH.trans cF) (zr.sub (fun _ q=>by cases q))
      case ay=>first|rfl|assumption
      refine al rfl V.jl ?_;refine' a8.call rfl rfl rfl rfl rfl rfl rfl rfl rfl rfl (bf:=[(a9,_)]) (bM:=[_,_,_]) (fN 3 rfl (fN 0 rfl (fN 0 rfl (fN 0 rfl .nil)))) trivial (Ra) ?_;rintro v m' af hle ⟨rfl,rfl,rfl⟩;refine al rfl V.ou ?_;refine a8.nil ?_;refine aj ?_;refine If (fun tz=>?_) fun tz=>?_
      ·
        refine rg ?_;refine I V.az ?_;refine ns ?_;refine ab.ret ?_;refine'⟨.inr rfl,rfl,_,[(a9,_)],.tmp rfl .nil,(by first|exact .cons _ (.cons _ (.refl _))|exact .cons_cons _ (h5 _)),?_⟩;first
         |(have c:=iv
           have fB:decide (wx g P y.1 s)=false:=by
               rw[mz];intro q;have:=q ha (cb U);rw[vP,cx,cx] at this;exact iv this
           rw[fB];exact⟨rfl,rfl,rH.trans cF⟩)
         |(have zx:decide (wx g P y.1 s)=true:=by
               rw[l6];intro x U;rw[eo (by omega)] at bx;rw[vP,cx];exact bx x U
           rw[zx];exact⟨rfl,rfl,ch.trans dp⟩)
      ·
        exfalso;simp at tz
   ·refine ah ?_;refine ah ?_;refine ah ?_;refine ah ?_;refine ah ?_;refine ah ?_;refine W.oU rfl rfl rfl rfl rfl ?_;refine ah ?_;refine I V.aU ?_;refine ns ?_;refine ab.w' rfl ?_;refine ln ?_;refine I V.ba ?_;refine I V.aG ?_;refine aM ?_;refine cl (G:=RZ nN H4 aB de nO xC) (h:=?_);rintro v m' e2 cF ⟨abQ,AN,rfl,rfl,_,O5⟩;have aj4:=zG (g:=g) (P:=P) (p:=y.1) ha ha (cW _);have aj5:(gE g P y.1 ha).length<=2000:=by unfold gE j5;rw[uY,lB];omega
    refine I V.ag ?_;refine cl (G:=UJ O5 (V3.mono (dp.trans cF) fun _ _ q=>q) (by omega)) (h:=?_);rintro v m' af hle ⟨rfl,rfl,rfl⟩;refine ns ?_;refine If (fun iv=>?_) fun iv=>?_
    ·refine aj ?_;refine ab.exit ?_;refine rg ?_;refine I V.bt ?_;refine I V.ag ?_;refine a6 ?_;refine cB ⟨i+1,_⟩ ?_ (hm:=.cons _ (.refl _));exact⟨by omega,te bx U (by rw[cx];exact iv),dp.trans cF⟩
    ·refine aj ?_;refine ab.skip ?_;refine aj ?_;refine ab.draw rfl (by kernel_rfl) (bc:=[.val 0,.val 1,.val 2,.val 3,.val 4,.val 5,.val 6,.val 7,.bR 8,.val 9]) (by kernel_rfl) ?_;refine al rfl V.ba ?_;refine al rfl V.aG ?_;refine al rfl V.ag ?_;refine al rfl V.aG ?_;refine al rfl V.ag ?_;refine al rfl V.aW ?_;refine' a8.val rfl rfl rfl rfl (gP rfl rfl ?aw (ho (eW rfl) ?ay)) ?_;case aw=>exact hW.mono (rH.trans cF) (zr.sub (fun _ q=>by cases q))
     case ay=>first|rfl|assumption
     refine al rfl V.jl ?_;refine' a8.call rfl rfl rfl rfl rfl rfl rfl rfl rfl rfl (bf:=[(a9,_)]) (bM:=[_,_,_]) (fN 3 rfl (fN 0 rfl (fN 0 rfl (fN 0 rfl .nil)))) trivial (Ra) ?_;rintro v m' af hle ⟨rfl,rfl,rfl⟩;refine al rfl V.ou ?_;refine a8.nil ?_;refine aj ?_;refine If (fun tz=>?_) fun tz=>?_
     ·refine rg ?_;refine I V.az ?_;refine ns ?_;refine ab.ret ?_;refine'⟨.inr rfl,rfl,_,[(a9,_)],.tmp rfl .nil,(by first|exact .cons _ (.cons _ (.refl _))|exact .cons_cons _ (h5 _)),?_⟩;first
       |(have c:=iv
         have fB:decide (wx g P y.1 s)=false:=by
             rw[mz];intro q;have:=q ha (cb U);rw[vP,cx,cx] at this;exact iv this
         rw[fB];exact⟨rfl,rfl,rH.trans cF⟩)
       |(have zx:decide (wx g P y.1 s)=true:=by
             rw[l6];intro x U;rw[eo (by omega)] at bx;rw[vP,cx];exact bx x U
         rw[zx];exact⟨rfl,rfl,ch.trans dp⟩)
     ·exfalso;simp at tz
  ·refine aj ?_;refine ab.exit ?_;refine rg ?_;refine I V.az ?_;refine ns ?_;refine ab.ret ?_;refine'⟨.inr rfl,rfl,_,[(a9,_)],.tmp rfl .nil,(by first|exact .cons _ (.cons _ (.refl _))|exact .cons_cons _ (h5 _)),?_⟩;first
    |(have zx:decide (wx g P y.1 s)=true:=by
          rw[l6];intro x U;rw[eo (by omega)] at bx;rw[vP,cx];exact bx x U
      rw[zx];exact⟨rfl,rfl,ch.trans dp⟩)
end
def gB(g:bq):List Int:=match dN g.ns (g.ns.length+1) (-1) 0 0 with|none=>[]|some (_,es)=>es.map fun e=>e.1
theorem Yr{g:bq}{n:Nat}{es:List gu}(h:dN g.ns (g.ns.length+1) (-1) 0 0=some (n,es)):gB g=es.map fun e=>e.1:=by unfold gB;rw[h]
theorem IU{g:bq}(h:yy g):Tree g (gB g):=by
 obtain⟨es,aa,_⟩:=h.walk;rw[Yr aa];exact ao0 aa
def yd(g:bq)(p:Int):Prop:=∀(i:Nat) (s:List Int) (y:Int×Int),(gC g)[i]?=some s->g.is[i]?=some y->y.1=p->wx g (gB g) p s
section
variable {Q:dD Tryz.prog}{g0:Nat}{J:aH}
open Classical in
theorem amr{g:bq}{aT aK:Option Addr}{aQ ci:Nat}{p:Int}(aq:fH J g aT aQ aK ci)(aD:h8 g=0)(hH:0<=p)(dH:p<g.pl):
 Fn (bd Q g0) 64 [hb g aT aQ aK ci,.int .i64 p] [] J (tr (.tuple #[.bool (decide (yd g p)),.int .i64 0]) J):=by
 have dq:=GX aD;have fX:addrEq aK aK=true:=aq.i.addr;have gq:addrEq aT aT=true:=aq.n.addr;have de:=dq.de;have i2:=dq.i2;have ki:=dq.ki;have nO:∀x∈g.ns,x.ak.length<=60:=fun x U=>(ES (dq.nodes x U) dq.ki).1;refine Fn.cH (cM Tryz.func64) rfl rfl fun H=>?_;refine rg ?_;refine dK fun a2=>?_;refine aM ?_;refine bi ?_;refine I V.c9 ?_;refine' W.step rfl (Exec.call rfl rfl rfl rfl rfl rfl rfl (bf:=[]) (bM:=[_]) (.refl _) trivial (aaw aq) ?_);rintro v m' af hle ⟨rfl,w,rfl,jM⟩;obtain⟨es,db,dc,ad,cj,ee,rfl,rfl⟩:=jM aD;refine aM ?_;refine a6 ?_;refine ab.mJ rfl fun pG=>?_;refine ab.mJ rfl fun HA=>?_;refine ab.mJ rfl fun Pv=>?_;refine ab.mJ rfl fun Pw=>?_;have KZ:=(pG.trans HA).trans (Pv.trans Pw);have hw:u9 _ db dc ad cj g aT aQ aK ci (gB g):=⟨(HA.trans (Pv.trans Pw)) _ _ (aH.oL _ _ _),(Pv.trans Pw) _ _ (by rw[Yr ee];exact aH.oL _ _ _)⟩;have Pe:=aq.mono KZ;generalize aH.add (aH.add (aH.add (aH.add J db _) dc _) ad _) cj _=aqJ at*;have zv:=hw.w;obtain⟨_,kx⟩:=Pe.i.at;refine rg ?_;refine I V.ag ?_;refine I V.aZ ?_;refine ns ?_;refine If (fun hA=>?_) fun hA=>?_
 ·exfalso;exact hA aD
 ·refine aj ?_;refine ab.skip ?_;refine rg ?_;refine I V.ba ?_;refine I V.aG ?_;refine I V.bt ?_;refine I V.ag ?_;refine jK (e0 Q g0) fun abj=>?_;refine' W.step rfl (Exec.call rfl rfl rfl rfl rfl rfl rfl (bf:=[(abj,_)]) (bM:=[_]) (.refl _) trivial (Jr (l:=[p]) (jX.own (.head _)) (by simp)) ?_);rintro v m' af hle ⟨rfl,rfl,rfl⟩;refine I V.az ?_;refine a6 ?_;rw[an (by rw[vc];omega)];refine rg ?_;refine I V.ag ?_;refine I V.aZ ?_;refine ns ?_;refine If (fun yY=>?_) fun yY=>?_
  ·exfalso;exact absurd rfl yY
  ·refine aj ?_;refine ab.skip ?_;refine rg ?_;refine' W.step rfl (.of (eT rfl rfl rfl (aqz Q g0) rfl rfl rfl fun a9=>?_));refine dC ?_;refine bi ?_;refine aM ?_;refine' W.step rfl (.of (eT rfl rfl rfl (aqx Q g0) rfl rfl rfl fun si=>?_));refine dC ?_;refine bi ?_;refine I V.ag ?_;refine cl (G:=ak6 Pe hw de i2 dq.nodes) (h:=?_);rintro v m' e2 cF ⟨are,arM,rfl,rfl,_,kw⟩;obtain⟨_,lM⟩:=kw.at;have lj:(gC g).length=g.is.length:=uI;refine aM ?_;refine ns ?_;refine ab.block ?_;refine aj ?_;refine ab.gN (m':=[_,_,_]) (fN 1 rfl (fN 0 rfl (fN 0 rfl .nil))) ?_;refine' ab.c0 (l':=[(36,.int .i64 ((0):Int)),(1,_),(6,_),(9,_),(10,_),(34,_),(35,_)]) ⟨?apU,rfl,rfl,rfl,rfl,rfl,rfl,trivial⟩ (bu _) ?_;case apU=>exact bP
   refine aj ?_;refine' ab.dF (fun(bC:Nat×aH)=>match bC with|(i,dX)=>⟨[(36,.int .i64 (i:Int))],[(a9,.row [.bool true] 4),(si,.row [.pointer (some ⟨db,0,none⟩),.func (.func 83) #[] #[.pointer (some ⟨a9,0,none⟩)]] 153),(a2,.row (iw g aT aQ aK ci) 27)],dX,i<=(gC g).length/\(∀(j:Nat) (s:List Int) (y:Int×Int),j<i->(gC g)[j]?=some s->g.is[j]?=some y->y.1=p->wx g (gB g) p s)/\e2.le dX,(gC g).length -i⟩) ⟨0,e2⟩ ?hs ?bA
   case hs=>exact⟨cy _,fun j s y a'=>by omega,aH.le.refl _⟩
   case bA=>
    rintro⟨i,dX⟩ hinv;try simp only at hinv
    obtain⟨ao,bx,dp⟩:=hinv;refine rg ?_;refine I V.aZ ?_;refine ns ?_;refine If (fun oN=>?_) fun oN=>?_
    ·obtain⟨FY,IH,Gt,GH,rfl,l9,uf⟩:=lM (by omega);obtain⟨s,vn,hs,vL,mg,bs,cs,rfl,Eu⟩:=uf i (by omega) (by omega);have sP:=mg 0 _ (by decide) rfl;obtain⟨g',jx,vl,vu,rfl,mD,me⟩:=kx (by omega);obtain⟨y,xa,ai,ub,mf,rfl⟩:=me i (by omega) (by omega);have KY:=mf 0 _ (by decide) rfl;rw[cx] at hs ai;have l9:=dp _ _ l9;have rH:=cF.trans dp;have mD:=rH _ _ mD;have zv:=rH _ _ zv;have lR:s=eJ (i:Int) 0 g.ns:=by rw[tc (by omega)] at hs;injection hs with hs;exact hs.symm
     have kR:s≠[]:=dq.Ry s (cb hs);have WI:s.length<=2000:=by have:=Mf (j:=(i:Int)) (l:=g.ns) (n:=0);rw[lR];omega
     have lN:∀x∈s,∃c:Nat,x=(c:Int)/\c<g.ns.length:=fun x U=>by
        rw[lR] at U;obtain⟨c,aa,z,ae,_⟩:=Rx U;exact⟨c,aa,(dY.1 ae).1⟩
     refine c7 ?_;refine aj ?_;refine ab.block ?_;refine rg ?_;refine I V.ag ?_;refine I V.aW ?_;refine I V.aG ?_;refine aM ?_;refine bi ?_;refine aM ?_;refine I V.aG ?_;refine I V.ag ?_;refine I V.aW ?_;refine I V.ba ?_;refine I V.aG ?_;refine I V.ag ?_;refine I V.aZ ?_;refine I V.ag ?_;refine dr 52 (fun G1=>?_) fun G1=>?_
     ·refine aX V.c9 ?_;refine aX V.ag ?_;refine aX V.ag ?_;refine' W.sH rfl rfl rfl (Exec.call rfl rfl rfl rfl rfl rfl rfl (bf:=[(a9,_)]) (bM:=[_,_]) (.refl _) trivial (an3 (Pe.mono rH) (hw.mono rH) (IU dq) de nO ai (Eu.mono dp) WI kR lN) ?_);rintro v m' jV dU ⟨rfl,rfl,_⟩;refine aX V.ou ?_;refine I V.aU ?_;refine ns ?_;refine If (fun w8=>?_) fun w8=>?_
      ·
        refine aj ?_;refine ab.exit ?_;refine rg ?_;refine I V.aG ?_;refine aM ?_;refine ns ?_;refine ab.ret ?_;refine c5 ?_;first
         |(have c:=w8
           rw[GA w8,show decide (yd g p)=false from GA fun q=>w8 (G1▸q i s y hs ai G1)];exact⟨rfl,rfl,KZ.trans (rH.trans dU)⟩)
         |(rw[show decide (yd g p)=true from y4 fun j s y aa ae aF=>bx j s y (by have:=(dY.1 aa).1;omega) aa ae aF]
           exact⟨rfl,rfl,KZ.trans (cF.trans dp)⟩)
      ·
        have HU:=gQ.1 w8;rw[y4 HU];refine ln ?_;refine I V.bt ?_;refine I V.ag ?_;refine a6 ?_;refine cB ⟨i+1,_⟩ ?_;first|(have nT:=dU;refine⟨by omega,fun j c4 iQ a' aa ae aF=>?_,dp.trans dU⟩;by_cases q:j<i;(exact bx j c4 iQ q aa ae aF);(obtain rfl:j=i:=by omega);(rw[hs] at aa;rw[ai] at ae;injection aa with aa;injection ae with ae;subst aa;subst ae;rw[<-aF];exact HU))|(refine⟨by omega,fun j c4 iQ a' aa ae aF=>?_,dp⟩;by_cases q:j<i;(exact bx j c4 iQ q aa ae aF);(obtain rfl:j=i:=by omega);(rw[ai] at ae;injection ae with ae;subst ae;exact absurd aF G1))
     ·refine ah ?_;refine ah ?_;refine ah ?_;refine W.oU rfl rfl rfl rfl rfl ?_;refine ah ?_;refine I V.aU ?_;refine ns ?_;refine ab.w' rfl ?_;refine ln ?_;refine I V.bt ?_;refine I V.ag ?_;refine a6 ?_;refine cB ⟨i+1,_⟩ ?_;first|(have nT:=dU;refine⟨by omega,fun j c4 iQ a' aa ae aF=>?_,dp.trans dU⟩;by_cases q:j<i;(exact bx j c4 iQ q aa ae aF);(obtain rfl:j=i:=by omega);(rw[hs] at aa;rw[ai] at ae;injection aa with aa;injection ae with ae;subst aa;subst ae;rw[<-aF];exact HU))|(refine⟨by omega,fun j c4 iQ a' aa ae aF=>?_,dp⟩;by_cases q:j<i;(exact bx j c4 iQ q aa ae aF);(obtain rfl:j=i:=by omega);(rw[ai] at ae;injection ae with ae;subst ae;exact absurd aF G1))
    ·refine aj ?_;refine ab.exit ?_;refine rg ?_;refine I V.aG ?_;refine aM ?_;refine ns ?_;refine ab.ret ?_;refine c5 ?_;first
        |(rw[show decide (yd g p)=true from y4 fun j s y aa ae aF=>bx j s y (by have:=(dY.1 aa).1;omega) aa ae aF]
          exact⟨rfl,rfl,KZ.trans (cF.trans dp)⟩)
end
open Classical in
def kj (g:bq):Int:=if h8 g≠0 then h8 g else if ∃p,0<=p/\p<g.pl/\¬yd g p then 13 else 0
def r3(cm:Int):List (List Int)->List (Int×Int)->Int
 |r::l,y::ys=>if(r.length:Int)≠y.2 then 3 else if r.any (hG cm 70368744177664)=true then 2 else r3 cm l ys
 |_,_=>0
def nk(g:bq)(l:List (List Int))(cm:Int):Int:=if l.length≠g.is.length then 3 else r3 cm l g.is
theorem zW{cm:Int}{l:List (List Int)}{ys:List (Int×Int)}{i:Nat}{r:List Int}{y:Int×Int}(aa:l[i]?=some r)(ae:ys[i]?=some y):r3 cm (l.drop i) (ys.drop i)=if(r.length:Int)≠y.2 then 3 else if r.any (hG cm 70368744177664)=true then 2 else r3 cm (l.drop (i+1)) (ys.drop (i+1)):=by
 have ao:=(dY.1 aa).1;have a':=(dY.1 ae).1;rw[ny ao,ny a'];have aL:l[i]=r:=by rw[dj ao] at aa;injection aa
 have bk:ys[i]=y:=by rw[dj a'] at ae;injection ae
 rw[aL,bk];rfl
theorem zX{cm:Int}{l:List (List Int)}{ys:List (Int×Int)}{i:Nat}(h:l.length<=i):r3 cm (l.drop i) (ys.drop i)=0:=by
 rw[Av h];rfl
structure gI where
 r:Int
 s:Int
 sum:List (List Int)
 pl:List (List Int)
structure jj (J:aH) (t:gI) (bs:Option Addr) (cs:Nat) (ct:Option Addr) (cE:Nat):Prop where
 s:fc J 22 1 (jW J) (.slice bs t.sum.length cs) t.sum
 p:fc J 22 1 (jW J) (.slice ct t.pl.length cE) t.pl
theorem jj.mono{J af:aH}(hle:J.le af){t:gI}{bs ct:Option Addr}{cs cE:Nat}(h:jj J t bs cs ct cE):jj af t bs cs ct cE:=⟨h.s.mono hle fun _ _ q=>q.mono hle,h.p.mono hle fun _ _ q=>q.mono hle⟩
abbrev hI(t:gI)(bs:Option Addr)(cs:Nat)(ct:Option Addr)(cE:Nat):List Value:=[.int .i64 t.r,.int .i64 t.s,.slice bs t.sum.length cs,.slice ct t.pl.length cE]
abbrev nu(t:gI)(bs:Option Addr)(cs:Nat)(ct:Option Addr)(cE:Nat):Value:=.agg (hI t bs cs ct cE).toArray
def r8 (g:bq)(t:gI):Int:=if t.r<0\/1000000<t.r\/t.s<0\/2147483646<t.s then 2 else if nk g t.sum (-70368744177664)≠0 then nk g t.sum (-70368744177664) else nk g t.pl 0
def nH (g:bq)(t:gI):Int:=if kj g≠0 then kj g else r8 g t
section
variable {Q:dD Tryz.prog}{g0:Nat}{J:aH}
theorem YK{g:bq}{aT aK:Option Addr}{aQ ci:Nat}(aq:fH J g aT aQ aK ci):
 Fn (bd Q g0) 38 [hb g aT aQ aK ci] [] J (tr (.int .i64 (kj g)) J):=by
 have fX:addrEq aK aK=true:=aq.i.addr;have gq:addrEq aT aT=true:=aq.n.addr;refine Fn.cH (cM Tryz.func38) rfl rfl fun H=>?_;refine rg ?_;refine dK fun bm=>?_;refine I V.az ?_;refine bi ?_;refine I V.c9 ?_;refine cl (G:=Oa aq) (h:=?_);rintro v m' dO ch ⟨rfl,rfl,_⟩;refine I V.az ?_;refine bi ?_;refine I V.ag ?_;refine I V.aZ ?_;refine ns ?_;refine If (fun eF=>?_) fun eF=>?_
 ·refine rg ?_;refine aM ?_;refine ns ?_;refine ab.ret ?_;refine c5 ?_;unfold kj;first
   |(have c:=eF
     rw[aE eF];exact⟨rfl,rfl,ch⟩)
   |(rw[an eF,an (fun⟨p,aa,ae,aF⟩=>aF (bx p aa (by omega)))]
     exact⟨rfl,rfl,ch.trans dp⟩)
 ·have aD:=gQ.1 eF;have dq:=GX aD;have atC:=dq.ki;refine ln ?_;refine I V.ba ?_;refine I V.aG ?_;refine I V.ag ?_;refine ns ?_;refine ab.block ?_;refine' ab.c0 (l':=[(14,.int .i64 ((0):Int)),(1,_),(13,_)]) ⟨?CK,rfl,rfl,trivial⟩ (bu _) ?_;case CK=>exact bP
  refine aj ?_;refine' ab.dF (fun(bC:Nat×aH)=>match bC with|(i,dX)=>⟨[(14,.int .i64 (i:Int))],[(bm,.row (iw g aT aQ aK ci) 27)],dX,(i:Int)<=g.pl/\(∀p:Int,0<=p->p<i->yd g p)/\dO.le dX,(g.pl -i).toNat⟩) ⟨0,dO⟩ ?hs ?bA
  case hs=>exact⟨by have:=dq.dH;omega,fun p aa ae=>by omega,aH.le.refl _⟩
  case bA=>
   rintro⟨i,dX⟩ hinv;try simp only at hinv
   obtain⟨ao,bx,dp⟩:=hinv;refine rg ?_;refine I V.aZ ?_;refine ns ?_;refine If (fun re=>?_) fun re=>?_
   ·refine aj ?_;refine ab.skip ?_;refine aj ?_;refine ab.block ?_;refine rg ?_;refine aM ?_;refine bi ?_;refine I V.c9 ?_;refine I V.ag ?_;refine cl (G:=amr (aq.mono (ch.trans dp)) aD (by omega) (by omega)) (h:=?_);rintro v m' e2 cF ⟨rfl,rfl,_⟩;refine aM ?_;refine bi ?_;refine I V.ag ?_;refine I V.aZ ?_;refine ns ?_;refine If (fun mU=>?_) fun mU=>?_
    ·exfalso;exact absurd rfl mU
    ·refine aj ?_;refine ab.skip ?_;refine rg ?_;refine I V.ag ?_;refine I V.ou ?_;refine ns ?_;refine If (fun jL=>?_) fun jL=>?_
     ·refine rg ?_;refine I V.az ?_;refine ns ?_;refine ab.ret ?_;refine c5 ?_;unfold kj;first
       |(have c:=jL
         rw[an eF,aE ⟨(i:Int),by omega,by omega,by simpa using jL⟩];exact⟨rfl,rfl,ch.trans (dp.trans cF)⟩)
       |(have c:=eF
         rw[aE eF];exact⟨rfl,rfl,ch⟩)
       |(rw[an eF,an (fun⟨p,aa,ae,aF⟩=>aF (bx p aa (by omega)))]
         exact⟨rfl,rfl,ch.trans dp⟩)
     ·refine aj ?_;refine ab.skip ?_;refine rg ?_;refine I V.bt ?_;refine I V.ag ?_;refine a6 ?_;refine cB ⟨i+1,_⟩ ?_;refine⟨by omega,fun p aa ae=>?_,dp.trans cF⟩;by_cases q:p<i;(exact bx p aa q);(obtain rfl:p=i:=by omega);(exact gQ.1 (by simpa using jL))
   ·refine aj ?_;refine ab.exit ?_;refine rg ?_;refine I V.az ?_;refine ns ?_;refine ab.ret ?_;refine c5 ?_;unfold kj;first
     |(have c:=eF
       rw[aE eF];exact⟨rfl,rfl,ch⟩)
     |(rw[an eF,an (fun⟨p,aa,ae,aF⟩=>aF (bx p aa (by omega)))]
       exact⟨rfl,rfl,ch.trans dp⟩)
theorem Ud{g:bq}{aT aK:Option Addr}{aQ ci:Nat}{l:List (List Int)}{b:Option Addr}{c:Nat}{cm:Int}(aq:fH J g aT aQ aK ci)(av:fc J 22 1 (jW J) (.slice b l.length c) l)(aa:l.length<=1000)(ae:∀r∈l,r.length<=1000):
 Fn (bd Q g0) 39 [hb g aT aQ aK ci,.slice b l.length c,.int .i64 cm] [] J (fun u m' af=>u=.int .i64 (nk g l cm)/\m'=[]/\J=af):=by
 have fX:addrEq aK aK=true:=aq.i.addr;have gq:addrEq aT aT=true:=aq.n.addr;obtain⟨_,kx⟩:=aq.i.at;obtain⟨_,qn⟩:=av.at;refine Fn.cH (cM Tryz.func39) rfl rfl fun H=>?_;refine rg ?_;refine dK fun a3=>?_;refine I V.az ?_;refine bi ?_;refine aM ?_;refine I V.aG ?_;refine I V.bL ?_;refine I V.aZ ?_;refine ns ?_;refine If (fun kN=>?_) fun kN=>?_
 ·refine rg ?_;refine I V.az ?_;refine ns ?_;refine ab.ret ?_;refine c5 ?_;refine⟨cD (Value.int .i64) ?_,rfl,rfl⟩;unfold nk;first
   |(have c:=fV;rw[an (by omega),fV,zX (by omega)])
   |rw[aE (by omega)]
 ·refine aj ?_;refine ab.skip ?_;refine rg ?_;refine aM ?_;refine ns ?_;refine ab.block ?_;refine' ab.c0 (l':=[(19,.int .i64 ((0):Int)),(2,_),(3,_),(17,_),(18,_)]) ⟨?Ji,rfl,rfl,rfl,rfl,trivial⟩ (bu _) ?_;case Ji=>exact bP
  refine aj ?_;refine' ab.dF (fun(i:Nat)=>⟨[(19,.int .i64 (i:Int))],[(a3,.row (iw g aT aQ aK ci) 27)],J,i<=l.length/\r3 cm l g.is=r3 cm (l.drop i) (g.is.drop i),l.length -i⟩) (0) ?hs ?bA;case hs=>exact⟨cy _,rfl⟩
  case bA=>
   rintro i hinv;try simp only at hinv
   obtain⟨ao,fV⟩:=hinv;refine rg ?_;refine I V.aZ ?_;refine ns ?_;refine If (fun w6=>?_) fun w6=>?_
   ·obtain⟨FY,IH,Gt,GH,rfl,l9,uf⟩:=qn (by omega);obtain⟨r,vn,aw,vL,mg,jn,ks,rfl,oi⟩:=uf i (by omega) (by omega);have sP:=mg 0 _ (by decide) rfl;obtain⟨g',jx,vl,vu,rfl,mD,me⟩:=kx (by omega);obtain⟨y,xa,ai,ub,mf,rfl⟩:=me i (by omega) (by omega);have V':=mf 1 _ (by decide) rfl;rw[cx] at aw ai;have pH:=ae r (cb aw);have kf:=oi.iH [];refine c7 ?_;refine aj ?_;refine ab.block ?_;refine rg ?_;refine I V.ag ?_;refine I V.aW ?_;refine I V.aG ?_;refine aM ?_;refine bi ?_;refine aM ?_;refine I V.aG ?_;refine I V.ag ?_;refine I V.aW ?_;refine I V.ba ?_;refine I V.aG ?_;refine I V.aZ ?_;refine ns ?_;refine If (fun mV=>?_) fun mV=>?_
    ·refine rg ?_;refine I V.az ?_;refine ns ?_;refine ab.ret ?_;refine c5 ?_;refine⟨cD (Value.int .i64) ?_,rfl,rfl⟩;unfold nk;first
       |(have c:=mV;rw[an (by omega),fV,zW aw ai,aE mV])
       |(have c:=fV;rw[an (by omega),fV,zX (by omega)])
       |rw[aE (by omega)]
    ·refine aj ?_;refine ab.skip ?_;refine rg ?_;refine aM ?_;refine ns ?_;refine ab.block ?_;refine' ab.c0 (l':=[(35,.int .i64 ((0):Int)),(2,_),(3,_),(17,_),(18,_),(19,_),(33,_),(34,_)]) ⟨?aaq,rfl,rfl,rfl,rfl,rfl,rfl,rfl,trivial⟩ (bu _) ?_;case aaq=>exact bP
     refine aj ?_;refine' ab.dF (fun(k:Nat)=>⟨[(35,.int .i64 (k:Int))],[(a3,.row (iw g aT aQ (some ⟨g',jx,none⟩) ci) 27)],J,k<=r.length/\(r.take k).any (hG cm 70368744177664)=false,r.length -k⟩) (0) ?hs ?bA;case hs=>exact⟨cy _,rfl⟩
     case bA=>
      rintro k hinv;try simp only at hinv
      obtain⟨aO,ry⟩:=hinv;refine rg ?_;refine I V.aZ ?_;refine ns ?_;refine If (fun fW=>?_) fun fW=>?_
      ·obtain⟨mw,i',oP,rfl,BH,ic⟩:=kf (by omega);obtain⟨x,U,e4⟩:=ic k (by omega) (by omega);refine c7 ?_;refine aj ?_;refine ab.block ?_;refine rg ?_;refine I V.aW ?_;refine' W.step rfl (Exec.val rfl rfl (gP rfl rfl ?aw (ho (eW rfl) ?ay)) ?_);case aw=>exact BH.sub (fun _ q=>by cases q)
       case ay=>first|rfl|assumption
       refine I V.az ?_;refine a6 ?_;refine fR [10,2,3,17,18,19,33,34,35] ?_;refine aj ?_;refine' ab.hl 1 [(45,.bool (decide ((x<cm\/70368744177664<x))))] ?NJ ?NS;case NJ=>
        refine ab.region ?_;refine aM ?_;refine I V.aZ ?_;refine I V.ag ?_;refine dr 42 (fun vE=>?_) fun vE=>?_
        ·refine ah ?_;refine ah ?_;refine I V.aU ?_;refine a6 ?_;exact ce
        ·refine aX V.ag ?_;refine aX V.aZ ?_;refine I V.aU ?_;refine a6 ?_;exact ce
       case NS=>
        refine aj ?_;refine If (fun j9=>?_) fun j9=>?_
        ·refine rg ?_;refine I V.az ?_;refine ns ?_;refine ab.ret ?_;refine c5 ?_;refine⟨cD (Value.int .i64) ?_,rfl,rfl⟩;unfold nk;first
          |(have c:=j9;rw[an (by omega),fV,zW aw ai,an mV,aE (J4 U (by simp[hG];omega))])
          |(have c:=mV;rw[an (by omega),fV,zW aw ai,aE mV])
          |(have c:=fV;rw[an (by omega),fV,zX (by omega)])
          |rw[aE (by omega)]
        ·refine aj ?_;refine ab.skip ?_;refine rg ?_;refine I V.bt ?_;refine I V.ag ?_;refine a6 ?_;refine cB (k+1) ?_;exact⟨by omega,Na U ry (by simp[hG];omega)⟩
      ·refine aj ?_;refine ab.exit ?_;refine rg ?_;refine I V.bt ?_;refine I V.ag ?_;refine a6 ?_;refine cB (i+1) ?_;refine⟨by omega,?_⟩;rw[fV,zW aw ai,an mV,an (by rw[eo (by omega)] at ry;rw[ry];exact CU)]
   ·refine aj ?_;refine ab.exit ?_;refine rg ?_;refine I V.az ?_;refine ns ?_;refine ab.ret ?_;refine c5 ?_;refine⟨cD (Value.int .i64) ?_,rfl,rfl⟩;unfold nk;first
     |(have c:=fV;rw[an (by omega),fV,zX (by omega)])
     |rw[aE (by omega)]
theorem acT{g:bq}{aT aK:Option Addr}{aQ ci:Nat}{t:gI}{bs ct:Option Addr}{cs cE:Nat}(aq:fH J g aT aQ aK ci)(aB:jj J t bs cs ct cE)(aa:t.sum.length<=1000)(ae:∀r∈t.sum,r.length<=1000)(aF:t.pl.length<=1000)(bo:∀r∈t.pl,r.length<=1000):
 Fn (bd Q g0) 18 [hb g aT aQ aK ci,nu t bs cs ct cE] [] J (tr (.int .i64 (nH g t)) J):=by
 have fX:addrEq aK aK=true:=aq.i.addr;have gq:addrEq aT aT=true:=aq.n.addr;refine Fn.cH (cM Tryz.func18) rfl rfl fun H=>?_;refine rg ?_;refine dK fun a2=>?_;refine dK fun a3=>?_;refine I V.az ?_;refine bi ?_;refine I V.c9 ?_;refine cl (G:=YK aq) (h:=?_);rintro v m' dO ch ⟨rfl,rfl,_⟩;refine I V.az ?_;refine bi ?_;refine I V.ag ?_;refine I V.aZ ?_;refine ns ?_;refine If (fun eF=>?_) fun eF=>?_
 ·refine rg ?_;refine aM ?_;refine ns ?_;refine ab.ret ?_;refine c5 ?_;refine⟨cD (Value.int .i64) ?_,rfl,ch⟩;unfold nH r8;first
   |rw[aE eF]
 ·refine aj ?_;refine ab.skip ?_;refine fR [2,3] ?_;refine aj ?_;refine' ab.hl 0 [(19,.bool (decide ((t.r<0\/1000000<t.r))))] ?tF ?tI;case tF=>
   refine ab.region ?_;refine I V.ba ?_;refine I V.aG ?_;refine I V.aZ ?_;refine I V.ag ?_;refine dr 15 (fun py=>?_) fun py=>?_
   ·refine ah ?_;refine ah ?_;refine ah ?_;refine I V.aU ?_;refine a6 ?_;exact ce
   ·refine aX V.ba ?_;refine aX V.aG ?_;refine aX V.aZ ?_;refine I V.aU ?_;refine a6 ?_;exact ce
  case tI=>
   refine aj ?_;refine If (fun hA=>?_) fun hA=>?_
   ·refine rg ?_;refine I V.az ?_;refine ns ?_;refine ab.ret ?_;refine c5 ?_;refine⟨cD (Value.int .i64) ?_,rfl,ch⟩;unfold nH r8;first
     |(have c:=hA;rw[an eF,aE (by omega)])
     |rw[aE eF]
   ·refine aj ?_;refine ab.skip ?_;refine fR [2,3] ?_;refine aj ?_;refine' ab.hl 0 [(27,.bool (decide ((t.s<0\/2147483646<t.s))))] ?adA ?aem;case adA=>
     refine ab.region ?_;refine I V.ba ?_;refine I V.aG ?_;refine I V.aZ ?_;refine I V.ag ?_;refine dr 23 (fun agE=>?_) fun agE=>?_
     ·refine ah ?_;refine ah ?_;refine ah ?_;refine I V.aU ?_;refine a6 ?_;exact ce
     ·refine aX V.ba ?_;refine aX V.aG ?_;refine aX V.aZ ?_;refine I V.aU ?_;refine a6 ?_;exact ce
    case aem=>
     refine aj ?_;refine If (fun jL=>?_) fun jL=>?_
     ·refine rg ?_;refine I V.az ?_;refine ns ?_;refine ab.ret ?_;refine c5 ?_;refine⟨cD (Value.int .i64) ?_,rfl,ch⟩;unfold nH r8;first
       |(have c:=jL;rw[an eF,aE (by omega)])
       |(have c:=hA;rw[an eF,aE (by omega)])
       |rw[aE eF]
     ·refine aj ?_;refine ab.skip ?_;refine rg ?_;refine I V.c9 ?_;refine I V.ba ?_;refine I V.aG ?_;refine cl (G:=Ud (aq.mono ch) (aB.mono ch).s aa ae) (h:=?_);rintro v m' e2 cF ⟨rfl,rfl,rfl⟩;refine I V.az ?_;refine bi ?_;refine I V.ag ?_;refine I V.aZ ?_;refine ns ?_;refine If (fun ps=>?_) fun ps=>?_
      ·refine rg ?_;refine aM ?_;refine ns ?_;refine ab.ret ?_;refine c5 ?_;refine⟨cD (Value.int .i64) ?_,rfl,ch⟩;unfold nH r8;first
         |(have c:=ps
           first
              |rw[an eF,an (by omega),aE ps]
              |rw[an eF,an (by omega),an ps])
         |(have c:=jL;rw[an eF,aE (by omega)])
         |(have c:=hA;rw[an eF,aE (by omega)])
         |rw[aE eF]
      ·refine aj ?_;refine ab.skip ?_;refine rg ?_;refine I V.c9 ?_;refine I V.ba ?_;refine I V.aG ?_;refine cl (G:=Ud (aq.mono ch) (aB.mono ch).p aF bo) (h:=?_);rintro v m' jV dU ⟨rfl,rfl,rfl⟩;refine I V.az ?_;refine ns ?_;refine ab.ret ?_;refine c5 ?_;refine⟨cD (Value.int .i64) ?_,rfl,ch⟩;unfold nH r8;first
         |(have c:=ps
           first
              |rw[an eF,an (by omega),aE ps]
              |rw[an eF,an (by omega),an ps])
         |(have c:=jL;rw[an eF,aE (by omega)])
         |(have c:=hA;rw[an eF,aE (by omega)])
         |rw[aE eF]
end
end
end Go.Opn
