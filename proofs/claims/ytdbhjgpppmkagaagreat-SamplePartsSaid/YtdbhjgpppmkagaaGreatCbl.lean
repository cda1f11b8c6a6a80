/- A part of the proof of SampleParts. -/
import Derived.Test.YtdbhjgpppmkagaaGreatCbk
set_option maxRecDepth 100000
set_option maxHeartbeats 4000000
set_option linter.unusedVariables false
set_option linter.unusedSimpArgs false
namespace Go.Opn
noncomputable section
open Go.Cre Go.RowKit Go.Proofs
section
variable {Q:db Tryz.prog}{g0:Nat}{J:aA}{am ad:Nat}{lv fs fB e8:Value}{az gC a4:aI}{aY h8:Int}{s:Bool}{pl:Nat}{c5:Option Addr}{cl a:Nat}{l:List Int}{σ:dX}
theorem aaf{info bQ:Int}{z:Bool}(au:bQ<0)(eA:aI):
 Fn (a2 Q g0) 34 [.pointer (some ⟨am,0,none⟩),.int .i64 info,.int .i64 bQ] eA J (fun u m' ag=>J=ag/\m'=eA):=by
 refine Fn.dw (dB Tryz.func34) rfl rfl fun H=>?_;refine rg ?_;refine U V.az ?_;refine U V.bm ?_;refine U V.az ?_;refine eu 9 (fun Lv=>?_) fun Lv=>?_
 ·refine a0 ?_;refine a0 ?_;refine a0 ?_;refine a0 ?_;refine a0 ?_;refine a0 ?_;refine a0 ?_;refine a0 ?_;refine a0 ?_;refine U V.bc ?_;refine ns ?_;refine ae.Rd rfl ?_;refine aJ ?_;refine ae.ret ?_;refine'⟨.inr rfl,rfl,_,_,.nil,bV _,⟨rfl,rfl⟩⟩
 ·exfalso;omega
theorem afK{info:Nat}{bQ:Int}(h:iY J σ a l fs fB e8 az gC a4)(nW:σ.is.length=σ.vs.length)(ak:info<σ.is.length)(aM:0<σ.ns.length)(df:σ.ns.length<=100000)(vx:σ.is.length<=100000):
 Fn (a2 Q g0) 34 [.pointer (some ⟨am,0,none⟩),.int .i64 (info:Int),.int .i64 bQ] (iA am ad lv aY s pl c5 cl l h8 a fs fB e8 az gC a4) J (fun u m' ag=>J=ag/\∃n9 nZ,m'=iA am ad lv aY s pl c5 cl l h8 a n9 fB nZ az gC a4/\iY J (iK (info:Int) bQ σ) a l n9 fB nZ az gC a4):=by
 obtain⟨eY,ap,p6⟩:=h.v;obtain⟨aP,xn,q9⟩:=h.n;obtain⟨ci,hQ,tR⟩:=h.i;obtain⟨bK,fv,rv,rfl,rfl,Mo,rh⟩:=ap.row (by omega);obtain⟨a1,fn,rn,rfl,rfl,ra,rf⟩:=xn.row (by omega);obtain⟨j6,w7,l6,rfl,rfl,Ml,adH⟩:=hQ.row (by omega);subst ra;refine((aah (am:=am) (ad:=ad) (lv:=lv) (aY:=aY) (h8:=h8) (z:=false) (s:=s) (pl:=pl) (bK:=bK) (a1:=a1) (j6:=j6) (bQ:=bQ) (info:=(info:Int)) (fv:=fv) (rv:=rv) (w7:=w7) (l6:=l6) (rn:=rn) q9 (by omega) nW.symm (by omega) df vx).frame (b2:=[jM ad c5 cl l a]) ?_).perm ?_
 ·exact(jn (l₂:=[jM ad c5 cl l a])).trans (List.Perm.swap _ _ _)
 ·rintro v m' ag ⟨_,eM,rfl,rfl,k,rfl,aH⟩
  refine⟨_,(jn (l₂:=[jM ad c5 cl l a])).trans (List.Perm.swap _ _ _),rfl,_,_,rfl,?_⟩;by_cases bx:bQ<0\/(info:Int)≠(σ.is.length:Int) -1
  ·rw[aF bx] at aH
   have e:iK (info:Int) bQ σ=σ:=by unfold iK;rw[aF bx]
   rw[e,aH,nW];rw[nW] at h;exact h
  ·rw[aq bx] at aH
   by_cases bT:uB (info:Int) σ.ns=true
   ·rw[aF bT] at aH
    have e:iK (info:Int) bQ σ=σ:=by unfold iK;rw[aq bx,aF bT]
    rw[e,aH,nW];rw[nW] at h;exact h
   ·rw[aq bT] at aH
    have e:iK (info:Int) bQ σ={σ with is:=σ.is.take (info:Int).toNat,vs:=σ.vs.take (σ.vs.length -1)}:=by unfold iK;rw[aq bx,aq bT]
    rw[e];have aH:k=info:=by omega
    have jg:info=σ.vs.length -1:=by omega
    subst aH;refine⟨h.le,h.ik,⟨(fv.take (k*4)),?_,?_⟩,h.n,⟨w7.take (k*2),?_,?_⟩,fun x I=>h.sY x (uM I)⟩
    ·show hf _ _ _ (σ.vs.take _).length _ _
     rw[fc,<-jg,k4 (by omega)];exact hf.of (by omega)
    ·have:=p6.take (k:=k) (by omega)
     rw[<-Mo,uN,k4 (by omega)] at this;rw[<-jg];exact this
    ·show hf _ _ _ (σ.is.take _).length _ _
     rw[fc,ea,k4 (by omega)];exact hf.of (by omega)
    ·have:=tR.take (k:=k) (by omega)
     rw[<-Ml,uN,k4 (by omega)] at this;rw[ea];exact this
end
end
end Go.Opn
