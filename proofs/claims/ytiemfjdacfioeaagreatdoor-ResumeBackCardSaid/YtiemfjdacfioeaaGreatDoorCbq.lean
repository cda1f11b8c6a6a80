/- A part of the proof of ResumeBack. -/
import Derived.Test.YtiemfjdacfioeaaGreatDoorCbp
import Derived.Test.YtiemfjdacfioeaaGreatDoorCbo
set_option maxRecDepth 100000
set_option maxHeartbeats 8000000
set_option linter.unusedVariables false
set_option linter.unusedSimpArgs false
namespace Go.Opn
noncomputable section
open Go.Cre Go.RowKit Go.Proofs
open Classical in
theorem jm{α:Type}{l r:List α}(h:l.Perm r:=by rw[List.perm_iff_count];intro z;simp only[List.count_append,List.count_cons,List.count_nil,me,gg];omega):l.Perm r:=h
def oo(ih:List Int->Value->Nat×cK->Prop)(bP:List (List Int))(cells:List Value)(bs:aO):Prop:=cells.length=bP.length/\bs.length=bP.length/\∀(j:Nat) l w x,bP[j]?=some l->cells[j]?=some w->bs[j]?=some x->ih l w x
theorem oo.nil{ih:List Int->Value->Nat×cK->Prop}:oo ih [] [] []:=⟨rfl,rfl,fun j l w x h=>by cases h⟩
theorem oo.app{ih:List Int->Value->Nat×cK->Prop}{bP:List (List Int)}{cells:List Value}{bs:aO}{l:List Int}{w:Value}{x:Nat×cK}(h:oo ih bP cells bs)(U:ih l w x):oo ih (bP++[l]) (cells++[w]) (bs++[x]):=by
 obtain⟨aa,ae,aG⟩:=h;refine⟨by simp[aa],by simp[ae],fun j l' bu dT g1 g2 g3=>?_⟩;rcases vu g1 with p|⟨dS,iz⟩
 ·have ba:=eT p
  rw[lq (by omega)] at g2 g3;exact aG j l' bu dT p g2 g3
 ·rw[dS,<-aa,qb] at g2
  rw[dS,<-ae,qb] at g3;injection g2 with g2;injection g3 with g3
  rw[iz,<-g2,<-g3];exact U
theorem oo.take{ih:List Int->Value->Nat×cK->Prop}{bP:List (List Int)}{cells:List Value}{bs:aO}{i:Nat}{l:List Int}{w:Value}{x:Nat×cK}(h:oo ih (bP.take i) cells bs)(av:bP[i]?=some l)(U:ih l w x):oo ih (bP.take (i+1)) (cells++[w]) (bs++[x]):=by
 rw[nS,av];exact h.app U
theorem oo.d2{ih:List Int->Value->Nat×cK->Prop}{bP:List (List Int)}{cells:List Value}{bs:aO}{J:aI}{e:TypeId}{v:Value}(h:oo ih bP cells bs)(az:hL J e 1 v bP.length cells):eK ih J e v bP bs:=eK.snoc az h.2.2 h.2.1
theorem Acc.WI{w:Value}{k:Nat}{cells:List Value}{aY:aO}{r:List Int}(h:Acc 3 1 w k cells aY)(bN:z0 aY)(aP:my aY)(aU:k=r.length)(aH:cells=r.map (Value.int .i64))(aa:1<=r.length):∃x,aY=[x]/\nq r w x:=by
 cases h with
 |nil=>omega
 |kp a=>omega
 |@opn a k cells rest z av ug=>
  have:z=0:=bN _ _ _ _ _ (.head _);subst this;subst aU;subst aH;exact⟨_,rfl,a,rest,rfl,rfl⟩
 |cap=>exact absurd (List.Mem.head _) (aP _ _ _)
theorem Mf:z0 []:=fun a c e r z h=>by cases h
theorem Ey:my []:=fun a c e h=>by cases h
section
variable {Q:dI Tryz.prog}{g0:Nat}{J:aI}
open Classical in
theorem XX{t:gI}{bs cu:Option Addr}{cs cD:Nat}(aD:iS J t bs cs cu cD)(av:t.sum.length=t.pl.length)(N6:t.sum.length<=60)(aa:∀r∈t.sum,1<=r.length/\r.length<=60)(ae:∀r∈t.pl,1<=r.length/\r.length<=60):
 Fn (bb Q g0) 36 [mG t bs cs cu cD] [] J (fun u m' ag=>J.le ag/\∃bm fA bt bl z2 bw s1 s2,fA=t.sum.length/\z2=t.pl.length/\u=.agg #[.int .i64 t.r,.int .i64 t.s,.slice bm fA bt,.slice bl z2 bw]/\m'=s1++s2/\eK nq ag 22 (.slice bm fA bt) t.sum s1/\eK nq ag 22 (.slice bl z2 bw) t.pl s2):=by
 have sV:addrEq bs bs=true:=aD.s.addr;have zP:addrEq cu cu=true:=aD.p.addr;refine Fn.cH (cQ Tryz.func36) rfl rfl fun H=>?_;refine rg ?_;refine dJ fun bo=>?_;refine' W.step rfl (.of (e4 rfl rfl rfl (ln Q g0) rfl rfl rfl fun a2=>?_));refine bj ?_;refine I V.bc ?_;refine I V.bO ?_;refine I V.bc ?_;refine I V.bO ?_;refine I V.jL ?_;refine' W.step rfl (.of (e4 rfl rfl rfl (ln Q g0) rfl rfl rfl fun a3=>?_));refine dN ?_;refine bj ?_;refine I V.aA ?_;refine ns ?_;refine ab.block ?_;refine' ab.c2 (l':=[(4,.int .i64 ((0):Int)),(1,_),(2,_),(3,_)]) ⟨?kF,rfl,rfl,rfl,trivial⟩ (bA _) ?_;case kF=>exact bS
 refine aj ?_;refine' ab.dF (fun(bH:Nat×Value×(List Value)×aO×aO×Value×(List Value)×aO×aO)=>match bH with|(i,v1,d1,m1,s1,v2,d2,m2,s2)=>⟨[(4,.int .i64 (i:Int))],m1++(m2++(s1++(s2++[(a3,.row [.int .i64 t.r,.int .i64 t.s,v1,v2] 30),(a2,.row [.int .i64 0,.int .i64 0,.slice none 0 0,.slice none 0 0] 30),(bo,.row (hI t bs cs cu cD) 30)]))),J,i<=t.sum.length/\Acc 22 1 v1 i d1 m1/\Acc 22 1 v2 i d2 m2/\oo nq (t.sum.take i) d1 s1/\oo nq (t.pl.take i) d2 s2,t.sum.length -i⟩) ⟨0,.slice none 0 0,[],[],[],.slice none 0 0,[],[],[]⟩ ?af ?bE
 case af=>exact⟨cB _,.nil,.nil,oo.nil,oo.nil⟩
 case bE=>
  rintro⟨i,v1,d1,m1,s1,v2,d2,m2,s2⟩ hinv;try simp only at hinv
  obtain⟨ao,UW,UX,N7,xc⟩:=hinv;obtain⟨MS,Nk,rfl,atY⟩:=UW.iJ;obtain⟨wK,wU,rfl,amH⟩:=UX.iJ;refine rg ?_;refine aM ?_;refine I V.bO ?_;refine I V.bP ?_;refine I V.a1 ?_;refine ns ?_;refine If (fun ly=>?_) fun ly=>?_
  ·obtain⟨wF,xU,Na,Nv,r,jd,ko,rfl,GU,ay,Hn,n9⟩:=qG aD.s (i:=i) (by omega) (by omega);obtain⟨wG,xV,Nb,Nw,q,aqs,TT,rfl,Ob,c7,KN,aiO⟩:=qG aD.p (i:=i) (by omega) (by omega);rw[cy] at ay c7;have rA:=aa r (cd ay);have ue:=ae q (cd c7);have sv:=Acc.kp (e:=3) (sz:=1);refine c5 ?_;refine aj ?_;refine ab.block ?_;refine aj ?_;refine ab.draw rfl (by kernel_rfl) (bf:=[.gh 2,.val 0,.val 1,.val 3,.val 4,.val 5,.val 6,.val 7,.bV 8,.gh 9,.cF [1,0],.bV 10,.val 11,.bV 12]) (by kernel_rfl) ?_;refine a7.buildSlice rfl rfl rfl rfl rfl rfl (eX Q g0) rfl rfl rfl fun lP=>?_;refine an rfl V.bc ?_;refine an rfl V.bO ?_;refine an rfl V.bc ?_;refine an rfl V.bO ?_;refine an rfl V.ah ?_;refine an rfl V.aX ?_;refine an rfl V.bO ?_;refine' a7.fO rfl rfl (Ai rfl rfl rfl rfl rfl rfl (eX Q g0) (pO Q g0) (fun i q=>by cases q) ?cw ?hm ?U ?cr ?cc ?av fun I1 Xj DP WD=>?_);case cw=>exact .kp _
   case hm=>exact .refl _
   case U=>exact n9.rd
   case cr=>first|rfl|(simp;done)|(simp;omega)
   case cc=>first|rfl|exact hg _
   case av=>exact cf
   obtain⟨C0,oA,rfl⟩:=DP.form;obtain⟨jH,rfl,Eh⟩:=DP.WI (r:=r) (WD.1 Mf) (WD.2 Ey) (by omega) (by simp) rA.1;refine a7.buildSlice rfl rfl rfl rfl rfl rfl (nl Q g0) rfl rfl rfl fun MC=>?_;refine a7.cF fC ?_;refine' a7.fO rfl rfl (kf rfl rfl rfl rfl rfl rfl (nl Q g0) (Cr Q g0) (fun i q=>by cases q) ?cw ?hm ?U ?cr ?cc ?av fun aus Ew Vh=>?_);case cw=>assumption
   case hm=>exact jm (r:=m1++((MC,.row [.slice C0 (0+r.length) oA] 22)::(jH::((lP,.row (gG [Value.int .i64 0] 0) 3)::(m2++(s1++(s2++[(a3,.row [.int .i64 t.r,.int .i64 t.s,.slice MS i Nk,.slice wK i wU] 30),(a2,.row [.int .i64 0,.int .i64 0,.slice none 0 0,.slice none 0 0] 30),(bo,.row (hI t (some ⟨wF,xU,none⟩) cs (some ⟨wG,xV,none⟩) cD) 30)])))))))
   case U=>exact hP
   case cr=>first|rfl|(simp;done)|(simp;omega)
   case cc=>first|rfl|exact hg _
   case av=>exact cf
   obtain⟨yN,yU,rfl,at2⟩:=Vh.iJ;refine an rfl V.bc ?_;refine kW rfl ?_;refine a7.nil ?_;refine ab.eF (m':=Ew++(m2++((s1++[jH])++(s2++[(a3,.row [.int .i64 t.r,.int .i64 t.s,.slice yN (i+1) yU,.slice wK i wU] 30),(a2,.row [.int .i64 0,.int .i64 0,.slice none 0 0,.slice none 0 0] 30),(bo,.row (hI t (some ⟨wF,xU,none⟩) cs (some ⟨wG,xV,none⟩) cD) 30)])))) (iy:=[(MC,.row [.slice C0 (0+r.length) oA] 22),(lP,.row (gG [Value.int .i64 0] 0) 3)]) (jm (r:=Ew++((MC,.row [.slice C0 (0+r.length) oA] 22)::(jH::((lP,.row (gG [Value.int .i64 0] 0) 3)::(m2++(s1++(s2++[(a3,.row [.int .i64 t.r,.int .i64 t.s,.slice yN (i+1) yU,.slice wK i wU] 30),(a2,.row [.int .i64 0,.int .i64 0,.slice none 0 0,.slice none 0 0] 30),(bo,.row (hI t (some ⟨wF,xU,none⟩) cs (some ⟨wG,xV,none⟩) cD) 30)])))))))) ?_;refine aj ?_;refine ab.draw rfl (by kernel_rfl) (bf:=[.gh 2,.val 0,.val 1,.val 3,.val 4,.val 5,.val 6,.val 7,.bV 8,.gh 9,.cF [1,0],.bV 10,.val 11,.bV 12]) (by kernel_rfl) ?_;refine a7.buildSlice rfl rfl rfl rfl rfl rfl (eX Q g0) rfl rfl rfl fun a31=>?_;refine an rfl V.bc ?_;refine an rfl V.bO ?_;refine an rfl V.bc ?_;refine an rfl V.bO ?_;refine an rfl V.ah ?_;refine an rfl V.aX ?_;refine an rfl V.bO ?_;refine' a7.fO rfl rfl (Ai rfl rfl rfl rfl rfl rfl (eX Q g0) (pO Q g0) (fun i q=>by cases q) ?cw ?hm ?U ?cr ?cc ?av fun Z5 xQ xf WE=>?_);case cw=>exact .kp _
   case hm=>exact .refl _
   case U=>exact aiO.rd
   case cr=>first|rfl|(simp;done)|(simp;omega)
   case cc=>first|rfl|exact hg _
   case av=>exact cf
   obtain⟨JJ,oB,rfl⟩:=xf.form;obtain⟨jV,rfl,sI⟩:=xf.WI (r:=q) (WE.1 Mf) (WE.2 Ey) (by omega) (by simp) ue.1;refine a7.buildSlice rfl rfl rfl rfl rfl rfl (nl Q g0) rfl rfl rfl fun lQ=>?_;refine a7.cF fC ?_;refine' a7.fO rfl rfl (kf rfl rfl rfl rfl rfl rfl (nl Q g0) (Cr Q g0) (fun i q=>by cases q) ?cw ?hm ?U ?cr ?cc ?av fun aut Qk Vj=>?_);case cw=>assumption
   case hm=>exact jm (r:=m2++((lQ,.row [.slice JJ (0+q.length) oB] 22)::(jV::((a31,.row (gG [Value.int .i64 0] 0) 3)::(Ew++((s1++[jH])++(s2++[(a3,.row [.int .i64 t.r,.int .i64 t.s,.slice yN (i+1) yU,.slice wK i wU] 30),(a2,.row [.int .i64 0,.int .i64 0,.slice none 0 0,.slice none 0 0] 30),(bo,.row (hI t (some ⟨wF,xU,none⟩) cs (some ⟨wG,xV,none⟩) cD) 30)])))))))
   case U=>exact hP
   case cr=>first|rfl|(simp;done)|(simp;omega)
   case cc=>first|rfl|exact hg _
   case av=>exact cf
   obtain⟨va,vi,rfl,amK⟩:=Vj.iJ;refine an rfl V.bc ?_;refine kW rfl ?_;refine a7.nil ?_;refine ab.eF (m':=Ew++(Qk++((s1++[jH])++((s2++[jV])++[(a3,.row [.int .i64 t.r,.int .i64 t.s,.slice yN (i+1) yU,.slice va (i+1) vi] 30),(a2,.row [.int .i64 0,.int .i64 0,.slice none 0 0,.slice none 0 0] 30),(bo,.row (hI t (some ⟨wF,xU,none⟩) cs (some ⟨wG,xV,none⟩) cD) 30)])))) (iy:=[(lQ,.row [.slice JJ (0+q.length) oB] 22),(a31,.row (gG [Value.int .i64 0] 0) 3)]) (jm (r:=Qk++((lQ,.row [.slice JJ (0+q.length) oB] 22)::(jV::((a31,.row (gG [Value.int .i64 0] 0) 3)::(Ew++((s1++[jH])++(s2++[(a3,.row [.int .i64 t.r,.int .i64 t.s,.slice yN (i+1) yU,.slice va (i+1) vi] 30),(a2,.row [.int .i64 0,.int .i64 0,.slice none 0 0,.slice none 0 0] 30),(bo,.row (hI t (some ⟨wF,xU,none⟩) cs (some ⟨wG,xV,none⟩) cD) 30)])))))))) ?_;refine rg ?_;refine I V.ah ?_;refine I V.bx ?_;refine I V.aA ?_;refine a8 ?_;refine cA ⟨i+1,.slice yN (i+1) yU,d1++[.slice C0 (0+r.length) oA],Ew,s1++[jH],.slice va (i+1) vi,d2++[.slice JJ (0+q.length) oB],Qk,s2++[jV]⟩ ?_;exact⟨by omega,Vh,Vj,N7.take ay Eh,xc.take c7 sI⟩
  ·refine aj ?_;refine ab.exit ?_;obtain rfl:i=t.sum.length:=by omega
   refine UW.hx (.refl _) fun dQ ck ai6=>?_;refine UX.hx (.refl _) fun eZ cE xE=>?_;rw[qV] at N7;rw[av,qV] at xc;refine ab.gB (m':=(s1++s2)++[(a3,.row [.int .i64 t.r,.int .i64 t.s,.slice MS t.sum.length Nk,.slice wK t.sum.length wU] 30),(a2,.row [.int .i64 0,.int .i64 0,.slice none 0 0,.slice none 0 0] 30),(bo,.row (hI t bs cs cu cD) 30)]) (by rw[gH]) ?_;refine rg ?_;refine I V.gW ?_;refine dN ?_;refine ns ?_;refine ab.ret ?_;refine'⟨.inr rfl,rfl,_,_,.cell rfl (by repeat first|exact .head _|refine .tail _ ?_|refine h2 _ ?_) (l8 (eV rfl) rfl) (.nil),pZ _ _,⟨ck.trans cE,MS,_,Nk,wK,_,wU,s1,s2,rfl,av,rfl,rfl,(N7.d2 ai6).mono cE,xc.d2 (by rw[<-av];exact xE)⟩⟩
end
end
end Go.Opn
namespace Go.Opn
noncomputable section
def IR(gE:List (List Int)×List Int)(x:cS):List (List Int)×List Int:=if x.k=1 then(gE.1++[x.ws],gE.2++[(gE.1.length:Int)]) else(gE.1,gE.2++[-1])
def IQ(p:Int)(gE:List (List Int)×List Int)(y:(Int×Int)×List Int):List (List Int)×List Int:=if y.1.1≠p then(gE.1++[y.2],gE.2++[(gE.1.length:Int)]) else(gE.1,gE.2++[-1])
def gy(g:bz)(n:Nat):List (List Int)×List Int:=(g.ns.take n).foldl IR ([],[])
def gT(g:bz)(S:List (List Int))(p:Int)(n:Nat):List (List Int)×List Int:=((g.is.zip S).take n).foldl (IQ p) ((gy g g.ns.length).1,[])
def se(g:bz)(S:List (List Int))(p:Int):List (List Int):=(gT g S p g.is.length).1
theorem M7{g:bz}{n:Nat}{x:cS}(h:g.ns[n]?=some x):gy g (n+1)=IR (gy g n) x:=by
 unfold gy;rw[nS,h,Sv,Jn];rfl
theorem M6{g:bz}{S:List (List Int)}{p:Int}{n:Nat}{y:Int×Int}{r:List Int}(h:g.is[n]?=some y)(ay:S[n]?=some r):gT g S p (n+1)=IQ p (gT g S p n) (y,r):=by
 have e:(g.is.zip S)[n]?=some (y,r):=Si.2 ⟨h,ay⟩;unfold gT;rw[nS,e,Sv,Jn];rfl
def FD(l:List Int):Prop:=(∀v∈l,0<=v)/\1<=l.sum/\l.sum<=65536/\1<=l.length/\l.length<=3
theorem AH{g:bz}(hw:iP g):∀n,n<=g.ns.length->(gy g n).2.length=n/\(gy g n).1.length<=n/\(∀l∈(gy g n).1,FD l)/\
 (∀(j:Nat) (x:cS),j<n->g.ns[j]?=some x->(x.k=1->∃a:Nat,(gy g n).2[j]?=some (a:Int)/\(gy g n).1[a]?=some x.ws)/\(x.k≠1->(gy g n).2[j]?=some (-1)))
 |0,_=>⟨rfl,cZ _,⟨fun l h=>absurd h Jr,fun j x h=>by omega⟩⟩
 |n+1,aP=>by
  obtain⟨aa,ae,aG,br⟩:=AH hw n (by omega);have U:=de (l:=g.ns) (i:=n) (by omega);generalize g.ns[n]=x at U;rw[M7 U];have jR:=cd U;unfold IR;split
  ·rename_i aU;refine⟨by simp[aa],by simp;omega,fun l av=>?_,fun j y ba ai=>?_⟩
   ·rcases kX.1 av with q|q
    ·exact aG l q
    ·obtain rfl:l=x.ws:=by simpa using q
     rcases hw.kind x jR with⟨bp,_⟩|⟨_,bC,b5,da,gM⟩|⟨bp,_⟩
     ·omega
     ·have s1:=Zg (l:=x.ws) (b:=1) fun v az=>(gM v az).1;have s2:=LZ (l:=x.ws) (b:=3) fun v az=>(gM v az).2;exact⟨fun v az=>by have:=gM v az;omega,by omega,by omega,by omega,by omega⟩
     ·omega
   ·by_cases q:j<n
    ·obtain⟨g1,g2⟩:=br j y q ai;refine⟨fun e=>?_,fun e=>?_⟩
     ·obtain⟨a,bo,a2⟩:=g1 e;have:=(dX.1 a2).1;exact⟨a,by rw[lq (by omega)];exact bo,by rw[lq this];exact a2⟩
     ·rw[lq (by omega)];exact g2 e
    ·obtain rfl:j=n:=by omega
     rw[U] at ai;injection ai with ai;subst ai
     refine⟨fun _=>⟨(gy g j).1.length,?_,?_⟩,fun e=>absurd aU e⟩
     ·have:=qT (l₁:=(gy g j).2) (l₂:=[((gy g j).1.length:Int)]) (i:=j) (by omega);rw[this,aa,tb];rfl
     ·simp
  ·rename_i aU;refine⟨by simp[aa],by simp;omega,aG,fun j y ba ai=>?_⟩;by_cases q:j<n
   ·obtain⟨g1,g2⟩:=br j y q ai;refine⟨fun e=>?_,fun e=>?_⟩
    ·obtain⟨a,bo,a2⟩:=g1 e;exact⟨a,by rw[lq (by omega)];exact bo,a2⟩
    ·rw[lq (by omega)];exact g2 e
   ·obtain rfl:j=n:=by omega
    rw[U] at ai;injection ai with ai;subst ai
    refine⟨fun e=>absurd e aU,fun _=>?_⟩;have:=qT (l₁:=(gy g j).2) (l₂:=[(-1:Int)]) (i:=j) (by omega);rw[this,aa,tb];rfl
theorem yR{g:bz}{S:List (List Int)}{p:Int}(hw:iP g)(ax:wz g S):∀n,n<=g.is.length->(gT g S p n).2.length=n/\(gT g S p n).1.length<=g.ns.length+n/\(∀l∈(gT g S p n).1,FD l)/\(∀(a:Nat) l,(gy g g.ns.length).1[a]?=some l->(gT g S p n).1[a]?=some l)/\
 (∀(j:Nat) (y:Int×Int) (r:List Int),j<n->g.is[j]?=some y->S[j]?=some r->(y.1≠p->∃a:Nat,(gT g S p n).2[j]?=some (a:Int)/\(gT g S p n).1[a]?=some r)/\(y.1=p->(gT g S p n).2[j]?=some (-1)))
 |0,_=>⟨rfl,(AH hw _ (cZ _)).2.1,(AH hw _ (cZ _)).2.2.1,fun a l h=>h,fun j y r h=>by omega⟩
 |n+1,aP=>by
  obtain⟨aa,ae,aG,eu,br⟩:=yR hw ax (p:=p) n (by omega);have ai:=de (l:=g.is) (i:=n) (by omega);generalize g.is[n]=y at ai;obtain⟨r,ay,rA,px⟩:=ax.1.get ai;rw[M6 ai ay];unfold IQ;split
  ·rename_i aU;refine⟨by simp[aa],by simp;omega,fun l av=>?_,fun a l a'=>?_,fun j iM dw ba hf nc=>?_⟩
   ·rcases kX.1 av with q|q
    ·exact aG l q
    ·obtain rfl:l=r:=by simpa using q
     have a':=hw.yC y (cd ai);refine⟨fun v az=>?_,?_,?_,by omega,by omega⟩
     ·obtain⟨i,ao⟩:=kj.1 az;exact(px i v ao).1
     ·rw[ax.2 l (cd ay)];omega
     ·rw[ax.2 l (cd ay)];omega
   ·have q:=eu a l a';have:=(dX.1 q).1;show(_++_)[a]?=_;rw[lq this];exact q
   ·by_cases q:j<n
    ·obtain⟨g1,g2⟩:=br j iM dw q hf nc;refine⟨fun e=>?_,fun e=>?_⟩
     ·obtain⟨a,bo,a2⟩:=g1 e;have:=(dX.1 a2).1;exact⟨a,by rw[lq (by omega)];exact bo,by rw[lq this];exact a2⟩
     ·rw[lq (by omega)];exact g2 e
    ·obtain rfl:j=n:=by omega
     rw[ai] at hf;injection hf with hf;subst hf
     rw[ay] at nc;injection nc with nc;subst nc
     refine⟨fun _=>⟨(gT g S p j).1.length,?_,?_⟩,fun e=>absurd e aU⟩
     ·have:=qT (l₁:=(gT g S p j).2) (l₂:=[((gT g S p j).1.length:Int)]) (i:=j) (by omega);rw[this,aa,tb];rfl
     ·simp
  ·rename_i aU;refine⟨by simp[aa],by simp;omega,aG,eu,fun j iM dw ba hf nc=>?_⟩;by_cases q:j<n
   ·obtain⟨g1,g2⟩:=br j iM dw q hf nc;refine⟨fun e=>?_,fun e=>?_⟩
    ·obtain⟨a,bo,a2⟩:=g1 e;exact⟨a,by rw[lq (by omega)];exact bo,a2⟩
    ·rw[lq (by omega)];exact g2 e
   ·obtain rfl:j=n:=by omega
    rw[ai] at hf;injection hf with hf;subst hf
    refine⟨fun e=>absurd e aU,fun _=>?_⟩;have:=qT (l₁:=(gT g S p j).2) (l₂:=[(-1:Int)]) (i:=j) (by omega);rw[this,aa,tb];rfl
end
end Go.Opn
namespace Go.Opn
noncomputable section
open Go.Cre Go.RowKit Go.Proofs
theorem Acc.one{w:Value}{k e:Nat}{cells:List Value}{aY:aO}(h:Acc e 1 w k cells aY)(bN:z0 aY)(aP:my aY)(aa:1<=k):∃a rest,aY=[(a,.opn cells e rest 0)]/\w=.slice (some ⟨a,0,none⟩) k c9/\cells.length=k:=by
 cases h with
 |nil=>omega
 |kp a=>omega
 |@opn a k cells rest z av ug=>
  have:z=0:=bN _ _ _ _ _ (.head _);subst this;exact⟨a,rest,rfl,rfl,by omega⟩
 |cap=>exact absurd (List.Mem.head _) (aP _ _ _)
theorem IN{L:List Int}{v:Int}:L.map (Value.int .i64)++[Value.int .i64 v]=(L++[v]).map (Value.int .i64):=by simp
theorem YY{L:List Int}{u v:Int}{n:Nat}(h:L.length=n):(L++[u]).set n v=L++[v]:=by subst h;simp
theorem mR.put{P:Nat->List Int->Prop}{J:aI}{cells:List Value}{S:List (List Int)}{r:List Int}{w:Value}(h:mR P J S.length cells S)(aa:dG J w r)(ae:P S.length r):mR P J (S++[r]).length (cells++[w]) (S++[r]):=by
 rw[dv,s'];exact h.app aa ae
section
variable {Q:dI Tryz.prog}{g0:Nat}{J:aI}
open Classical in
theorem TN{g:bz}{aT aL eA:Option Addr}{aQ ci fk:Nat}{S:List (List Int)}{p:Int}(hw:iP g)(aq:fG J g aT aQ aL ci)(j4:fa J 22 1 (jI J) (.slice eA S.length fk) S)(ax:wz g S):
 Fn (bb Q g0) 59 [hc g aT aQ aL ci,.slice eA S.length fk,.int .i64 p] [] J (fun u m' ag=>J.le ag/\m'=[]/\∃u' p4 FQ ve C1 mj,u=.tuple #[.slice u' (se g S p).length p4,.slice FQ g.ns.length ve,.slice C1 g.is.length mj]/\fa ag 22 1 (jI ag) (.slice u' (se g S p).length p4) (se g S p)/\dG ag (.slice FQ g.ns.length ve) (gy g g.ns.length).2/\dG ag (.slice C1 g.is.length mj) (gT g S p g.is.length).2):=by
 have fW:addrEq aL aL=true:=aq.i.addr;have gn:addrEq aT aT=true:=aq.n.addr;have EQ:addrEq eA eA=true:=j4.addr;obtain⟨_,fD⟩:=aq.n.at;obtain⟨_,kt⟩:=aq.i.at;have b0:=hw.b0;have dn:=hw.dn;have i2:=hw.i2;have A9:=ax.1.1;obtain⟨bR,off,Ez,ne,rfl,tK,jP⟩:=fD (by omega);refine Fn.cH (cQ Tryz.func59) rfl rfl fun H=>?_;refine rg ?_;refine dJ fun a3=>?_;refine aM ?_;refine bj ?_;refine I V.aA ?_;refine ns ?_;refine ab.block ?_;refine' ab.c2 (l':=[(6,(.slice none 0 0)),(7,(.slice none 0 0)),(9,.int .i64 ((0):Int)),(1,_),(2,_),(3,_),(8,_)]) ⟨?nn,?yc,?pS,rfl,rfl,rfl,rfl,trivial⟩ (bA _) ?_;case nn=>exact bS
 case yc=>exact bS
 case pS=>exact bS
 refine aj ?_;refine' ab.dF (fun(bH:Nat×Value×(List Value)×aO×Value×aO)=>match bH with|(i,v6,d6,m6,Cs,m7)=>⟨[(6,v6),(7,Cs),(9,.int .i64 (i:Int))],m6++(m7++[dm a3 g (some ⟨bR,off,none⟩) aQ aL ci]),J,i<=g.ns.length/\Acc 22 1 v6 (gy g i).1.length d6 m6/\mR (fun _ _=>True) J (gy g i).1.length d6 (gy g i).1/\Acc 3 1 Cs i ((gy g i).2.map (Value.int .i64)) m7/\z0 m7/\my m7,g.ns.length -i⟩) ⟨0,.slice none 0 0,[],[],.slice none 0 0,[]⟩ ?af ?bE
 case af=>exact⟨cB _,.nil,mR.nil,.nil,Mf,Ey⟩
 case bE=>
  rintro⟨i,v6,d6,m6,Cs,m7⟩ hinv;try simp only at hinv
  obtain⟨ao,xb,A7,GL,PW,Pj⟩:=hinv;obtain⟨C4,Di,rfl,amI⟩:=xb.iJ;obtain⟨Tj,TV,rfl,amJ⟩:=GL.iJ;refine rg ?_;refine aM ?_;refine I V.bO ?_;refine I V.bP ?_;refine I V.a1 ?_;refine ns ?_;refine If (fun q4=>?_) fun q4=>?_
  ·obtain⟨x,Gf,U,gV,ir,nF⟩:=jP i (by omega) (by omega);obtain⟨bm,bt,bl,bw,b8,dh,rfl,eo,ga,gz⟩:=nF;have Hg:=ir 0 _ (by decide) rfl;have asj:=ir 4 _ (by decide) rfl;rw[cy] at U;obtain⟨KD,ahY,_⟩:=AH hw i (by omega);refine c5 ?_;refine aj ?_;refine ab.block ?_;refine rg ?_;refine I V.ah ?_;refine jw (eX Q g0) fun lP=>?_;refine' W.step rfl (.of (Ai rfl rfl rfl rfl rfl rfl (eX Q g0) (pO Q g0) (fun i q=>by cases q) ?cw ?hm ?U ?cr ?cc ?av fun I0 Lf Bc HU=>?_));case cw=>assumption
   case hm=>exact jm (r:=m7++((lP,.row [.int .i64 (-1)] 3)::(m6++[dm a3 g (some ⟨bR,off,none⟩) aQ aL ci])))
   case U=>exact hP
   case cr=>first|rfl|(simp;done)|(simp;omega)
   case cc=>first|rfl|exact hg _
   case av=>exact cf
   rw[IN] at Bc;obtain⟨cX,rest,rfl,rfl,hE⟩:=Bc.one (HU.1 PW) (HU.2 Pj) (by omega);refine I V.aA ?_;refine bj ?_;refine I V.bc ?_;refine I V.bO ?_;refine I V.ah ?_;refine I V.aX ?_;refine I V.bc ?_;refine I V.bO ?_;refine I V.a1 ?_;refine ns ?_;refine If (fun jx=>?_) fun jx=>?_
   ·refine rg ?_;refine aM ?_;refine I V.aX ?_;refine' W.step rfl (.of (Aj rfl rfl rfl rfl (fY rfl) rfl rfl rfl ?aa ?af ?bN ?aw ?_));case aw=>exact .refl ((cX,_)::((lP,.row [.int .i64 (-1)] 3)::(m6++[dm a3 g (some ⟨bR,off,none⟩) aQ aL ci])))
    case af=>exact jo i (by simp;omega)
    case aa=>first|rfl|assumption
    case bN=>exact cB _
    refine a8 ?_;rw[YY KD];refine rg ?_;refine aM ?_;refine I V.bO ?_;refine I V.ah ?_;refine I V.aX ?_;refine I V.bc ?_;refine I V.bO ?_;refine jw (nl Q g0) fun a40=>?_;refine' W.step rfl (.of (kf rfl rfl rfl rfl rfl rfl (nl Q g0) (Cr Q g0) (fun i q=>by cases q) ?cw ?hm ?U ?cr ?cc ?av fun ao9 Ia agW=>?_));case cw=>exact xb
    case hm=>exact jm (r:=m6++((a40,.row [.slice bl x.ws.length bw] 22)::((cX,.opn (((gy g i).2++[((gy g i).1.length:Int)]).map (Value.int .i64)) 3 [] 0)::((lP,.row [.int .i64 (-1)] 3)::[dm a3 g (some ⟨bR,off,none⟩) aQ aL ci]))))
    case U=>exact hP
    case cr=>first|rfl|(simp;done)|(simp;omega)
    case cc=>first|rfl|exact hg _
    case av=>exact cf
    refine I V.aA ?_;refine a8 ?_;first
      |refine ab.eF (m':=Ia++([(cX,.opn (((gy g i).2++[((gy g i).1.length:Int)]).map (Value.int .i64)) 3 [] 0)]++[dm a3 g (some ⟨bR,off,none⟩) aQ aL ci])) (iy:=[(a40,.row [.slice bl x.ws.length bw] 22),(lP,.row [.int .i64 (-1)] 3)]) (jm (r:=Ia++((a40,.row [.slice bl x.ws.length bw] 22)::((cX,.opn (((gy g i).2++[((gy g i).1.length:Int)]).map (Value.int .i64)) 3 [] 0)::((lP,.row [.int .i64 (-1)] 3)::[dm a3 g (some ⟨bR,off,none⟩) aQ aL ci]))))) ?_
      |refine ab.eF (m':=m6++([(cX,.opn (((gy g i).2++[-1]).map (Value.int .i64)) 3 rest 0)]++[dm a3 g (some ⟨bR,off,none⟩) aQ aL ci])) (iy:=[(lP,.row [.int .i64 (-1)] 3)]) (jm (r:=[(cX,.opn (((gy g i).2++[-1]).map (Value.int .i64)) 3 rest 0)]++((lP,.row [.int .i64 (-1)] 3)::(m6++[dm a3 g (some ⟨bR,off,none⟩) aQ aL ci])))) ?_
    refine rg ?_;refine I V.ah ?_;refine I V.bx ?_;refine I V.aA ?_;refine a8 ?_;refine cA ⟨i+1,ao9,d6++[.slice bl x.ws.length bw],Ia,.slice (some ⟨cX,0,none⟩) (i+1) c9,[(cX,.opn (((gy g i).2++[((gy g i).1.length:Int)]).map (Value.int .i64)) 3 [] 0)]⟩ ?_;show _/\_;rw[M7 U];unfold IR;rw[aE jx];exact⟨by omega,by rw[dv];exact agW,A7.put ga trivial,.opn (by simp;omega) (cB _),CA,xS⟩
   ·refine aj ?_;refine ab.skip ?_;first
      |refine ab.eF (m':=Ia++([(cX,.opn (((gy g i).2++[((gy g i).1.length:Int)]).map (Value.int .i64)) 3 [] 0)]++[dm a3 g (some ⟨bR,off,none⟩) aQ aL ci])) (iy:=[(a40,.row [.slice bl x.ws.length bw] 22),(lP,.row [.int .i64 (-1)] 3)]) (jm (r:=Ia++((a40,.row [.slice bl x.ws.length bw] 22)::((cX,.opn (((gy g i).2++[((gy g i).1.length:Int)]).map (Value.int .i64)) 3 [] 0)::((lP,.row [.int .i64 (-1)] 3)::[dm a3 g (some ⟨bR,off,none⟩) aQ aL ci]))))) ?_
      |refine ab.eF (m':=m6++([(cX,.opn (((gy g i).2++[-1]).map (Value.int .i64)) 3 rest 0)]++[dm a3 g (some ⟨bR,off,none⟩) aQ aL ci])) (iy:=[(lP,.row [.int .i64 (-1)] 3)]) (jm (r:=[(cX,.opn (((gy g i).2++[-1]).map (Value.int .i64)) 3 rest 0)]++((lP,.row [.int .i64 (-1)] 3)::(m6++[dm a3 g (some ⟨bR,off,none⟩) aQ aL ci])))) ?_
    refine rg ?_;refine I V.ah ?_;refine I V.bx ?_;refine I V.aA ?_;refine a8 ?_;refine cA ⟨i+1,.slice C4 (gy g i).1.length Di,d6,m6,.slice (some ⟨cX,0,none⟩) (i+1) c9,[(cX,.opn (((gy g i).2++[-1]).map (Value.int .i64)) 3 rest 0)]⟩ ?_;show _/\_;rw[M7 U];unfold IR;rw[ap jx];exact⟨by omega,xb,A7,.opn (by simp;omega) (cB _),CA,xS⟩
  ·refine aj ?_;refine ab.exit ?_;refine rg ?_;refine I V.aA ?_;refine ns ?_;refine ab.block ?_;refine aj ?_;obtain rfl:i=g.ns.length:=by omega
   refine GL.hx (jm (r:=m7++(m6++[dm a3 g (some ⟨bR,off,none⟩) aQ aL ci]))) fun yp kv ai8=>?_;refine' ab.c2 (l':=[(6,(.slice C4 (gy g g.ns.length).1.length Di)),(8,(.slice none 0 0)),(10,.int .i64 ((0):Int)),(1,_),(2,_),(3,_),(7,_)]) ⟨?nn,?jq,?pQ,rfl,rfl,rfl,rfl,trivial⟩ (bA _) ?_;case nn=>exact bS
   case jq=>exact bS
   case pQ=>exact bS
   refine aj ?_;refine' ab.dF (fun(bH:Nat×Value×(List Value)×aO×Value×aO)=>match bH with|(i,v6,d6,m6,Cs,m7)=>⟨[(6,v6),(8,Cs),(10,.int .i64 (i:Int))],m6++(m7++[dm a3 g (some ⟨bR,off,none⟩) aQ aL ci]),yp,i<=g.is.length/\Acc 22 1 v6 (gT g S p i).1.length d6 m6/\mR (fun _ _=>True) yp (gT g S p i).1.length d6 (gT g S p i).1/\Acc 3 1 Cs i ((gT g S p i).2.map (Value.int .i64)) m7/\z0 m7/\my m7,g.is.length -i⟩) ⟨0,.slice C4 (gy g g.ns.length).1.length Di,d6,m6,.slice none 0 0,[]⟩ ?af ?bE
   case af=>exact⟨cB _,xb,A7.mono kv,.nil,Mf,Ey⟩
   case bE=>
    rintro⟨i,v6,d6,m6,Cs,m7⟩ hinv;try simp only at hinv
    obtain⟨ao,xb,A7,GL,PW,Pj⟩:=hinv;obtain⟨C4,Di,rfl,amI⟩:=xb.iJ;obtain⟨Tj,TV,rfl,amJ⟩:=GL.iJ;refine rg ?_;refine aM ?_;refine I V.bO ?_;refine I V.bP ?_;refine I V.a1 ?_;refine ns ?_;refine If (fun tn=>?_) fun tn=>?_
    ·obtain⟨ha,jk,vf,vm,rfl,mu,lZ⟩:=kt (by omega);obtain⟨y,wT,ai,tU,l1,rfl⟩:=lZ i (by omega) (by omega);have KC:=l1 0 _ (by decide) rfl;rw[cy] at ai;obtain⟨wF,xU,Na,Nv,r,jd,ko,rfl,GU,ay,Hn,n9⟩:=qG j4 (i:=i) (by omega) (by omega);rw[cy] at ay;have n9:=n9.mono kv;have mu:=kv _ _ mu;have GU:=kv _ _ GU;obtain⟨KD,ahY,_⟩:=yR hw ax (p:=p) i (by omega);refine c5 ?_;refine aj ?_;refine ab.block ?_;refine rg ?_;refine I V.ah ?_;refine jw (eX Q g0) fun ow=>?_;refine' W.step rfl (.of (Ai rfl rfl rfl rfl rfl rfl (eX Q g0) (pO Q g0) (fun i q=>by cases q) ?cw ?hm ?U ?cr ?cc ?av fun auu atg Vk WG=>?_));case cw=>assumption
     case hm=>exact jm (r:=m7++((ow,.row [.int .i64 (-1)] 3)::(m6++[dm a3 g (some ⟨bR,off,none⟩) aQ (some ⟨ha,jk,none⟩) ci])))
     case U=>exact hP
     case cr=>first|rfl|(simp;done)|(simp;omega)
     case cc=>first|rfl|exact hg _
     case av=>exact cf
     rw[IN] at Vk;obtain⟨cX,rest,rfl,rfl,hE⟩:=Vk.one (WG.1 PW) (WG.2 Pj) (by omega);refine I V.aA ?_;refine bj ?_;refine I V.bc ?_;refine I V.bO ?_;refine I V.ah ?_;refine I V.aX ?_;refine I V.bc ?_;refine I V.bO ?_;refine I V.ah ?_;refine I V.a1 ?_;refine ns ?_;refine If (fun ik=>?_) fun ik=>?_
     ·refine rg ?_;refine aM ?_;refine I V.aX ?_;refine' W.step rfl (.of (Aj rfl rfl rfl rfl (fY rfl) rfl rfl rfl ?aa ?af ?bN ?aw ?_));case aw=>exact .refl ((cX,_)::((ow,.row [.int .i64 (-1)] 3)::(m6++[dm a3 g (some ⟨bR,off,none⟩) aQ (some ⟨ha,jk,none⟩) ci])))
      case af=>exact jo i (by simp;omega)
      case aa=>first|rfl|assumption
      case bN=>exact cB _
      refine a8 ?_;rw[YY KD];refine rg ?_;refine aM ?_;refine I V.aX ?_;refine I V.bO ?_;refine jw (nl Q g0) fun a70=>?_;refine' W.step rfl (.of (kf rfl rfl rfl rfl rfl rfl (nl Q g0) (Cr Q g0) (fun i q=>by cases q) ?cw ?hm ?U ?cr ?cc ?av fun apf Ib agX=>?_));case cw=>exact xb
      case hm=>exact jm (r:=m6++((a70,.row [.slice jd r.length ko] 22)::((cX,.opn (((gT g S p i).2++[((gT g S p i).1.length:Int)]).map (Value.int .i64)) 3 [] 0)::((ow,.row [.int .i64 (-1)] 3)::[dm a3 g (some ⟨bR,off,none⟩) aQ (some ⟨ha,jk,none⟩) ci]))))
      case U=>exact hP
      case cr=>first|rfl|(simp;done)|(simp;omega)
      case cc=>first|rfl|exact hg _
      case av=>exact cf
      refine I V.aA ?_;refine a8 ?_;first
        |refine ab.eF (m':=Ib++([(cX,.opn (((gT g S p i).2++[((gT g S p i).1.length:Int)]).map (Value.int .i64)) 3 [] 0)]++[dm a3 g (some ⟨bR,off,none⟩) aQ (some ⟨ha,jk,none⟩) ci])) (iy:=[(a70,.row [.slice jd r.length ko] 22),(ow,.row [.int .i64 (-1)] 3)]) (jm (r:=Ib++((a70,.row [.slice jd r.length ko] 22)::((cX,.opn (((gT g S p i).2++[((gT g S p i).1.length:Int)]).map (Value.int .i64)) 3 [] 0)::((ow,.row [.int .i64 (-1)] 3)::[dm a3 g (some ⟨bR,off,none⟩) aQ (some ⟨ha,jk,none⟩) ci]))))) ?_
        |refine ab.eF (m':=m6++([(cX,.opn (((gT g S p i).2++[-1]).map (Value.int .i64)) 3 rest 0)]++[dm a3 g (some ⟨bR,off,none⟩) aQ (some ⟨ha,jk,none⟩) ci])) (iy:=[(ow,.row [.int .i64 (-1)] 3)]) (jm (r:=[(cX,.opn (((gT g S p i).2++[-1]).map (Value.int .i64)) 3 rest 0)]++((ow,.row [.int .i64 (-1)] 3)::(m6++[dm a3 g (some ⟨bR,off,none⟩) aQ (some ⟨ha,jk,none⟩) ci])))) ?_
      refine rg ?_;refine I V.ah ?_;refine I V.bx ?_;refine I V.aA ?_;refine a8 ?_;refine cA ⟨i+1,apf,d6++[.slice jd r.length ko],Ib,.slice (some ⟨cX,0,none⟩) (i+1) c9,[(cX,.opn (((gT g S p i).2++[((gT g S p i).1.length:Int)]).map (Value.int .i64)) 3 [] 0)]⟩ ?_;show _/\_;rw[M6 ai ay];unfold IQ;rw[aE ik];exact⟨by omega,by rw[dv];exact agX,A7.put n9 trivial,.opn (by simp;omega) (cB _),CA,xS⟩
     ·refine aj ?_;refine ab.skip ?_;first
        |refine ab.eF (m':=Ib++([(cX,.opn (((gT g S p i).2++[((gT g S p i).1.length:Int)]).map (Value.int .i64)) 3 [] 0)]++[dm a3 g (some ⟨bR,off,none⟩) aQ (some ⟨ha,jk,none⟩) ci])) (iy:=[(a70,.row [.slice jd r.length ko] 22),(ow,.row [.int .i64 (-1)] 3)]) (jm (r:=Ib++((a70,.row [.slice jd r.length ko] 22)::((cX,.opn (((gT g S p i).2++[((gT g S p i).1.length:Int)]).map (Value.int .i64)) 3 [] 0)::((ow,.row [.int .i64 (-1)] 3)::[dm a3 g (some ⟨bR,off,none⟩) aQ (some ⟨ha,jk,none⟩) ci]))))) ?_
        |refine ab.eF (m':=m6++([(cX,.opn (((gT g S p i).2++[-1]).map (Value.int .i64)) 3 rest 0)]++[dm a3 g (some ⟨bR,off,none⟩) aQ (some ⟨ha,jk,none⟩) ci])) (iy:=[(ow,.row [.int .i64 (-1)] 3)]) (jm (r:=[(cX,.opn (((gT g S p i).2++[-1]).map (Value.int .i64)) 3 rest 0)]++((ow,.row [.int .i64 (-1)] 3)::(m6++[dm a3 g (some ⟨bR,off,none⟩) aQ (some ⟨ha,jk,none⟩) ci])))) ?_
      refine rg ?_;refine I V.ah ?_;refine I V.bx ?_;refine I V.aA ?_;refine a8 ?_;refine cA ⟨i+1,.slice C4 (gT g S p i).1.length Di,d6,m6,.slice (some ⟨cX,0,none⟩) (i+1) c9,[(cX,.opn (((gT g S p i).2++[-1]).map (Value.int .i64)) 3 rest 0)]⟩ ?_;show _/\_;rw[M6 ai ay];unfold IQ;rw[ap ik];exact⟨by omega,xb,A7,.opn (by simp;omega) (cB _),CA,xS⟩
    ·refine aj ?_;refine ab.exit ?_;obtain rfl:i=g.is.length:=by omega
     refine xb.hx (.refl _) fun ki jA ai9=>?_;refine GL.hx (.refl _) fun Ap oU PK=>?_;refine rg ?_;refine aM ?_;refine ns ?_;refine ab.ret ?_;refine c' ?_;have w3:=(AH hw _ (cZ _)).1;have Nu:=(yR hw ax (p:=p) _ (cZ _)).1;refine⟨kv.trans (jA.trans oU),rfl,C4,Di,_,_,Tj,TV,rfl,((A7.mono jA).sj ai9).mono oU fun _ _ q=>q.mono oU,?_,?_⟩
     ·exact⟨3,by rw[w3];exact ai8.mono (jA.trans oU)⟩
     ·exact⟨3,by rw[Nu];exact PK⟩
end
end
end Go.Opn
