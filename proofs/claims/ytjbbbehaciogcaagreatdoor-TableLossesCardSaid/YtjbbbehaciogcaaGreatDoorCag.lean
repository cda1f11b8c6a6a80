/- A part of the proof of TableLosses. -/
import Derived.Test.YtjbbbehaciogcaaGreatDoorCaf
import Derived.Laws.Build
import Derived.Defers
import Derived.Recover
set_option linter.unusedVariables false
set_option linter.unusedSimpArgs false
namespace Go.Cre
noncomputable section
open Go.RowKit
section
variable {P:Program}{B:Nat->Prop}{w0 w:World}{μ:bY}{H H':ar}{n:Nat}{tmps:Array Value}
variable {call:eI}{aJ:hl}{o:Oper}{S:aZ}
theorem xp(h:b8 P B w0 μ H w){s:Sem Next}{v v':Value}{r:cP}(ao:some (cP.val v H)=some r)(g8:s.run P w=.ok (.value v') w)(av:bj μ v v'):oq P B w0 call aJ μ H w s r:=by
 injection ao with ao;subst ao
 exact .inl ⟨v',w,μ,g8,h,Step.refl _ _,av⟩
theorem aj4{t:TypeId}{a b0 b b':Value}{r:Bool}{x y:Operand}(aF:bj μ a b0)(ai:bj μ b b')(he:xT P t a b=some r)(w:World):
 (∀op,(eqGuard op t x y b0 b').run P w=.ok () w)/\(binOp .eql t b0 b').run P w=.ok (.bool r) w/\(binOp .neq t b0 b').run P w=.ok (.bool (!r)) w:=by
 have B2:(Op.equal t b0 b').run P w=.ok r w:=akh aF ai he 9999 w;unfold xT at he;cases hu:P.underlying t with
 |none=>rw[hu] at he;simp at he
 |some d=>
  rw[hu] at he
  have fin:(∀op,(eqGuard op t x y b0 b').run P w=.ok () w)->(binOp .eql t b0 b'=(do pure (.bool (<-Op.equal t b0 b'))))->(binOp .neq t b0 b'=(do pure (.bool (!(<-Op.equal t b0 b')))))->
   (∀op,(eqGuard op t x y b0 b').run P w=.ok () w)/\(binOp .eql t b0 b').run P w=.ok (.bool r) w/\(binOp .neq t b0 b').run P w=.ok (.bool (!r)) w:=fun g ax aS=>by
   rw[ax,aS];exact⟨g,by simp[B2],by simp[B2]⟩
  cases a with
  |pointer p=>
   have aA:∃ic,b0=.pointer ic:=by
    cases p with
    |none=>exact⟨_,aF.FN⟩
    |some p=>obtain⟨_,_,_,_,_,q⟩:=aF.pu;exact⟨_,q⟩
   obtain⟨ic,rfl⟩:=aA;cases b with
   |pointer q=>
    have aA:∃dG,b'=.pointer dG:=by
     cases q with
     |none=>exact⟨_,ai.FN⟩
     |some q=>obtain⟨_,_,_,_,_,q⟩:=ai.pu;exact⟨_,q⟩
    obtain⟨dG,rfl⟩:=aA;exact fin (fun op=>by cases op<;>simp[eqGuard]) rfl rfl
   |_=>cases d<;>cases p<;>cases he
  |slice p l c=>
   have aA:∃ic l' c',b0=.slice ic l' c':=by
    cases p with
    |none=>exact⟨_,_,_,aF.to⟩
    |some p=>obtain⟨_,_,q⟩:=aF.AE;exact⟨_,_,_,q⟩
   obtain⟨ic,l',c',rfl⟩:=aA;cases b with
   |slice q dA br=>
    have aA:∃ic l' c',b'=.slice ic l' c':=by
     cases q with
     |none=>exact⟨_,_,_,ai.to⟩
     |some p=>obtain⟨_,_,q⟩:=ai.AE;exact⟨_,_,_,q⟩
    obtain⟨aAI,MX,ax8,rfl⟩:=aA;exact fin (fun op=>by cases op<;>simp[eqGuard]) rfl rfl
   |_=>cases d<;>cases p<;>cases he
  |map p=>
   have aA:∃ic,b0=.map ic:=by
    cases p with
    |none=>exact⟨_,aF.Jd⟩
    |some p=>obtain⟨_,_,q⟩:=aF.Jb;exact⟨_,q⟩
   obtain⟨ic,rfl⟩:=aA;cases b with
   |map q=>
    have aA:∃ic,b'=.map ic:=by
     cases q with
     |none=>exact⟨_,ai.Jd⟩
     |some p=>obtain⟨_,_,q⟩:=ai.Jb;exact⟨_,q⟩
    obtain⟨dG,rfl⟩:=aA;exact fin (fun op=>by cases op<;>simp[eqGuard]) rfl rfl
   |_=>cases d<;>cases p<;>cases he
  |nilFunc=>
   obtain rfl:=aF.Nf;cases b with
   |func fn u v=>
    have aA:∃f u v,b'=.func f u v:=by
     rcases ai.Ev with⟨_,_,q,_⟩|⟨_,_,_,_,_,_,q⟩
     ·exact⟨_,_,_,q⟩
     ·exact⟨_,_,_,q⟩
    obtain⟨_,_,_,rfl⟩:=aA;exact fin (fun op=>by cases op<;>simp[eqGuard]) rfl rfl
   |_=>cases d<;>cases he
  |func fn u v=>
   have aA:∃f u v,b0=.func f u v:=by
    rcases aF.Ev with⟨_,_,q,_⟩|⟨_,_,_,_,_,_,q⟩
    ·exact⟨_,_,_,q⟩
    ·exact⟨_,_,_,q⟩
   obtain⟨_,_,_,rfl⟩:=aA;cases b with
   |nilFunc=>
    obtain rfl:=ai.Nf;exact fin (fun op=>by cases op<;>simp[eqGuard]) rfl rfl
   |_=>cases d<;>cases he
  |nilIface=>
   obtain rfl:=aF.Jl;cases b with
   |iface u4 v=>
    obtain⟨_,rfl,_⟩:=ai.yq;exact fin (fun op=>by cases op<;>simp[eqGuard]) rfl rfl
   |_=>cases d<;>cases he
  |iface u4 v=>
   obtain⟨_,rfl,_⟩:=aF.yq;cases b with
   |nilIface=>
    obtain rfl:=ai.Jl;exact fin (fun op=>by cases op<;>simp[eqGuard]) rfl rfl
   |_=>cases d<;>cases he
  |_=>cases d<;>cases he
theorem akp(h:b8 P B w0 μ H w)(aI:kF μ S.T n tmps){r:cP}(he:cz P call aJ S H o=some r):oq P B w0 call aJ μ H w (execOp (dc tmps) o) r:=by
 have eu:∀x v,a3 S.T H x=some v->bj μ v (dc tmps x):=fun x v q=>uP h aI q;unfold cz e4 at he;simp only at he;cases ah:o.op with
 |move x=>
  rw[ah] at he;have he:g9 (a3 S.T H x) H=some r:=he;have:=qq (call:=call) (aJ:=aJ) (s:=pure (dc tmps x)) h (fun v q=>⟨_,rfl,eu x v q⟩) he;simpa[execOp,ah] using this
 |assign x=>
  rw[ah] at he;have he:g9 (a3 S.T H x) H=some r:=he;have:=qq (call:=call) (aJ:=aJ) (s:=pure (dc tmps x)) h (fun v q=>⟨_,rfl,eu x v q⟩) he;simpa[execOp,ah] using this
 |load t a=>
  rw[ah] at he;have he:CX P ⟨call,aJ,S,H,o⟩ t (a3 S.T H a)=some r:=he;cases aF:a3 S.T H a with
  |none=>rw[aF] at he;cases he
  |some p=>
   rw[aF] at he;have:=qq (call:=call) (aJ:=aJ) h (fun v q=>akn h (eu a p aF) q) he;simpa[execOp,ah] using this
 |pick c a b=>
  rw[ah] at he;have he:At P ⟨call,aJ,S,H,o⟩ a b (a3 S.T H c)=some r:=he;cases aC:a3 S.T H c with
  |none=>rw[aC] at he;cases he
  |some lH=>
   rw[aC] at he;have H6:=eu c lH aC;cases lH with
   |bool mZ=>
    have Za:=H6.GN;cases mZ with
    |true=>
     have he:g9 (a3 S.T H a) H=some r:=he;have:=qq (call:=call) (aJ:=aJ) (s:=pure (dc tmps a)) h (fun v q=>⟨_,rfl,eu a v q⟩) he;simpa[execOp,ah,Za,asBool] using this
    |false=>
     have he:g9 (a3 S.T H b) H=some r:=he;have:=qq (call:=call) (aJ:=aJ) (s:=pure (dc tmps b)) h (fun v q=>⟨_,rfl,eu b v q⟩) he;simpa[execOp,ah,Za,asBool] using this
   |_=>cases he
 |alloc elem=>
  rw[ah] at he;have he:Uc P ⟨call,aJ,S,H,o⟩ elem (hA P elem)=some r:=he;cases aM:hA P elem with
  |none=>rw[aM] at he;cases he
  |some z=>
   rw[aM] at he;have he:(bif plain z then nJ (xR H elem z) else none)=some r:=he;cases aw:plain z with
   |false=>rw[aw] at he;cases he
   |true=>
    rw[aw,cd] at he;have:=yP (call:=call) (aJ:=aJ) (s:=Instr.alloc elem true (.tuple #[])) (fun v H' q=>by
     obtain⟨ba,bd,cm,cQ,dw,e0,eP⟩:=X1 h (qu aw) q;refine⟨ba,bd,cm,?_,dw,e0,eP⟩;simpa[Instr.alloc,Instr.box,w3 aM] using cQ) he
    simpa[execOp,ah] using this
 |box elem x=>
  rw[ah] at he;have he:JB P ⟨call,aJ,S,H,o⟩ elem (a3 S.T H x)=some r:=he;cases aa:a3 S.T H x with
  |none=>rw[aa] at he;cases he
  |some v=>
   rw[aa] at he;have:=yP (call:=call) (aJ:=aJ) (fun v H' q=>X1 h (eu x _ aa) q) he;simpa[execOp,ah] using this
 |build t parts=>
  rw[ah] at he;have he:CU P ⟨call,aJ,S,H,o⟩ t (lV S.T H parts.toList)=some r:=he;cases aw:lV S.T H parts.toList with
  |none=>rw[aw] at he;cases he
  |some ps=>
   rw[aw] at he;have nx:=acw h aI aw;have:=qq (call:=call) (aJ:=aJ) h (fun v q=>aka nx q w) he;have ax:(parts.toList.map fun(i,x)=>(i,dc tmps x)).toArray=parts.map fun(i,x)=>(i,dc tmps x):=by apply rv;simp
   rw[ax] at this;simpa[execOp,ah] using this
 |buildSlice t len parts=>
  rw[ah] at he;have he:JC P ⟨call,aJ,S,H,o⟩ t len (lV S.T H parts.toList)=some r:=he;cases aw:lV S.T H parts.toList with
  |none=>rw[aw] at he;cases he
  |some ps=>
   rw[aw] at he;have nx:=acw h aI aw;have:=yP (call:=call) (aJ:=aJ) (fun v H' q=>aj' h nx q) he;have ax:(parts.toList.map fun(i,x)=>(i,dc tmps x)).toArray=parts.map fun(i,x)=>(i,dc tmps x):=by apply rv;simp
   rw[ax] at this;simpa[execOp,ah] using this
 |store t a x=>
  rw[ah] at he;have he:FK P ⟨call,aJ,S,H,o⟩ t (a3 S.T H a) (a3 S.T H x)=some r:=he;cases aF:a3 S.T H a with
  |none=>rw[aF] at he;cases he
  |some p=>
   cases aa:a3 S.T H x with
   |none=>rw[aF,aa] at he;cases he
   |some v=>
    rw[aF,aa] at he;have:=asn (call:=call) (aJ:=aJ) (fun H' q=>akv h (eu a p aF) (eu x v aa) q) he;simpa[execOp,ah] using this
 |nilCheck x=>
  rw[ah] at he;have he:C0 P ⟨call,aJ,S,H,o⟩ (a3 S.T H x)=some r:=he;cases aa:a3 S.T H x with
  |none=>rw[aa] at he;cases he
  |some v=>
   rw[aa] at he;have ao:=eu x v aa;cases v with
   |pointer a=>
    cases a with
    |none=>cases he
    |some a=>
     obtain⟨id,off,L,rfl,a9,av⟩:=ao.pu;exact xp h he (v':=dc tmps x) (by simp[execOp,ah,av]) ao
   |func fn a b=>
    cases fn with
    |func f=>
     rcases ao.Ev with⟨b0,b',av,_⟩|⟨l,L,q,_⟩
     ·exact xp h he (v':=dc tmps x) (by simp[execOp,ah,av]) ao
     ·cases q
    |_=>cases he
   |iface t v=>
    obtain⟨dV,av,_⟩:=ao.yq;exact xp h he (v':=dc tmps x) (by simp[execOp,ah,av]) ao
   |_=>cases he
 |unOp op t x=>
  rw[ah] at he;exact Hw h aI (fun cs b q=>by rw[ah] at q;cases q) he
 |makeInterface t x=>
  rw[ah] at he;have he:CZ P ⟨call,aJ,S,H,o⟩ t (a3 S.T H x) (P.underlying t)=some r:=he;cases aa:a3 S.T H x with
  |none=>rw[aa] at he;cases P.underlying t<;>cases he
  |some v=>
   cases hu:P.underlying t with
   |none=>rw[aa,hu] at he;cases he
   |some d=>
    rw[aa,hu] at he;have Y':P.concrete t=true/\some (cP.val (.iface t v) H)=some r:=by
     cases d<;>first|(cases he;done)|exact⟨by simp[Program.concrete,hu],he⟩
    exact xp h Y'.2 (by simp[execOp,ah,run_makeInterface w t _ Y'.1]) (.iface t v _ (eu x v aa))
 |makeFunc fn first captured=>
  rw[ah] at he;have he:CY P ⟨call,aJ,S,H,o⟩ fn (fL S.T H first.toList) (fL S.T H captured.toList)=some r:=he;cases ad:fL S.T H first.toList with
  |none=>rw[ad] at he;cases he
  |some a=>
   cases ae:fL S.T H captured.toList with
   |none=>rw[ad,ae] at he;cases he
   |some b=>
    rw[ad,ae] at he;have ec:=JH h aI ad;have dA:=JH h aI ae;have wj:yH fn=true/\some (cP.val (.func fn a.toArray b.toArray) H)=some r:=by
     cases fn<;>first|(cases he;done)|exact⟨rfl,he⟩
    refine xp h wj.2 (v':=.func fn (first.map (dc tmps)) (captured.map (dc tmps))) (by simp[execOp,ah,Instr.makeFunc]) ?_;exact .func _ _ _ _ _ wj.1 (by simpa using ec.1) (by simpa using dA.1) (fun i v v' q dG=>ec.2 i v v' (by simpa using q) (by simpa using dG)) (fun i v v' q dG=>dA.2 i v v' (by simpa using q) (by simpa using dG))
 |makeMap t rs=>rw[ah] at he;cases he
 |makeSlice t l c=>
  rw[ah] at he;have he:JD P ⟨call,aJ,S,H,o⟩ t (a3 S.T H l) (a3 S.T H c)=some r:=he;cases ad:a3 S.T H l with
  |none=>rw[ad] at he;cases he
  |some r6=>
   cases ae:a3 S.T H c with
   |none=>rw[ad,ae] at he;cases he
   |some lH=>
    rw[ad,ae] at he;have:=yP (call:=call) (aJ:=aJ) (fun v H' q=>ako h (eu l r6 ad) (eu c lH ae) q) he;simpa[execOp,ah] using this
 |slice t x lo ak fF=>
  rw[ah] at he;cases fF with
  |some m=>cases he
  |none=>
   have he:nF P ⟨call,aJ,S,H,o⟩ t (a3 S.T H x) (iy S.T H lo) (iy S.T H ak)=some r:=he;cases ad:a3 S.T H x with
   |none=>rw[ad] at he;cases he
   |some Dn=>
    cases ae:iy S.T H lo with
    |none=>rw[ad,ae] at he;cases he
    |some aa5=>
     cases aD:iy S.T H ak with
     |none=>rw[ad,ae,aD] at he;cases he
     |some EP=>
      rw[ad,ae,aD] at he;have he:orElse (g9 (lc P H t Dn aa5 EP) H) (fl P S.T H o)=some r:=he;cases av:g9 (lc P H t Dn aa5 EP) H with
      |none=>rw[av] at he;exact Hw h aI (fun cs b q=>by rw[ah] at q;cases q) he
      |some cv=>
       rw[av] at he;have he:some cv=some r:=he;injection he with he;subst he
       have:=qq (call:=call) (aJ:=aJ) h (fun v q=>aku h (eu x Dn ad) (acp h aI ae) (acp h aI aD) q) av;simpa[execOp,ah] using this
 |fieldAddr s x f=>
  rw[ah] at he;have he:CW P ⟨call,aJ,S,H,o⟩ s f (a3 S.T H x)=some r:=he;cases aa:a3 S.T H x with
  |none=>rw[aa] at he;cases he
  |some p=>
   rw[aa] at he;have:=qq (call:=call) (aJ:=aJ) h (fun v q=>akj (eu x p aa) q w) he;simpa[execOp,ah] using this
 |indexAddr t x dz=>
  rw[ah] at he;have he:yO P ⟨call,aJ,S,H,o⟩ t (a3 S.T H x) (a3 S.T H dz)=some r:=he;cases ad:a3 S.T H x with
  |none=>rw[ad] at he;cases he
  |some Dn=>
   cases ae:a3 S.T H dz with
   |none=>rw[ad,ae] at he;cases he
   |some IY=>
    rw[ad,ae] at he;have:=qq (call:=call) (aJ:=aJ) h (fun v q=>akk (eu x Dn ad) (eu dz IY ae) q w) he;simpa[execOp,ah] using this
 |lookup t x k ok=>rw[ah] at he;cases he
 |mapUpdate t m k x=>rw[ah] at he;cases he
 |insert t m k x=>rw[ah] at he;cases he
 |typeAssert x xt asserted ok=>
  rw[ah] at he;have he:C1 P ⟨call,aJ,S,H,o⟩ asserted ok (a3 S.T H x)=some r:=he;cases aa:a3 S.T H x with
  |none=>rw[aa] at he;cases he
  |some v=>
   rw[aa] at he;have:=qq (call:=call) (aJ:=aJ) h (fun u q=>akC (xt:=xt) (eu x v aa) q w) he;simpa[execOp,ah] using this
 |extract t dz=>
  rw[ah] at he;have he:CV P ⟨call,aJ,S,H,o⟩ dz (a3 S.T H t)=some r:=he;cases aa:a3 S.T H t with
  |none=>rw[aa] at he;cases he
  |some v=>
   rw[aa] at he;cases v with
   |tuple vs=>
    obtain⟨b0,av,aq⟩:=(eu t _ aa).avW;have he:g9 (nth vs.toList dz) H=some r:=he;have:=qq (call:=call) (aJ:=aJ) (s:=Instr.extract (dc tmps t) dz) h (fun v q=>by
     rw[lT] at q;obtain⟨v',aL,aG⟩:=aq.get q;refine⟨v',?_,aG⟩;have aL:b0[dz]?=some v':=by simpa using aL
     simp[Instr.extract,av,aL]) he
    simpa[execOp,ah] using this
   |_=>cases he
 |panic x=>
  rw[ah] at he;have he:JE P ⟨call,aJ,S,H,o⟩ (a3 S.T H x)=some r:=he;cases aa:a3 S.T H x with
  |none=>rw[aa] at he;cases he
  |some v=>
   rw[aa] at he;cases v with
   |iface t v=>
    obtain⟨dV,av,ao⟩:=(eu x _ aa).yq;have he:some (cP.gx [{v:=.iface t v,recovered:=false}] H)=some r:=he;injection he with he;subst he
    refine .inl ⟨.iface t v,.iface t dV,rfl,rfl,?_,.iface t v dV ao⟩;simp[execOp,ah,av,Instr.panic,goPanic,Sem.run]
   |_=>cases he
 |call c=>
  rw[ah] at he;have he:kN P ⟨call,aJ,S,H,o⟩ c=some r:=he;unfold kN at he;cases m4:c.callee with
  |builtin b=>
   rw[m4] at he;exact akb h aI ah m4 he
  |value f=>
   rw[m4] at he;exact X2 h aI ah (fun b q=>by rw[m4] at q;cases q) he
  |invoke ac2 Jm=>
   rw[m4] at he;exact X2 h aI ah (fun b q=>by rw[m4] at q;cases q) he
 |defer c=>
  rw[ah] at he;have he:wO P ⟨call,aJ,S,H,o⟩ c=some r:=he;unfold wO at he;cases ao:S.cr with
  |some l=>simp only[ao] at he;cases he
  |none=>simp only[ao] at he;exact akf h aI ah he
 |field t x f=>
  rw[ah] at he;have he:FJ P ⟨call,aJ,S,H,o⟩ f (a3 S.T H x) (P.underlying t)=some r:=he;cases aa:a3 S.T H x with
  |none=>rw[aa] at he;cases he
  |some v=>
   rw[aa] at he;cases v with
   |agg cs=>
    obtain⟨b0,av,aq⟩:=(eu x _ aa).WM;cases hu:P.underlying t with
    |none=>rw[hu] at he;cases he
    |some d=>
     rw[hu] at he;cases d with
     |struct fields=>
      have he:(match fields[f]? with|some f=>g9 (nn P f.type cs.toList f.offset) H|none=>none)=some r:=he
      cases aA:fields[f]? with
      |none=>rw[aA] at he;cases he
      |some fd=>
       rw[aA] at he;have:=qq (call:=call) (aJ:=aJ) (s:=Instr.field t (dc tmps x) f) h (fun v q=>by
        obtain⟨v',aL,aG⟩:=X7 aq q w;refine⟨v',?_,aG⟩;have aL:(part fd.type b0 fd.offset).run P w=.ok v' w:=by simpa using aL
        simp[Instr.field,e2 hu,aA,av,asAgg,aL]) he
       simpa[execOp,ah] using this
     |_=>cases he
   |_=>cases he
 |index t x dz=>
  rw[ah] at he;have he:As P ⟨call,aJ,S,H,o⟩ (a3 S.T H x) (a3 S.T H dz) (P.underlying t)=some r:=he;cases aa:a3 S.T H x with
  |none=>rw[aa] at he;cases he
  |some v=>
   cases ak:a3 S.T H dz with
   |none=>rw[aa,ak] at he;cases v<;>cases he
   |some IY=>
    rw[aa,ak] at he;have wu:=eu x v aa;have Zn:=eu dz IY ak;cases v with
    |agg cs=>
     obtain⟨b0,av,aq⟩:=wu.WM;cases IY with
     |int k i=>
      have EP:=Zn.rb;cases hu:P.underlying t with
      |none=>rw[hu] at he;cases he
      |some d=>
       rw[hu] at he;cases d with
       |array len elem=>
        have lM:(match uI i len,eV P elem with|some n,some sz=>g9 (nn P elem cs.toList (n*sz)) H|_,_=>none)=some r:=he
        cases aE:uI i len with
        |none=>rw[aE] at lM;cases lM
        |some m=>
         rw[aE] at lM;cases hs:eV P elem with
         |none=>rw[hs] at lM;cases lM
         |some sz=>
          rw[hs] at lM;obtain⟨rfl,cD⟩:=Ti aE;have:=qq (call:=call) (aJ:=aJ) (s:=Instr.index t (dc tmps x) (dc tmps dz)) h (fun v q=>by
           obtain⟨v',aL,aG⟩:=X7 aq q w;refine⟨v',?_,aG⟩;have aL:(part elem b0 (m*sz)).run P w=.ok v' w:=by simpa using aL
           simp[Instr.index,EP,asIntOf,e2 hu,av,cD,k7 hs,aL]) lM
          simpa[execOp,ah] using this
       |_=>cases he
     |_=>cases he
    |string s=>
     have av:=wu.J0;cases IY with
     |int k i=>
      have EP:=Zn.rb;cases hu:P.underlying t with
      |none=>rw[hu] at he;cases he
      |some d=>
       rw[hu] at he;cases d with
       |string=>
        cases i with
        |negSucc m=>cases he
        |ofNat m=>
         have he:(match nth s.data.toList m with|some b=>rN (.ofNat b.toNat) (qy H .u8)|none=>none)=some r:=he
         cases ai:nth s.data.toList m with
         |none=>rw[ai] at he;cases he
         |some b=>
          rw[ai] at he;have he:rN (.ofNat b.toNat) (qy H .u8)=some r:=he;rw[ub] at he;have aoD:s[m]?=some b:=by
           rw[lT] at ai;have cD:m<s.size:=by have:=(ff.1 ai).1;simpa using this
           rw[getElem?_pos s m cD];have ae:s.data[m]?=some b:=by simpa using ai
           rw[AT cD] at ae;injection ae with ae;rw[<-ae];rfl
          refine xp h he (v':=.int .u8 b.toNat) ?_ (.atom _ rfl);simp[execOp,ah,Instr.index,EP,asIntOf,e2 hu,av,aoD]
       |_=>cases he
     |_=>cases he
    |_=>cases he
 |convert src dst x=>
  rw[ah] at he;have fv:fl P S.T H o=some r->oq P B w0 call aJ μ H w (execOp (dc tmps) o) r:=Hw h aI (fun cs b q=>by rw[ah] at q;cases q);have he:yN P ⟨call,aJ,S,H,o⟩ src dst (a3 S.T H x)=some r:=he;cases aa:a3 S.T H x with
  |none=>rw[aa] at he;cases he
  |some v=>
   rw[aa] at he;have wu:=eu x v aa;cases v with
   |string s=>
    have he:orElse (nJ (xV P H src dst s)) (fl P S.T H o)=some r:=he;cases av:xV P H src dst s with
    |none=>rw[av] at he;exact fv he
    |some p=>
     have he:nJ (xV P H src dst s)=some r:=by rw[av] at he ⊢;obtain⟨a,b⟩:=p;exact he
     have:=yP (call:=call) (aJ:=aJ) (fun v H' q=>aky h q) he;simpa[execOp,ah,wu.J0] using this
   |pointer a=>
    cases a with
    |none=>exact fv he
    |some a=>
     have:=qq (call:=call) (aJ:=aJ) h (fun v q=>akd h wu q) he;simpa[execOp,ah] using this
   |slice a l c=>
    have:=qq (call:=call) (aJ:=aJ) h (fun v q=>akB h wu (akz q)) he;simpa[execOp,ah] using this
   |int k i=>
    have he:(match P.underlying src,P.underlying dst with|some _,some (.int k)=>rN (AO k i) (qy H k)|_,_=>fl P S.T H o)=some r:=he
    cases hs:P.underlying src with
    |none=>rw[hs] at he;exact fv he
    |some ds=>
    cases au:P.underlying dst with
    |none=>rw[hs,au] at he;exact fv he
    |some d=>
     rw[hs,au] at he;cases d with
     |int lQ=>
      have he:rN (AO lQ i) (qy H lQ)=some r:=he;rw[ub,Gb] at he;refine xp h he (v':=.int lQ (lQ.wrap i)) ?_ (.atom _ rfl);simp[execOp,ah,wu.rb,convert,e2 hs,e2 au,Conv.intToInt]
     |_=>exact fv he
   |_=>exact fv he
 |binOp op t x y ru=>
  rw[ah] at he;have fv:fl P S.T H o=some r->oq P B w0 call aJ μ H w (execOp (dc tmps) o) r:=Hw h aI (fun cs b q=>by rw[ah] at q;cases q);have he:lU P ⟨call,aJ,S,H,o⟩ op t (a3 S.T H x) (a3 S.T H y)=some r:=he;cases aa:a3 S.T H x with
  |none=>rw[aa] at he;cases he
  |some a=>
   cases ap:a3 S.T H y with
   |none=>rw[aa,ap] at he;cases a<;>cases he
   |some b=>
    rw[aa,ap] at he;have wu:=eu x a aa;have aal:=eu y b ap;have AF:uO P ⟨call,aJ,S,H,o⟩ op t a b=some r->oq P B w0 call aJ μ H w (execOp (dc tmps) o) r:=by
     intro he;have he:orElse (fl P S.T H o) (wN P ⟨call,aJ,S,H,o⟩ t a b op)=some r:=he;cases aw:fl P S.T H o with
     |some cv=>
      rw[aw] at he;have he:some cv=some r:=he;injection he with he;subst he
      exact fv aw
     |none=>
      rw[aw] at he;have he:wN P ⟨call,aJ,S,H,o⟩ t a b op=some r:=he;cases bQ:xT P t a b with
      |none=>
       unfold wN at he;simp only[bQ] at he;cases op<;>cases he
      |some ac1=>
       obtain⟨ax,aS,cl⟩:=aj4 (x:=x) (y:=y) wu aal bQ w;unfold wN at he;simp only[bQ] at he;cases op with
       |eql=>exact xp h he (v':=.bool ac1) (by simp[execOp,ah,ax .eql,aS]) (.atom _ rfl)
       |neq=>exact xp h he (v':=.bool (!ac1)) (by simp[execOp,ah,ax .neq,cl]) (.atom _ rfl)
       |_=>cases he
    cases a with
    |int k i=>
     cases b with
     |int l j=>
      have lM:(bif mD k l then jJ H k i j (fl P S.T H o) op else uO P ⟨call,aJ,S,H,o⟩ op t (.int k i) (.int l j))=some r:=he;cases hk:mD k l with
      |false=>rw[hk,dK] at lM;exact AF lM
      |true=>
       rw[hk,cd] at lM;have:=aaA hk;subst this;exact apy h wu.rb aal.rb ⟨ru,ah⟩ fv lM
     |_=>exact AF he
    |_=>exact AF (by cases b<;>exact he)
 |ready g=>rw[ah] at he;cases he
 |waits g=>rw[ah] at he;cases he
 |sliceToArrayPointer d x=>rw[ah] at he;cases he
 |makeChan t s=>rw[ah] at he;cases he
 |mapEntry t m k=>rw[ah] at he;cases he
 |entryStore t m s x=>rw[ah] at he;cases he
 |range t x=>rw[ah] at he;cases he
 |next it b=>rw[ah] at he;cases he
 |entry it=>rw[ah] at he;cases he
 |go c=>rw[ah] at he;cases he
 |send a b=>rw[ah] at he;cases he
 |recv a b c=>rw[ah] at he;cases he
 |select a b=>rw[ah] at he;cases he
end
end
end Go.Cre
namespace Go.Cre
noncomputable section
open Go.RowKit
def bP(fr:Frame)(tmps:Array Value)(ds:List Deferred)(todo:List Item):Frame:={fr with tmps:=tmps,todo:=todo,defers:=ds,mode:=.run}
section
variable {P:Program}{fr:Frame}{tmps:Array Value}{ds:List Deferred}{k:List Item}{cs:List Frame}{w:World}
theorem LJ(todo:List Item):(bP fr tmps ds todo).eval=dc tmps:=by
 funext x;cases x<;>rfl
theorem au8:step P (lone (bP fr tmps ds (.code .skip::k)) cs w)=.next (lone (bP fr tmps ds k) cs w):=step_lone_go (by simp[stepG,stepG.exec,bP])
theorem auX{l:Nat}:step P (lone (bP fr tmps ds (.code (.label l)::k)) cs w)=.next (lone (bP fr tmps ds k) cs w):=step_lone_go (by simp[stepG,stepG.exec,bP])
theorem auV{id:Nat}:step P (lone (bP fr tmps ds (.inBlock id::k)) cs w)=.next (lone (bP fr tmps ds k) cs w):=step_lone_go (by simp[stepG,stepG.exec,bP])
theorem auW{c:Code}:step P (lone (bP fr tmps ds (.inScope c::k)) cs w)=.next (lone (bP fr tmps ds k) cs w):=step_lone_go (by simp[stepG,stepG.exec,bP])
theorem UY{x y:Code}:step P (lone (bP fr tmps ds (.code (.seq x y)::k)) cs w)=.next (lone (bP fr tmps ds (.code x::.code y::k)) cs w):=step_lone_go (by simp[stepG,stepG.exec,bP])
theorem adQ{c:Operand}{x y:Code}{t:Bool}(h:dc tmps c=.bool t):step P (lone (bP fr tmps ds (.code (.cond c x y)::k)) cs w)=.next (lone (bP fr tmps ds (.code (if t then x else y)::k)) cs w):=
 step_lone_go (by
  have he:=congrFun (LJ (fr:=fr) (tmps:=tmps) (ds:=ds) (.code (.cond c x y)::k)) c;rw[h] at he;simp only[bP] at he;simp[stepG,stepG.exec,bP,he])
theorem auQ{id:Nat}{c:Code}:step P (lone (bP fr tmps ds (.code (.block id c)::k)) cs w)=.next (lone (bP fr tmps ds (.code c::.inBlock id::k)) cs w):=step_lone_go (by simp[stepG,stepG.exec,bP])
theorem au7{c:Code}:step P (lone (bP fr tmps ds (.code (.scope c)::k)) cs w)=.next (lone (bP fr tmps ds (.code c::.inScope c::k)) cs w):=step_lone_go (by simp[stepG,stepG.exec,bP])
theorem adT{c:Code}:step P (lone (bP fr tmps ds (.code (.loop c)::k)) cs w)=.next (lone (bP fr tmps ds (.code c::.inLoop c::k)) cs w):=step_lone_go (by simp[stepG,stepG.exec,bP])
theorem adS{c:Code}:step P (lone (bP fr tmps ds (.inLoop c::k)) cs w)=.next (lone (bP fr tmps ds (.code c::.inLoop c::k)) cs w):=step_lone_go (by simp[stepG,stepG.exec,bP])
theorem auU{id:Nat}{lQ:List Item}(h:exitTo id k=some lQ):step P (lone (bP fr tmps ds (.code (.exit id)::k)) cs w)=.next (lone (bP fr tmps ds lQ) cs w):=step_lone_go (by simp[stepG,stepG.exec,bP,h])
theorem adU{id:Nat}{ops:Array Oper}:step P (lone (bP fr tmps ds (.code (.region id ops false)::k)) cs w)=.next (lone (bP fr tmps ds (.inRegion ops (List.range ops.size)::k)) cs w):=step_lone_go (by simp[stepG,stepG.exec,bP])
theorem UX{ops:Array Oper}:step P (lone (bP fr tmps ds (.inRegion ops []::k)) cs w)=.next (lone (bP fr tmps ds k) cs w):=step_lone_go (by simp[stepG,stepG.exec,bP])
theorem auS{id:Nat}{ops:Array Oper}:step P (lone (bP fr tmps ds (.code (.region id ops true)::k)) cs w)=
 .next (lone (bP fr tmps ds (.inRegion ops (Region.schedule (P.follows .mixedOrders) ops (w.tape w.drawn (.order fr.fn id)))::k)) cs {w with drawn:=w.drawn+1}):=
 step_lone_go (by simp[stepG,stepG.exec,bP,choose,Sem.run,Question.forced,Question.cut])
def uR(tmps:Array Value)(dst:Option Tmp)(v:Value):Array Value:=match dst with|some d=>tmps.setIfInBounds d v|none=>tmps
theorem Bz{ops:Array Oper}{i:Nat}{rest:List Nat}{o:Oper}(ah:ops[i]?=some o)(v:Value):(bP fr tmps ds (.inRegion ops (i::rest)::k)).finish v=bP fr (uR tmps o.dst v) ds (.inRegion ops rest::k):=by
 simp only[Frame.finish,bP,ah,Wr,uR];cases o.dst<;>rfl
theorem au'{ops:Array Oper}{i:Nat}{rest:List Nat}{o:Oper}(ah:ops[i]?=some o)(hw:Region.wanted o (yielded ops tmps)=false):
 step P (lone (bP fr tmps ds (.inRegion ops (i::rest)::k)) cs w)=.next (lone (bP fr (uR tmps o.dst undef) ds (.inRegion ops rest::k)) cs w):=by
 rw[<-Bz ah];exact step_lone_go (by simp[stepG,stepG.exec,bP,ah,hw])
theorem C9{ops:Array Oper}{i:Nat}{rest:List Nat}{o:Oper}(ah:ops[i]?=some o)(hw:Region.wanted o (yielded ops tmps)=true)(eh:fr.roundOf=none\/∀c,o.op≠.defer c):
 stepG P true {frame:=bP fr tmps ds (.inRegion ops (i::rest)::k),callers:=cs,status:=.running,dying:=none} w=
  stepG.apply P true (bP fr tmps ds (.inRegion ops (i::rest)::k)) cs none (execOp (dc tmps) o) w:=by
 have he:=LJ (fr:=fr) (tmps:=tmps) (ds:=ds) (.inRegion ops (i::rest)::k);simp only[bP] at he;simp only[stepG,stepG.exec,stepG.oper,Frame.oper?,bP,ah,hw,he,KV,Ws,MQ];rcases eh with h|h
 ·rw[h]
 ·cases ao:fr.roundOf with
  |none=>rfl
  |some l=>
   cases eu:o.op with
   |defer c=>exact absurd eu (h c)
   |_=>rfl
theorem UZ{ops:Array Oper}{i:Nat}{rest:List Nat}{o:Oper}{v:Value}{a8:World}(ah:ops[i]?=some o)(hw:Region.wanted o (yielded ops tmps)=true)(eh:fr.roundOf=none\/∀c,o.op≠.defer c)
 (ao:(execOp (dc tmps) o).run P w=.ok (.value v) a8):
 step P (lone (bP fr tmps ds (.inRegion ops (i::rest)::k)) cs w)=.next (lone (bP fr (uR tmps o.dst v) ds (.inRegion ops rest::k)) cs a8):=by
 rw[<-Bz ah];exact step_lone_go (by rw[C9 ah hw eh];simp[stepG.apply,ao])
theorem au9{ops:Array Oper}{i:Nat}{rest:List Nat}{o:Oper}{a8:World}(ah:ops[i]?=some o)(hw:Region.wanted o (yielded ops tmps)=true)(eh:fr.roundOf=none\/∀c,o.op≠.defer c)
 (ao:(execOp (dc tmps) o).run P w=.ok .skip a8):
 step P (lone (bP fr tmps ds (.inRegion ops (i::rest)::k)) cs w)=.next (lone (bP fr (uR tmps o.dst undef) ds (.inRegion ops rest::k)) cs a8):=by
 rw[<-Bz ah];exact step_lone_go (by rw[C9 ah hw eh];simp[stepG.apply,ao])
theorem au1{ops:Array Oper}{i:Nat}{rest:List Nat}{o:Oper}{v:Value}{a8:World}(ah:ops[i]?=some o)(hw:Region.wanted o (yielded ops tmps)=true)(eh:fr.roundOf=none\/∀c,o.op≠.defer c)
 (ao:(execOp (dc tmps) o).run P w=.halt (.panic v) a8):
 step P (lone (bP fr tmps ds (.inRegion ops (i::rest)::k)) cs w)=.next (lone {bP fr tmps ds (.inRegion ops (i::rest)::k) with mode:=.panicking [{v,recovered:=false}]} cs a8):=
 step_lone_go (by rw[C9 ah hw eh];simp[stepG.apply,ao,Frame.raise,bP])
theorem auR{ops:Array Oper}{i:Nat}{rest:List Nat}{o:Oper}{d:Deferred}{a8:World}(ah:ops[i]?=some o)(hw:Region.wanted o (yielded ops tmps)=true)(eh:fr.roundOf=none)
 (ao:(execOp (dc tmps) o).run P w=.ok (.defer d) a8):
 step P (lone (bP fr tmps ds (.inRegion ops (i::rest)::k)) cs w)=.next (lone (bP fr (uR tmps o.dst undef) (d::ds) (.inRegion ops rest::k)) cs a8):=by
 have aA:({bP fr tmps ds (.inRegion ops (i::rest)::k) with defers:=d::ds}:Frame).finish undef=bP fr (uR tmps o.dst undef) (d::ds) (.inRegion ops rest::k):=
  Bz (fr:=fr) (tmps:=tmps) (ds:=d::ds) (k:=k) (rest:=rest) ah undef
 refine step_lone_go ?_;rw[C9 ah hw (.inl eh)];simp only[stepG.apply,Sem.runT_eq,ao,GStep.bare_after,MQ];exact cC (fun f=>GStep.go {frame:=f,callers:=cs,status:=.running,dying:=none} a8) aA
theorem adR{ops:Array Oper}{i:Nat}{rest:List Nat}{o:Oper}{f:FuncId}{args:Array Value}{a8:World}(ah:ops[i]?=some o)(hw:Region.wanted o (yielded ops tmps)=true)(eh:fr.roundOf=none\/∀c,o.op≠.defer c)
 (ao:(execOp (dc tmps) o).run P w=.ok (.enter f args) a8):
 step P (lone (bP fr tmps ds (.inRegion ops (i::rest)::k)) cs w)=.next (lone (Frame.enter P f args .normal) (bP fr tmps ds (.inRegion ops (i::rest)::k)::cs) a8):=
 step_lone_go (by rw[C9 ah hw eh];simp[stepG.apply,ao,bP])
theorem adV{ops:Array Oper}{i:Nat}{rest:List Nat}{o:Oper}{l:Nat}{f:FuncId}{py:Array Value}{a b:Code}{a8:World}(ah:ops[i]?=some o)(hw:Region.wanted o (yielded ops tmps)=true)(eh:fr.roundOf=none\/∀c,o.op≠.defer c)
 (ao:(execOp (dc tmps) o).run P w=.ok (.round l f py a b) a8):
 step P (lone (bP fr tmps ds (.inRegion ops (i::rest)::k)) cs w)=.next (lone (Frame.round l f py a b .normal) (bP fr tmps ds (.inRegion ops (i::rest)::k)::cs) a8):=
 step_lone_go (by rw[C9 ah hw eh];simp[stepG.apply,ao])
end
end
end Go.Cre
namespace Go.Cre
noncomputable section
open Go.RowKit
def iY(μ:bY)(c c':List PanicEntry):Prop:=c.length=c'.length/\∀(i:Nat) e bD,c[i]?=some e->c'[i]?=some bD->bD.recovered=e.recovered/\bD.goexit=e.goexit/\bj μ e.v bD.v
def pN(μ:bY):FrameMode->FrameMode->Prop
 |.run,.run=>True
 |.returning,.returning=>True
 |.panicking c,.panicking c'=>iY μ c c'
 |_,_=>False
def Ky(μ:bY)(d lI:Deferred):Prop:=
 (∃lf cap ek,d.target=.fn lf cap/\lI.target=.fn lf ek/\yH lf=true/\b3 μ cap.toList ek.toList/\b3 μ d.args.toList lI.args.toList)\/(∃r L,d.target=.collected r/\μ r=some L/\lI.target=.collected L.r)
inductive ty (μ:bY):List Deferred->List Deferred->Prop
 |nil:ty μ [] []
 |cons (d lI:Deferred) (l l':List Deferred):Ky μ d lI->ty μ l l'->ty μ (d::l) (lI::l')
def AW(μ:bY):Ending->Ending->Prop
 |.returned v,.returned v'=>bj μ v v'
 |.panicked c,.panicked c'=>iY μ c c'
 |_,_=>False
section
variable {P:Program}{B:Nat->Prop}{w0 w:World}{μ bh:bY}{H H':ar}
theorem iY.mono{c c':List PanicEntry}(h:iY μ c c')(e:Ext μ bh):iY bh c c':=⟨h.1,fun i a b x y=>by obtain⟨p,q,r⟩:=h.2 i a b x y;exact⟨p,q,r.mono e⟩⟩
theorem pN.mono{m m':FrameMode}(h:pN μ m m')(e:Ext μ bh):pN bh m m':=by
 cases m<;>cases m'<;>first|trivial|exact h.elim|exact iY.mono h e
theorem Ky.mono{d lI:Deferred}(h:Ky μ d lI)(e:Ext μ bh):Ky bh d lI:=by
 rcases h with⟨lf,cap,ek,ad,ae,aD,a6,eM⟩|⟨r,L,ad,ae,aD⟩
 ·exact .inl ⟨lf,cap,ek,ad,ae,aD,a6.mono e,eM.mono e⟩
 ·exact .inr ⟨r,L,ad,e _ _ ae,aD⟩
theorem ty.mono{l l':List Deferred}(h:ty μ l l')(e:Ext μ bh):ty bh l l':=by
 induction h with
 |nil=>exact .nil
 |cons d lI l l' au _ aP=>exact .cons d lI l l' (au.mono e) aP
theorem iY.single{v v':Value}(h:bj μ v v'):iY μ [{v:=v,recovered:=false}] [{v:=v',recovered:=false}]:=
 ⟨rfl,fun i e bD x y=>by
  cases i with
  |zero=>simp at x y;subst x;subst y;exact⟨rfl,rfl,h⟩
  |succ i=>simp at x⟩
structure il (P:Program) (μ:bY) (S:aZ) (fr:Frame) (tmps:Array Value) (ds:List Deferred) (cs:List Frame):Prop where
 t:kF μ S.T S.n tmps
 d:ty μ S.ds ds
 kind:fr.kind=if S.bR then .deferred else .normal
 uW:S.cr=none->fr.roundOf=none
 Az:∀l,S.cr=some l->∃L,μ l=some L/\fr.roundOf=some L.r
 bg:S.bR=true->∃c rest,cs=c::rest/\pN μ S.bg c.mode
 fn:∃fn,P.funcs[fr.fn]?=some fn
theorem il.mono{S:aZ}{fr:Frame}{tmps:Array Value}{ds:List Deferred}{cs:List Frame}(h:il P μ S fr tmps ds cs)(e:Ext μ bh):il P bh S fr tmps ds cs:=
 ⟨h.t.mono e,h.d.mono e,h.kind,h.uW,fun l q=>by obtain⟨L,a,b⟩:=h.Az l q;exact⟨L,e _ _ a,b⟩,fun q=>by obtain⟨c,r,a,b⟩:=h.bg q;exact⟨c,r,a,b.mono e⟩,h.fn⟩
def kh(d:Bool)(cs cG:List Frame):Prop:=if d then ∃c rest m,cs=c::rest/\cG={c with mode:=m}::rest else cG=cs
theorem kh.refl(d:Bool)(cs:List Frame)(h:d=true->∃c rest,cs=c::rest):kh d cs cs:=by
 cases d with
 |false=>rfl
 |true=>obtain⟨c,rest,rfl⟩:=h rfl;exact⟨c,rest,c.mode,rfl,rfl⟩
theorem kh.trans{d:Bool}{a b c:List Frame}(h:kh d a b)(k:kh d b c):kh d a c:=by
 cases d with
 |false=>exact Eq.trans k h
 |true=>
  obtain⟨x,rest,m,rfl,rfl⟩:=h;obtain⟨y,yW,m',e,rfl⟩:=k;injection e with ax aS;subst ax;subst aS
  exact⟨x,rest,m',rfl,rfl⟩
def pC(P:Program)(B:Nat->Prop)(w0:World)(call:eI):Prop:=
 ∀f args H e H',call f args H=some (e,H')->∀μ w cb,b8 P B w0 μ H w->b3 μ args cb->
  (∃v v' a8 bh,e=.returned v/\(callFunc f cb.toArray).run P w=.ok (.value v') a8/\b8 P B w0 bh H' a8/\Step μ bh H H'/\bj bh v v')\/
  ((callFunc f cb.toArray).run P w=.ok (.enter f cb.toArray) w/\Calls P f cb.toArray w (fun bD a8=>∃bh,b8 P B w0 bh H' a8/\Step μ bh H H'/\AW bh e bD))
def aff(c:Frame):Ending->Frame
 |.returned v=>c.finish v
 |.panicked bw=>c.raise bw
 |.outgrown=>c
def xi(P:Program)(B:Nat->Prop)(w0:World)(aJ:hl):Prop:=
 ∀l args H e H',aJ l args H=some (e,H')->∀μ w L cb,b8 P B w0 μ H w->μ l=some L->b3 μ args cb->
  ∃f py a b,(Instr.yield L.r cb.toArray).run P w=.ok (.round L.r f py a b) w/\
   ∀caller cs,∃bD a8 bh,b8 P B w0 bh H' a8/\Step μ bh H H'/\AW bh e bD/\Steps P (lone (Frame.round L.r f py a b .normal) (caller::cs) w) (lone (aff caller bD) cs a8)
theorem YC{ops:Array Oper}{T:a0 Value}{n:Nat}{tmps:Array Value}{o:Oper}{b:Bool}(aI:kF μ T n tmps)(he:fT ops.toList T o=some b):Region.wanted o (yielded ops tmps)=b:=by
 unfold fT at he;unfold Region.wanted;cases ay:o.guard with
 |none=>rw[ay] at he;simp at he;exact he.symm▸rfl
 |some p=>
  obtain⟨j,want⟩:=p;rw[ay] at he;have he:vY ops.toList T (j,want)=some b:=he;simp only[vY,lT] at he;simp only[yielded];have aX:ops.toList[j]?=ops[j]?:=by simp
  rw[aX] at he;cases aw:ops[j]? with
  |none=>rw[aw] at he;simp at he;subst he;simp
  |some p=>
   rw[aw] at he;simp only at he;cases au:p.dst with
   |none=>rw[au] at he;simp at he;subst he;simp[au]
   |some d=>
    rw[au] at he;simp only at he;cases cB:T.get d with
    |none=>rw[cB] at he;simp at he
    |some v=>
     rw[cB] at he;have av:=aI.2 d v cB;have fJ:tmps[d]?=some (tmps.getD d undef)\/(tmps[d]?=none/\tmps.getD d undef=undef):=by
      rcases hH d tmps.size with q|q
      ·left;simp[q]
      ·right;simp[q]
     simp only[Wr,au];have abT:(∀c,v≠.bool c)->v≠.chan none->∀c,tmps.getD d undef≠.bool c:=fun aE hw c q=>by
      rw[q] at av;cases av with
      |atom _ _=>exact aE c rfl
      |zb _ _=>exact hw rfl
     by_cases kt:∃c,v=.bool c
     ·obtain⟨c,rfl⟩:=kt;simp only[cn] at he;subst he;have j6:=av.GN;rcases fJ with q|⟨_,q⟩
      ·rw[q,j6];simp
      ·rw[q] at j6;cases j6
     ·have e6:∀c,v≠.bool c:=fun c q=>kt ⟨c,q⟩;have an3:v≠.chan none:=fun q=>by rw[q] at he;cases he
      have ai:b=false:=by
       cases v<;>first|(simp only[cn] at he;exact he.symm)|exact absurd ⟨_,rfl⟩ kt|cases he
      subst ai;rcases fJ with q|⟨q,_⟩
      ·rw[q];have:=abT e6 an3;cases aa:tmps.getD d undef<;>first|rfl|exact absurd aa (this _)
      ·rw[q];rfl
theorem Uq{S aH:aZ}{fr:Frame}{tmps:Array Value}{ds:List Deferred}{cs:List Frame}{dst:Option Tmp}{v v':Value}(h:il P μ S fr tmps ds cs)(av:bj μ v v')(he:S.put dst v=some aH):
 il P μ aH fr (uR tmps dst v') ds cs/\aH.bR=S.bR/\aH.cr=S.cr/\aH.bg=S.bg/\aH.ds=S.ds:=by
 cases dst with
 |none=>
  have he:some S=some aH:=he;injection he with he;subst he
  exact⟨h,rfl,rfl,rfl,rfl⟩
 |some d=>
  obtain⟨T,n,gd,bR,bg,cr⟩:=S;have he:Bool.rec (motive:=fun _=>Option aZ) none (aZ.qw n gd bR bg cr (a0.put v T d)) (Nat.ble (Nat.succ d) n)=some aH:=he;cases ai:Nat.ble (Nat.succ d) n with
  |false=>rw[ai] at he;cases he
  |true=>
   rw[ai] at he;have ai:=h3 ai;have he:aZ.qw n gd bR bg cr (a0.put v T d)=some aH:=he;cases aw:a0.put v T d with
   |none=>rw[aw] at he;cases he
   |some dZ=>
    rw[aw] at he;have he:some (aZ.mk dZ n gd bR bg cr)=some aH:=he;injection he with he;subst he
    refine⟨⟨⟨by have:=h.t.1;simpa[uR] using this,fun t u q=>?_⟩,h.d,h.kind,h.uW,h.Az,h.bg,h.fn⟩,rfl,rfl,rfl,rfl⟩;have q:dZ.get t=some u:=q;rw[a0.get_put aw] at q;have eb:n<=tmps.size:=h.t.1;show bj μ u ((tmps.setIfInBounds d v').getD t undef);by_cases SR:t=d
    ·subst SR;rw[aV rfl] at q;injection q with q;subst q
     have:(tmps.setIfInBounds t v').getD t undef=v':=by
      have:t<tmps.size:=by omega
      simp[this]
     rw[this];exact av
    ·rw[aQ SR] at q;have:(tmps.setIfInBounds d v').getD t undef=tmps.getD t undef:=by
      simp[VG (Ne.symm SR)]
     rw[this];exact h.t.2 t u q
def k'(P:Program)(B:Nat->Prop)(w0:World)(μ:bY)(H:ar)(S:aZ)(fr:Frame)(cs:List Frame)(m:Machine)(todo:List Item):dJ->Prop
 |.ok aH H'=>∃bh a8 g5 fg cG,b8 P B w0 bh H' a8/\Step μ bh H H'/\il P bh aH fr g5 fg cG/\kh S.bR cs cG/\aH.bR=S.bR/\aH.cr=S.cr/\Steps P m (lone (bP fr g5 fg todo) cG a8)
 |.gx chain aH H'=>∃bh a8 g5 fg cG GY h7,b8 P B w0 bh H' a8/\Step μ bh H H'/\il P bh aH fr g5 fg cG/\kh S.bR cs cG/\aH.bR=S.bR/\aH.cr=S.cr/\iY bh chain GY/\
  Steps P m (lone {bP fr g5 fg h7 with mode:=.panicking GY} cG a8)
end
end
end Go.Cre
