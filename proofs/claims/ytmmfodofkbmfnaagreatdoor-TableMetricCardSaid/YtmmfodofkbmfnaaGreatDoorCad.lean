/- A part of the proof of TableMetric. -/
import Derived.Test.YtmmfodofkbmfnaaGreatDoorCac
import Derived.Below
set_option linter.unusedVariables false
set_option linter.unusedSimpArgs false
namespace Go.Cre
noncomputable section
open Go.RowKit
theorem aL.JM{α:Type}(n:Nat):(aL.leaf:aL α).get n=none:=rfl
theorem aL.yj{α:Type}(v:Option α)(l r:aL α):(aL.node v l r).get 0=v:=rfl
theorem aL.mw{α:Type}(v:Option α)(l r:aL α)(m:Nat):(aL.node v l r).get (m+1)=if m % 2=0 then l.get (m / 2) else r.get (m / 2):=by
 show Bool.rec (motive:=fun _=>Option α) (r.get (m / 2)) (l.get (m / 2)) (Nat.beq (m % 2) 0)=_;by_cases h:m % 2=0
 ·rw[bs h];simp[h]
 ·rw[a1 h];have:Nat.beq (m % 2) 0=false:=by
   cases af:Nat.beq (m % 2) 0
   ·rfl
   ·exact absurd (dB af) h
  rw[this]
theorem aL.XI{α:Type}(a:α):aL.put a .leaf 0=some (.node (some a) .leaf .leaf):=rfl
theorem aL.XH{α:Type}(a:α)(m:Nat):aL.put a .leaf (m+1)=none:=rfl
theorem aL.XL{α:Type}(a:α)(v:Option α)(l r:aL α):aL.put a (.node v l r) 0=some (.node (some a) l r):=rfl
theorem aL.Cw{α:Type}(a:α)(v:Option α)(l r:aL α)(m:Nat):
 aL.put a (.node v l r) (m+1)=if m % 2=0 then aL.left v r (aL.put a l (m / 2)) else aL.right v l (aL.put a r (m / 2)):=by
 show Bool.rec (motive:=fun _=>Option (aL α)) (aL.right v l (aL.put a r (m / 2))) (aL.left v r (aL.put a l (m / 2))) (Nat.beq (m % 2) 0)=_;by_cases h:m % 2=0
 ·rw[bs h];simp[h]
 ·rw[a1 h];have:Nat.beq (m % 2) 0=false:=by
   cases af:Nat.beq (m % 2) 0
   ·rfl
   ·exact absurd (dB af) h
  rw[this]
theorem aL.get_put{α:Type}{a:α}{t ix:aL α}{n:Nat}(h:aL.put a t n=some ix)(m:Nat):ix.get m=if m=n then some a else t.get m:=by
 induction t generalizing ix n m with
 |leaf=>
  cases n with
  |zero=>
   rw[aL.XI] at h;injection h with h;subst h
   cases m with
   |zero=>simp[aL.yj]
   |succ m=>rw[aL.mw];simp[aL.JM]
  |succ n=>rw[aL.XH] at h;cases h
 |node v l r qW qX=>
  cases n with
  |zero=>
   rw[aL.XL] at h;injection h with h;subst h
   cases m with
   |zero=>simp[aL.yj]
   |succ m=>rw[aL.mw,aL.mw];simp
  |succ n=>
   rw[aL.Cw] at h;by_cases aE:n % 2=0
   ·rw[bs aE] at h;cases aw:aL.put a l (n / 2) with
    |none=>rw[aw] at h;cases h
    |some l'=>
     rw[aw] at h;injection h with h;subst h
     cases m with
     |zero=>simp[aL.yj]
     |succ m=>
      rw[aL.mw,aL.mw,qW aw];by_cases hm:m % 2=0
      ·rw[bs hm,bs hm];have:(m / 2=n / 2)↔(m+1=n+1):=by omega
       simp[this]
      ·rw[a1 hm,a1 hm];have:¬(m+1=n+1):=by omega
       rw[a1 this]
   ·rw[a1 aE] at h;cases ap:aL.put a r (n / 2) with
    |none=>rw[ap] at h;cases h
    |some cA=>
     rw[ap] at h;injection h with h;subst h
     cases m with
     |zero=>simp[aL.yj]
     |succ m=>
      rw[aL.mw,aL.mw,qX ap];by_cases hm:m % 2=0
      ·rw[bs hm,bs hm];have:¬(m+1=n+1):=by omega
       rw[a1 this]
      ·rw[a1 hm,a1 hm];have:(m / 2=n / 2)↔(m+1=n+1):=by omega
       simp[this]
theorem aL.Ek{α:Type}{a:α}{t ix:aL α}{d n:Nat}(h:aL.set d t n a=some ix)(m:Nat):ix.get m=if m=n then some a else t.get m:=aL.get_put h m
theorem jr{α:Type}(l:List α)(n:Nat):nth l n=l[n]?:=by
 induction l generalizing n with
 |nil=>rfl
 |cons a l aN=>cases n with
  |zero=>rfl
  |succ n=>exact aN n
theorem rW{α:Type}(n:Nat)(l:List α):lJ n l=l.drop n:=by
 induction l generalizing n with
 |nil=>simp[lJ]
 |cons a l aN=>cases n with
  |zero=>rfl
  |succ n=>exact aN n
theorem w6{α:Type}{n:Nat}{l r:List α}(h:takeN n l=some r):r=l.take n/\r.length=n/\n<=l.length:=by
 induction n generalizing l r with
 |zero=>simp[takeN] at h;subst h;simp
 |succ n aN=>
  cases l with
  |nil=>simp[takeN] at h
  |cons a l=>
   simp only[takeN] at h;cases aG:takeN n l with
   |none=>rw[aG] at h;cases h
   |some cA=>
    rw[aG] at h;injection h with h;subst h
    obtain⟨aA,aW,cr⟩:=aN aG;refine⟨by rw[aA,List.take_succ_cons],by simp[aW],by simp;omega⟩
theorem GX{α:Type}{n:Nat}{l vs r:List α}(h:fD n l vs=some r):
 r.length=l.length/\n+vs.length<=l.length/\∀i,r[i]?=if n<=i/\i<n+vs.length then vs[i -n]? else l[i]?:=by
 induction n generalizing l r with
 |zero=>
  induction vs generalizing l r with
  |nil=>simp[fD] at h;subst h;exact⟨rfl,by simp,fun i=>by simp⟩
  |cons v vs aN=>
   cases l with
   |nil=>simp[fD] at h
   |cons a l=>
    simp only[fD] at h;cases ag:fD 0 l vs with
    |none=>rw[ag] at h;cases h
    |some cA=>
     rw[ag] at h;injection h with h;subst h
     obtain⟨aA,aW,cr⟩:=aN ag;refine⟨by simp[aA],by simp at*;omega,fun i=>?_⟩;cases i with
     |zero=>simp
     |succ i=>
      have:=cr i;simp only[HS,this];simp
 |succ n aN=>
  cases l with
  |nil=>simp[fD] at h
  |cons a l=>
   simp only[fD] at h;cases ag:fD n l vs with
   |none=>rw[ag] at h;cases h
   |some cA=>
    rw[ag] at h;injection h with h;subst h
    obtain⟨aA,aW,cr⟩:=aN ag;refine⟨by simp[aA],by simp;omega,fun i=>?_⟩;cases i with
    |zero=>simp
    |succ i=>
     have:=cr i;simp only[HS,this];have aF:(n+1<=i+1/\i+1<n+1+vs.length)↔(n<=i/\i<n+vs.length):=by omega
     simp only[aF];split
     ·rw[show i+1 -(n+1)=i -n from by omega]
     ·rfl
structure Loc where
 r:Nat
 N:Nat
 sz:Nat
abbrev bm:=Nat->Option Loc
def isAtom:Value->Bool
 |.bool _|.int _ _|.float _ _|.string _|.nilFunc|.nilIface|.pointer none|.slice none _ _|.map none=>true
 |_=>false
inductive a3 (μ:bm):Value->Value->Prop
 |atom (v:Value):isAtom v=true->a3 μ v v
 |ptr (id off:Nat) (L:Loc):μ id=some L->a3 μ (.pointer (some ⟨id,off,none⟩)) (.pointer (some ⟨L.r,off,none⟩))
 |kb (id off len cap:Nat) (L:Loc):μ id=some L->cap<cf->a3 μ (.slice (some ⟨id,off,none⟩) len cap) (.slice (some ⟨L.r,off,none⟩) len cap)
 |lo (id off len cap:Nat) (L:Loc):μ id=some L->len<=cap->off+cap*L.sz<=L.N->a3 μ (.slice (some ⟨id,off,none⟩) len cf) (.slice (some ⟨L.r,off,none⟩) len cap)
 |pX (id off eB:Nat) (L:Loc):μ id=some L->a3 μ (.slice (some ⟨id,off,none⟩) 0 cf) (.slice (some ⟨L.r,eB,none⟩) 0 0)
 |rj (a:Addr):a3 μ (.slice (some ⟨0,0,some 0⟩) 0 0) (.slice (some a) 0 0)
 |map (id:Nat) (L:Loc):μ id=some L->a3 μ (.map (some id)) (.map (some L.r))
 |rp (v:Value):dY v=true->a3 μ (.chan none) v
 |func (fn:Fn) (a b bA b':Array Value):q4 fn=true->a.size=bA.size->b.size=b'.size->
  (∀(i:Nat) v v',a[i]?=some v->bA[i]?=some v'->a3 μ v v')->(∀(i:Nat) v v',b[i]?=some v->b'[i]?=some v'->a3 μ v v')->a3 μ (.func fn a b) (.func fn bA b')
 |yield (l:Nat) (L:Loc):μ l=some L->a3 μ (.func (.yield l) #[] #[]) (.func (.yield L.r) #[] #[])
 |iface (t:TypeId) (v v':Value):a3 μ v v'->a3 μ (.iface t v) (.iface t v')
 |agg (a bA:Array Value):a.size=bA.size->(∀(i:Nat) v v',a[i]?=some v->bA[i]?=some v'->a3 μ v v')->a3 μ (.agg a) (.agg bA)
 |tuple (a bA:Array Value):a.size=bA.size->(∀(i:Nat) v v',a[i]?=some v->bA[i]?=some v'->a3 μ v v')->a3 μ (.tuple a) (.tuple bA)
def bp(μ:bm)(l l':List Value):Prop:=l.length=l'.length/\∀(i:Nat) v v',l[i]?=some v->l'[i]?=some v'->a3 μ v v'
def Ext(μ a4:bm):Prop:=∀id L,μ id=some L->a4 id=some L
theorem Ext.refl(μ:bm):Ext μ μ:=fun _ _ h=>h
theorem Ext.trans{a b c:bm}(h:Ext a b)(k:Ext b c):Ext a c:=fun id L x=>k id L (h id L x)
theorem a3.mono{μ a4:bm}{v v':Value}(h:a3 μ v v')(e:Ext μ a4):a3 a4 v v':=by
 induction h with
 |atom v h=>exact .atom v h
 |ptr id off L h=>exact .ptr id off L (e _ _ h)
 |kb id off len cap L h aF=>exact .kb id off len cap L (e _ _ h) aF
 |lo id off len cap L h aF aE=>exact .lo id off len cap L (e _ _ h) aF aE
 |pX id off eB L h=>exact .pX id off eB L (e _ _ h)
 |rj a=>exact .rj a
 |map id L h=>exact .map id L (e _ _ h)
 |rp v h=>exact .rp v h
 |func fn a b bA b' aC aK af _ _ U4 U5=>exact .func fn a b bA b' aC aK af U4 U5
 |yield l L h=>exact .yield l L (e _ _ h)
 |iface t v v' _ aN=>exact .iface t v v' aN
 |agg a bA ag _ aN=>exact .agg a bA ag aN
 |tuple a bA ag _ aN=>exact .tuple a bA ag aN
theorem bp.mono{μ a4:bm}{l l':List Value}(h:bp μ l l')(e:Ext μ a4):bp a4 l l':=⟨h.1,fun i v v' a b=>(h.2 i v v' a b).mono e⟩
theorem bp.nil(μ:bm):bp μ [] []:=⟨rfl,fun i v v' h=>by simp at h⟩
theorem bp.cons{μ:bm}{v v':Value}{l l':List Value}(h:a3 μ v v')(t:bp μ l l'):bp μ (v::l) (v'::l'):=by
 refine⟨by simp[t.1],fun i a b aK af=>?_⟩;cases i with
 |zero=>simp at aK af;subst aK;subst af;exact h
 |succ i=>simp at aK af;exact t.2 i a b aK af
theorem bp.g6{μ:bm}{v:Value}{l m:List Value}(h:bp μ (v::l) m):∃v' l',m=v'::l'/\a3 μ v v'/\bp μ l l':=by
 cases m with
 |nil=>have:=h.1;simp at this
 |cons v' l'=>
  refine⟨v',l',rfl,h.2 0 v v' rfl rfl,by have:=h.1;simpa using this,fun i a b aK af=>h.2 (i+1) a b (by simpa using aK) (by simpa using af)⟩
theorem bp.ie{μ:bm}{m:List Value}(h:bp μ [] m):m=[]:=by
 have:=h.1;exact s8.1 (by simpa using this.symm)
theorem bp.append{μ:bm}{l l' m m':List Value}(h:bp μ l l')(k:bp μ m m'):bp μ (l++m) (l'++m'):=by
 refine⟨by simp[h.1,k.1],fun i a b aK af=>?_⟩;rw[HR] at aK af;rw[<-h.1] at af;split at aK
 ·rename_i aq;rw[bs aq] at af;exact h.2 i a b aK af
 ·rename_i aq;rw[a1 aq] at af;exact k.2 _ a b aK af
theorem bp.take{μ:bm}{l l':List Value}(h:bp μ l l')(n:Nat):bp μ (l.take n) (l'.take n):=by
 refine⟨by simp[h.1],fun i a b aK af=>?_⟩;rw[kX] at aK af;split at aK
 ·rename_i aq;rw[bs aq] at af;exact h.2 i a b aK af
 ·cases aK
theorem bp.drop{μ:bm}{l l':List Value}(h:bp μ l l')(n:Nat):bp μ (l.drop n) (l'.drop n):=by
 refine⟨by simp[h.1],fun i a b aK af=>?_⟩;rw[vb] at aK af;exact h.2 _ a b aK af
theorem bp.get{μ:bm}{l l':List Value}(h:bp μ l l'){i:Nat}{v:Value}(aD:l[i]?=some v):∃v',l'[i]?=some v'/\a3 μ v v':=by
 have aq:i<l.length:=by
  rcases gX i l.length with x|x
  ·exact x
  ·rw[s7 x] at aD;cases aD
 have iJ:i<l'.length:=h.1▸aq;exact⟨l'[i],fx iJ,h.2 i v _ aD (fx iJ)⟩
theorem a3.AJ{μ:bm}{l l':List Value}(h:bp μ l l'):a3 μ (.agg l.toArray) (.agg l'.toArray):=
 .agg _ _ (by simp[h.1]) fun i v v' a b=>h.2 i v v' (by simpa using a) (by simpa using b)
theorem a3.G5{μ:bm}{l l':List Value}(h:bp μ l l'):a3 μ (.tuple l.toArray) (.tuple l'.toArray):=
 .tuple _ _ (by simp[h.1]) fun i v v' a b=>h.2 i v v' (by simpa using a) (by simpa using b)
theorem a3.Iy{μ:bm}{a:Array Value}{v:Value}(h:a3 μ (.agg a) v):∃bA,v=.agg bA/\bp μ a.toList bA.toList:=by
 cases h with
 |atom _ h=>simp[isAtom] at h
 |agg _ bA ag ap=>exact⟨bA,rfl,by simpa using ag,fun i v v' x y=>ap i v v' (by simpa using x) (by simpa using y)⟩
theorem a3.Zn{μ:bm}{a:Array Value}{v:Value}(h:a3 μ (.tuple a) v):∃bA,v=.tuple bA/\bp μ a.toList bA.toList:=by
 cases h with
 |atom _ h=>simp[isAtom] at h
 |tuple _ bA ag ap=>exact⟨bA,rfl,by simpa using ag,fun i v v' x y=>ap i v v' (by simpa using x) (by simpa using y)⟩
theorem a3.undef(μ:bm):a3 μ undef undef:=.tuple _ _ rfl fun i v v' h=>by simp at h
theorem a3.WH{μ:bm}:∀{n:Nat} {v:Value},gL n v=true->a3 μ v v:=by
 intro n;induction n with
 |zero=>intro v h;simp[gL] at h
 |succ n aN=>
  intro v h;cases v with
  |bool b=>exact .atom _ rfl
  |int k n=>exact .atom _ rfl
  |float k b=>exact .atom _ rfl
  |complex k a b=>simp[gL] at h
  |string s=>exact .atom _ rfl
  |pointer a=>cases a with
   |none=>exact .atom _ rfl
   |some a=>simp[gL] at h
  |slice a l c=>cases a with
   |none=>exact .atom _ rfl
   |some a=>simp[gL] at h
  |map r=>cases r with
   |none=>exact .atom _ rfl
   |some a=>simp[gL] at h
  |chan r=>simp[gL] at h
  |func fn a b=>
   cases fn with
   |func f=>
    simp[gL] at h;obtain⟨rfl,rfl⟩:=h;exact .func _ _ _ _ _ rfl rfl rfl (fun i v v' h=>by simp at h) (fun i v v' h=>by simp at h)
   |_=>simp[gL] at h
  |nilFunc=>exact .atom _ rfl
  |iface t v=>simp only[gL] at h;exact .iface _ _ _ (aN h)
  |nilIface=>exact .atom _ rfl
  |agg cs=>
   simp only[gL,o2] at h;exact .agg _ _ rfl fun i v v' a b=>by
    rw[a] at b;injection b with b;subst b
    exact aN (h v (xk.2 (Af a)))
  |tuple cs=>
   simp only[gL,o2] at h;exact .tuple _ _ rfl fun i v v' a b=>by
    rw[a] at b;injection b with b;subst b
    exact aN (h v (xk.2 (Af a)))
theorem II{a b:Array Value}(ag:a.size=b.size)(h:∀(i:Nat) v v',a[i]?=some v->b[i]?=some v'->v'=v):b=a:=by
 apply Array.ext ag.symm
 intro i U ab;exact h i a[i] b[i] (u2 ab) (u2 U)
theorem a3.Cu{μ:bm}:∀{n:Nat} {v v':Value},gL n v=true->a3 μ v v'->v'=v:=by
 intro n;induction n with
 |zero=>intro v v' h;simp[gL] at h
 |succ n aN=>
  intro v v' h ap;cases ap with
  |atom _ _=>rfl
  |ptr=>simp[gL] at h
  |kb=>simp[gL] at h
  |lo=>simp[gL] at h
  |pX=>simp[gL] at h
  |rj=>simp[gL] at h
  |map=>simp[gL] at h
  |rp=>simp[gL] at h
  |func fn a b bA b' aC aK af BG BH=>
   cases fn with
   |func f=>
    simp[gL] at h;obtain⟨rfl,rfl⟩:=h;have aA:bA=#[]:=Oq (by simpa using aK.symm);have aW:b'=#[]:=Oq (by simpa using af.symm);rw[aA,aW]
   |_=>simp[gL] at h
  |yield=>simp[gL] at h
  |iface t v v' aD=>simp only[gL] at h;rw[aN h aD]
  |agg a bA ag aD=>
   simp only[gL,o2] at h;rw[II ag fun i v v' x y=>aN (h v (xk.2 (Af x))) (aD i v v' x y)]
  |tuple a bA ag aD=>
   simp only[gL,o2] at h;rw[II ag fun i v v' x y=>aN (h v (xk.2 (Af x))) (aD i v v' x y)]
theorem a3.cells{μ:bm}{v v':Value}(h:a3 μ v v'):bp μ v.cells.toList v'.cells.toList:=by
 cases h with
 |agg a bA ag aD=>exact⟨by simpa[Value.cells] using ag,fun i v v' x y=>aD i v v' (by simpa[Value.cells] using x) (by simpa[Value.cells] using y)⟩
 |atom v h=>cases v<;>first|(simp[isAtom] at h;done)|exact bp.cons (.atom _ h) (bp.nil _)
 |ptr id off L h=>exact bp.cons (.ptr id off L h) (bp.nil _)
 |kb id off len cap L h aF=>exact bp.cons (.kb id off len cap L h aF) (bp.nil _)
 |lo id off len cap L h aF aE=>exact bp.cons (.lo id off len cap L h aF aE) (bp.nil _)
 |pX id off eB L h=>exact bp.cons (.pX id off eB L h) (bp.nil _)
 |rj a=>exact bp.cons (.rj a) (bp.nil _)
 |map id L h=>exact bp.cons (.map id L h) (bp.nil _)
 |rp _ h=>cases v'<;>first|(simp[dY] at h;done)|exact bp.cons (.rp _ h) (bp.nil _)
 |func fn a b bA b' aC aK af BG BH=>exact bp.cons (.func fn a b bA b' aC aK af BG BH) (bp.nil _)
 |yield l L h=>exact bp.cons (.yield l L h) (bp.nil _)
 |iface t v v' aD=>exact bp.cons (.iface t v v' aD) (bp.nil _)
 |tuple a bA ag aD=>exact bp.cons (.tuple a bA ag aD) (bp.nil _)
theorem a3.dY{μ:bm}{v v':Value}(h:a3 μ v v'):dY v'=dY v:=by
 cases h<;>first|rfl|assumption
end
end Go.Cre
