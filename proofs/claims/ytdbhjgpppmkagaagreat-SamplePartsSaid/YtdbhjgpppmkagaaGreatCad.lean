/- A part of the proof of SampleParts. -/
import Derived.Test.YtdbhjgpppmkagaaGreatCac
import Derived.Below
set_option linter.unusedVariables false
set_option linter.unusedSimpArgs false
namespace Go.Cre
noncomputable section
open Go.RowKit
theorem aX.R1{α:Type}(n:Nat):(aX.leaf:aX α).get n=none:=rfl
theorem aX.D3{α:Type}(v:Option α)(l r:aX α):(aX.node v l r).get 0=v:=rfl
theorem aX.p1{α:Type}(v:Option α)(l r:aX α)(m:Nat):(aX.node v l r).get (m+1)=if m % 2=0 then l.get (m / 2) else r.get (m / 2):=by
 show Bool.rec (motive:=fun _=>Option α) (r.get (m / 2)) (l.get (m / 2)) (Nat.beq (m % 2) 0)=_;by_cases h:m % 2=0
 ·rw[aF h];simp[h]
 ·rw[aq h];have:Nat.beq (m % 2) 0=false:=by
   cases ai:Nat.beq (m % 2) 0
   ·rfl
   ·exact absurd (eK ai) h
  rw[this]
theorem aX.ah8{α:Type}(a:α):aX.put a .leaf 0=some (.node (some a) .leaf .leaf):=rfl
theorem aX.ah7{α:Type}(a:α)(m:Nat):aX.put a .leaf (m+1)=none:=rfl
theorem aX.aia{α:Type}(a:α)(v:Option α)(l r:aX α):aX.put a (.node v l r) 0=some (.node (some a) l r):=rfl
theorem aX.Jg{α:Type}(a:α)(v:Option α)(l r:aX α)(m:Nat):
 aX.put a (.node v l r) (m+1)=if m % 2=0 then aX.left v r (aX.put a l (m / 2)) else aX.right v l (aX.put a r (m / 2)):=by
 show Bool.rec (motive:=fun _=>Option (aX α)) (aX.right v l (aX.put a r (m / 2))) (aX.left v r (aX.put a l (m / 2))) (Nat.beq (m % 2) 0)=_;by_cases h:m % 2=0
 ·rw[aF h];simp[h]
 ·rw[aq h];have:Nat.beq (m % 2) 0=false:=by
   cases ai:Nat.beq (m % 2) 0
   ·rfl
   ·exact absurd (eK ai) h
  rw[this]
theorem aX.get_put{α:Type}{a:α}{t pE:aX α}{n:Nat}(h:aX.put a t n=some pE)(m:Nat):pE.get m=if m=n then some a else t.get m:=by
 induction t generalizing pE n m with
 |leaf=>
  cases n with
  |zero=>
   rw[aX.ah8] at h;injection h with h;subst h
   cases m with
   |zero=>simp[aX.D3]
   |succ m=>rw[aX.p1];simp[aX.R1]
  |succ n=>rw[aX.ah7] at h;cases h
 |node v l r vJ vK=>
  cases n with
  |zero=>
   rw[aX.aia] at h;injection h with h;subst h
   cases m with
   |zero=>simp[aX.D3]
   |succ m=>rw[aX.p1,aX.p1];simp
  |succ n=>
   rw[aX.Jg] at h;by_cases aM:n % 2=0
   ·rw[aF aM] at h;cases ay:aX.put a l (n / 2) with
    |none=>rw[ay] at h;cases h
    |some l'=>
     rw[ay] at h;injection h with h;subst h
     cases m with
     |zero=>simp[aX.D3]
     |succ m=>
      rw[aX.p1,aX.p1,vJ ay];by_cases hm:m % 2=0
      ·rw[aF hm,aF hm];have:(m / 2=n / 2)↔(m+1=n+1):=by omega
       simp[this]
      ·rw[aq hm,aq hm];have:¬(m+1=n+1):=by omega
       rw[aq this]
   ·rw[aq aM] at h;cases ax:aX.put a r (n / 2) with
    |none=>rw[ax] at h;cases h
    |some b7=>
     rw[ax] at h;injection h with h;subst h
     cases m with
     |zero=>simp[aX.D3]
     |succ m=>
      rw[aX.p1,aX.p1,vK ax];by_cases hm:m % 2=0
      ·rw[aF hm,aF hm];have:¬(m+1=n+1):=by omega
       rw[aq this]
      ·rw[aq hm,aq hm];have:(m / 2=n / 2)↔(m+1=n+1):=by omega
       simp[this]
theorem aX.Lt{α:Type}{a:α}{t pE:aX α}{d n:Nat}(h:aX.set d t n a=some pE)(m:Nat):pE.get m=if m=n then some a else t.get m:=aX.get_put h m
theorem kk{α:Type}(l:List α)(n:Nat):nth l n=l[n]?:=by
 induction l generalizing n with
 |nil=>rfl
 |cons a l aG=>cases n with
  |zero=>rfl
  |succ n=>exact aG n
theorem vd{α:Type}(n:Nat)(l:List α):nI n l=l.drop n:=by
 induction l generalizing n with
 |nil=>simp[nI]
 |cons a l aG=>cases n with
  |zero=>rfl
  |succ n=>exact aG n
theorem Cs{α:Type}{n:Nat}{l r:List α}(h:takeN n l=some r):r=l.take n/\r.length=n/\n<=l.length:=by
 induction n generalizing l r with
 |zero=>simp[takeN] at h;subst h;simp
 |succ n aG=>
  cases l with
  |nil=>simp[takeN] at h
  |cons a l=>
   simp only[takeN] at h;cases aN:takeN n l with
   |none=>rw[aN] at h;cases h
   |some b7=>
    rw[aN] at h;injection h with h;subst h
    obtain⟨aD,a5,cC⟩:=aG aN;refine⟨by rw[aD,Kc],by simp[a5],by simp;omega⟩
theorem OA{α:Type}{n:Nat}{l vs r:List α}(h:gE n l vs=some r):
 r.length=l.length/\n+vs.length<=l.length/\∀i,r[i]?=if n<=i/\i<n+vs.length then vs[i -n]? else l[i]?:=by
 induction n generalizing l r with
 |zero=>
  induction vs generalizing l r with
  |nil=>simp[gE] at h;subst h;exact⟨rfl,by simp,fun i=>by simp⟩
  |cons v vs aG=>
   cases l with
   |nil=>simp[gE] at h
   |cons a l=>
    simp only[gE] at h;cases al:gE 0 l vs with
    |none=>rw[al] at h;cases h
    |some b7=>
     rw[al] at h;injection h with h;subst h
     obtain⟨aD,a5,cC⟩:=aG al;refine⟨by simp[aD],by simp at*;omega,fun i=>?_⟩;cases i with
     |zero=>simp
     |succ i=>
      have:=cC i;simp only[wy,this];simp
 |succ n aG=>
  cases l with
  |nil=>simp[gE] at h
  |cons a l=>
   simp only[gE] at h;cases al:gE n l vs with
   |none=>rw[al] at h;cases h
   |some b7=>
    rw[al] at h;injection h with h;subst h
    obtain⟨aD,a5,cC⟩:=aG al;refine⟨by simp[aD],by simp;omega,fun i=>?_⟩;cases i with
    |zero=>simp
    |succ i=>
     have:=cC i;simp only[wy,this];have av:(n+1<=i+1/\i+1<n+1+vs.length)↔(n<=i/\i<n+vs.length):=by omega
     simp only[av];split
     ·rw[show i+1 -(n+1)=i -n from by omega]
     ·rfl
structure Loc where
 r:Nat
 N:Nat
 aj:Nat
abbrev bH:=Nat->Option Loc
def isAtom:Value->Bool
 |.bool _|.int _ _|.float _ _|.string _|.nilFunc|.nilIface|.pointer none|.slice none _ _|.map none=>true
 |_=>false
inductive bj (μ:bH):Value->Value->Prop
 |atom (v:Value):isAtom v=true->bj μ v v
 |ptr (id off:Nat) (L:Loc):μ id=some L->bj μ (.pointer (some ⟨id,off,none⟩)) (.pointer (some ⟨L.r,off,none⟩))
 |m5 (id off len cap:Nat) (L:Loc):μ id=some L->cap<cR->bj μ (.slice (some ⟨id,off,none⟩) len cap) (.slice (some ⟨L.r,off,none⟩) len cap)
 |oS (id off len cap:Nat) (L:Loc):μ id=some L->len<=cap->off+cap*L.aj<=L.N->bj μ (.slice (some ⟨id,off,none⟩) len cR) (.slice (some ⟨L.r,off,none⟩) len cap)
 |uy (id off ga:Nat) (L:Loc):μ id=some L->bj μ (.slice (some ⟨id,off,none⟩) 0 cR) (.slice (some ⟨L.r,ga,none⟩) 0 0)
 |wc (a:Addr):bj μ (.slice (some ⟨0,0,some 0⟩) 0 0) (.slice (some a) 0 0)
 |map (id:Nat) (L:Loc):μ id=some L->bj μ (.map (some id)) (.map (some L.r))
 |wk (v:Value):eT v=true->bj μ (.chan none) v
 |func (fn:Fn) (a b bA b':Array Value):vT fn=true->a.size=bA.size->b.size=b'.size->
  (∀(i:Nat) v v',a[i]?=some v->bA[i]?=some v'->bj μ v v')->(∀(i:Nat) v v',b[i]?=some v->b'[i]?=some v'->bj μ v v')->bj μ (.func fn a b) (.func fn bA b')
 |yield (l:Nat) (L:Loc):μ l=some L->bj μ (.func (.yield l) #[] #[]) (.func (.yield L.r) #[] #[])
 |iface (t:TypeId) (v v':Value):bj μ v v'->bj μ (.iface t v) (.iface t v')
 |agg (a bA:Array Value):a.size=bA.size->(∀(i:Nat) v v',a[i]?=some v->bA[i]?=some v'->bj μ v v')->bj μ (.agg a) (.agg bA)
 |tuple (a bA:Array Value):a.size=bA.size->(∀(i:Nat) v v',a[i]?=some v->bA[i]?=some v'->bj μ v v')->bj μ (.tuple a) (.tuple bA)
def bN(μ:bH)(l l':List Value):Prop:=l.length=l'.length/\∀(i:Nat) v v',l[i]?=some v->l'[i]?=some v'->bj μ v v'
def Ext(μ bk:bH):Prop:=∀id L,μ id=some L->bk id=some L
theorem Ext.refl(μ:bH):Ext μ μ:=fun _ _ h=>h
theorem Ext.trans{a b c:bH}(h:Ext a b)(k:Ext b c):Ext a c:=fun id L x=>k id L (h id L x)
theorem bj.mono{μ bk:bH}{v v':Value}(h:bj μ v v')(e:Ext μ bk):bj bk v v':=by
 induction h with
 |atom v h=>exact .atom v h
 |ptr id off L h=>exact .ptr id off L (e _ _ h)
 |m5 id off len cap L h av=>exact .m5 id off len cap L (e _ _ h) av
 |oS id off len cap L h av aM=>exact .oS id off len cap L (e _ _ h) av aM
 |uy id off ga L h=>exact .uy id off ga L (e _ _ h)
 |wc a=>exact .wc a
 |map id L h=>exact .map id L (e _ _ h)
 |wk v h=>exact .wk v h
 |func fn a b bA b' ah aW ai _ _ Nf aeX=>exact .func fn a b bA b' ah aW ai Nf aeX
 |yield l L h=>exact .yield l L (e _ _ h)
 |iface t v v' _ aG=>exact .iface t v v' aG
 |agg a bA al _ aG=>exact .agg a bA al aG
 |tuple a bA al _ aG=>exact .tuple a bA al aG
theorem bN.mono{μ bk:bH}{l l':List Value}(h:bN μ l l')(e:Ext μ bk):bN bk l l':=⟨h.1,fun i v v' a b=>(h.2 i v v' a b).mono e⟩
theorem bN.nil(μ:bH):bN μ [] []:=⟨rfl,fun i v v' h=>by simp at h⟩
theorem bN.cons{μ:bH}{v v':Value}{l l':List Value}(h:bj μ v v')(t:bN μ l l'):bN μ (v::l) (v'::l'):=by
 refine⟨by simp[t.1],fun i a b aW ai=>?_⟩;cases i with
 |zero=>simp at aW ai;subst aW;subst ai;exact h
 |succ i=>simp at aW ai;exact t.2 i a b aW ai
theorem bN.iN{μ:bH}{v:Value}{l m:List Value}(h:bN μ (v::l) m):∃v' l',m=v'::l'/\bj μ v v'/\bN μ l l':=by
 cases m with
 |nil=>have:=h.1;simp at this
 |cons v' l'=>
  refine⟨v',l',rfl,h.2 0 v v' rfl rfl,by have:=h.1;simpa using this,fun i a b aW ai=>h.2 (i+1) a b (by simpa using aW) (by simpa using ai)⟩
theorem bN.kA{μ:bH}{m:List Value}(h:bN μ [] m):m=[]:=by
 have:=h.1;exact qL.1 (by simpa using this.symm)
theorem bN.append{μ:bH}{l l' m m':List Value}(h:bN μ l l')(k:bN μ m m'):bN μ (l++m) (l'++m'):=by
 refine⟨by simp[h.1,k.1],fun i a b aW ai=>?_⟩;rw[PJ] at aW ai;rw[<-h.1] at ai;split at aW
 ·rename_i ak;rw[aF ak] at ai;exact h.2 i a b aW ai
 ·rename_i ak;rw[aq ak] at ai;exact k.2 _ a b aW ai
theorem bN.take{μ:bH}{l l':List Value}(h:bN μ l l')(n:Nat):bN μ (l.take n) (l'.take n):=by
 refine⟨by simp[h.1],fun i a b aW ai=>?_⟩;rw[kr] at aW ai;split at aW
 ·rename_i ak;rw[aF ak] at ai;exact h.2 i a b aW ai
 ·cases aW
theorem bN.drop{μ:bH}{l l':List Value}(h:bN μ l l')(n:Nat):bN μ (l.drop n) (l'.drop n):=by
 refine⟨by simp[h.1],fun i a b aW ai=>?_⟩;rw[o2] at aW ai;exact h.2 _ a b aW ai
theorem bN.get{μ:bH}{l l':List Value}(h:bN μ l l'){i:Nat}{v:Value}(ap:l[i]?=some v):∃v',l'[i]?=some v'/\bj μ v v':=by
 have ak:i<l.length:=by
  rcases jo i l.length with x|x
  ·exact x
  ·rw[hg x] at ap;cases ap
 have hQ:i<l'.length:=h.1▸ak;exact⟨l'[i],du hQ,h.2 i v _ ap (du hQ)⟩
theorem bj.GQ{μ:bH}{l l':List Value}(h:bN μ l l'):bj μ (.agg l.toArray) (.agg l'.toArray):=
 .agg _ _ (by simp[h.1]) fun i v v' a b=>h.2 i v v' (by simpa using a) (by simpa using b)
theorem bj.OR{μ:bH}{l l':List Value}(h:bN μ l l'):bj μ (.tuple l.toArray) (.tuple l'.toArray):=
 .tuple _ _ (by simp[h.1]) fun i v v' a b=>h.2 i v v' (by simpa using a) (by simpa using b)
theorem bj.Qm{μ:bH}{a:Array Value}{v:Value}(h:bj μ (.agg a) v):∃bA,v=.agg bA/\bN μ a.toList bA.toList:=by
 cases h with
 |atom _ h=>simp[isAtom] at h
 |agg _ bA al ax=>exact⟨bA,rfl,by simpa using al,fun i v v' x y=>ax i v v' (by simpa using x) (by simpa using y)⟩
theorem bj.aj9{μ:bH}{a:Array Value}{v:Value}(h:bj μ (.tuple a) v):∃bA,v=.tuple bA/\bN μ a.toList bA.toList:=by
 cases h with
 |atom _ h=>simp[isAtom] at h
 |tuple _ bA al ax=>exact⟨bA,rfl,by simpa using al,fun i v v' x y=>ax i v v' (by simpa using x) (by simpa using y)⟩
theorem bj.undef(μ:bH):bj μ undef undef:=.tuple _ _ rfl fun i v v' h=>by simp at h
theorem bj.agq{μ:bH}:∀{n:Nat} {v:Value},h9 n v=true->bj μ v v:=by
 intro n;induction n with
 |zero=>intro v h;simp[h9] at h
 |succ n aG=>
  intro v h;cases v with
  |bool b=>exact .atom _ rfl
  |int k n=>exact .atom _ rfl
  |float k b=>exact .atom _ rfl
  |complex k a b=>simp[h9] at h
  |string s=>exact .atom _ rfl
  |pointer a=>cases a with
   |none=>exact .atom _ rfl
   |some a=>simp[h9] at h
  |slice a l c=>cases a with
   |none=>exact .atom _ rfl
   |some a=>simp[h9] at h
  |map r=>cases r with
   |none=>exact .atom _ rfl
   |some a=>simp[h9] at h
  |chan r=>simp[h9] at h
  |func fn a b=>
   cases fn with
   |func f=>
    simp[h9] at h;obtain⟨rfl,rfl⟩:=h;exact .func _ _ _ _ _ rfl rfl rfl (fun i v v' h=>by simp at h) (fun i v v' h=>by simp at h)
   |_=>simp[h9] at h
  |nilFunc=>exact .atom _ rfl
  |iface t v=>simp only[h9] at h;exact .iface _ _ _ (aG h)
  |nilIface=>exact .atom _ rfl
  |agg cs=>
   simp only[h9,qK] at h;exact .agg _ _ rfl fun i v v' a b=>by
    rw[a] at b;injection b with b;subst b
    exact aG (h v (CG.2 (Gi a)))
  |tuple cs=>
   simp only[h9,qK] at h;exact .tuple _ _ rfl fun i v v' a b=>by
    rw[a] at b;injection b with b;subst b
    exact aG (h v (CG.2 (Gi a)))
theorem Qy{a b:Array Value}(al:a.size=b.size)(h:∀(i:Nat) v v',a[i]?=some v->b[i]?=some v'->v'=v):b=a:=by
 apply Array.ext al.symm
 intro i aa ab;exact h i a[i] b[i] (Aj ab) (Aj aa)
theorem bj.Ja{μ:bH}:∀{n:Nat} {v v':Value},h9 n v=true->bj μ v v'->v'=v:=by
 intro n;induction n with
 |zero=>intro v v' h;simp[h9] at h
 |succ n aG=>
  intro v v' h ax;cases ax with
  |atom _ _=>rfl
  |ptr=>simp[h9] at h
  |m5=>simp[h9] at h
  |oS=>simp[h9] at h
  |uy=>simp[h9] at h
  |wc=>simp[h9] at h
  |map=>simp[h9] at h
  |wk=>simp[h9] at h
  |func fn a b bA b' ah aW ai H9 Bz=>
   cases fn with
   |func f=>
    simp[h9] at h;obtain⟨rfl,rfl⟩:=h;have aD:bA=#[]:=Xm (by simpa using aW.symm);have a5:b'=#[]:=Xm (by simpa using ai.symm);rw[aD,a5]
   |_=>simp[h9] at h
  |yield=>simp[h9] at h
  |iface t v v' ap=>simp only[h9] at h;rw[aG h ap]
  |agg a bA al ap=>
   simp only[h9,qK] at h;rw[Qy al fun i v v' x y=>aG (h v (CG.2 (Gi x))) (ap i v v' x y)]
  |tuple a bA al ap=>
   simp only[h9,qK] at h;rw[Qy al fun i v v' x y=>aG (h v (CG.2 (Gi x))) (ap i v v' x y)]
theorem bj.cells{μ:bH}{v v':Value}(h:bj μ v v'):bN μ v.cells.toList v'.cells.toList:=by
 cases h with
 |agg a bA al ap=>exact⟨by simpa[Value.cells] using al,fun i v v' x y=>ap i v v' (by simpa[Value.cells] using x) (by simpa[Value.cells] using y)⟩
 |atom v h=>cases v<;>first|(simp[isAtom] at h;done)|exact bN.cons (.atom _ h) (bN.nil _)
 |ptr id off L h=>exact bN.cons (.ptr id off L h) (bN.nil _)
 |m5 id off len cap L h av=>exact bN.cons (.m5 id off len cap L h av) (bN.nil _)
 |oS id off len cap L h av aM=>exact bN.cons (.oS id off len cap L h av aM) (bN.nil _)
 |uy id off ga L h=>exact bN.cons (.uy id off ga L h) (bN.nil _)
 |wc a=>exact bN.cons (.wc a) (bN.nil _)
 |map id L h=>exact bN.cons (.map id L h) (bN.nil _)
 |wk _ h=>cases v'<;>first|(simp[eT] at h;done)|exact bN.cons (.wk _ h) (bN.nil _)
 |func fn a b bA b' ah aW ai H9 Bz=>exact bN.cons (.func fn a b bA b' ah aW ai H9 Bz) (bN.nil _)
 |yield l L h=>exact bN.cons (.yield l L h) (bN.nil _)
 |iface t v v' ap=>exact bN.cons (.iface t v v' ap) (bN.nil _)
 |tuple a bA al ap=>exact bN.cons (.tuple a bA al ap) (bN.nil _)
theorem bj.eT{μ:bH}{v v':Value}(h:bj μ v v'):eT v'=eT v:=by
 cases h<;>first|rfl|assumption
end
end Go.Cre
