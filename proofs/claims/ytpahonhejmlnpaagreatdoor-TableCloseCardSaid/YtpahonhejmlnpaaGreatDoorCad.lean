/- A part of the proof of TableClose. -/
import Derived.Test.YtpahonhejmlnpaaGreatDoorCac
import Derived.Below
set_option linter.unusedVariables false
set_option linter.unusedSimpArgs false
namespace Go.Cre
noncomputable section
open Go.RowKit
theorem aQ.M9{α:Type}(n:Nat):(aQ.leaf:aQ α).get n=none:=rfl
theorem aQ.z3{α:Type}(v:Option α)(l r:aQ α):(aQ.node v l r).get 0=v:=rfl
theorem aQ.n6{α:Type}(v:Option α)(l r:aQ α)(m:Nat):(aQ.node v l r).get (m+1)=if m % 2=0 then l.get (m / 2) else r.get (m / 2):=by
 show Bool.rec (motive:=fun _=>Option α) (r.get (m / 2)) (l.get (m / 2)) (Nat.beq (m % 2) 0)=_;by_cases h:m % 2=0
 ·rw[bg h];simp[h]
 ·rw[a3 h];have:Nat.beq (m % 2) 0=false:=by
   cases ah:Nat.beq (m % 2) 0
   ·rfl
   ·exact absurd (dX ah) h
  rw[this]
theorem aQ.acg{α:Type}(a:α):aQ.put a .leaf 0=some (.node (some a) .leaf .leaf):=rfl
theorem aQ.acf{α:Type}(a:α)(m:Nat):aQ.put a .leaf (m+1)=none:=rfl
theorem aQ.acj{α:Type}(a:α)(v:Option α)(l r:aQ α):aQ.put a (.node v l r) 0=some (.node (some a) l r):=rfl
theorem aQ.Ex{α:Type}(a:α)(v:Option α)(l r:aQ α)(m:Nat):
 aQ.put a (.node v l r) (m+1)=if m % 2=0 then aQ.left v r (aQ.put a l (m / 2)) else aQ.right v l (aQ.put a r (m / 2)):=by
 show Bool.rec (motive:=fun _=>Option (aQ α)) (aQ.right v l (aQ.put a r (m / 2))) (aQ.left v r (aQ.put a l (m / 2))) (Nat.beq (m % 2) 0)=_;by_cases h:m % 2=0
 ·rw[bg h];simp[h]
 ·rw[a3 h];have:Nat.beq (m % 2) 0=false:=by
   cases ah:Nat.beq (m % 2) 0
   ·rfl
   ·exact absurd (dX ah) h
  rw[this]
theorem aQ.get_put{α:Type}{a:α}{t jG:aQ α}{n:Nat}(h:aQ.put a t n=some jG)(m:Nat):jG.get m=if m=n then some a else t.get m:=by
 induction t generalizing jG n m with
 |leaf=>
  cases n with
  |zero=>
   rw[aQ.acg] at h;injection h with h;subst h
   cases m with
   |zero=>simp[aQ.z3]
   |succ m=>rw[aQ.n6];simp[aQ.M9]
  |succ n=>rw[aQ.acf] at h;cases h
 |node v l r sZ s0=>
  cases n with
  |zero=>
   rw[aQ.acj] at h;injection h with h;subst h
   cases m with
   |zero=>simp[aQ.z3]
   |succ m=>rw[aQ.n6,aQ.n6];simp
  |succ n=>
   rw[aQ.Ex] at h;by_cases aw:n % 2=0
   ·rw[bg aw] at h;cases aA:aQ.put a l (n / 2) with
    |none=>rw[aA] at h;cases h
    |some l'=>
     rw[aA] at h;injection h with h;subst h
     cases m with
     |zero=>simp[aQ.z3]
     |succ m=>
      rw[aQ.n6,aQ.n6,sZ aA];by_cases hm:m % 2=0
      ·rw[bg hm,bg hm];have:(m / 2=n / 2)↔(m+1=n+1):=by omega
       simp[this]
      ·rw[a3 hm,a3 hm];have:¬(m+1=n+1):=by omega
       rw[a3 this]
   ·rw[a3 aw] at h;cases al:aQ.put a r (n / 2) with
    |none=>rw[al] at h;cases h
    |some cg=>
     rw[al] at h;injection h with h;subst h
     cases m with
     |zero=>simp[aQ.z3]
     |succ m=>
      rw[aQ.n6,aQ.n6,s0 al];by_cases hm:m % 2=0
      ·rw[bg hm,bg hm];have:¬(m+1=n+1):=by omega
       rw[a3 this]
      ·rw[a3 hm,a3 hm];have:(m / 2=n / 2)↔(m+1=n+1):=by omega
       simp[this]
theorem aQ.GQ{α:Type}{a:α}{t jG:aQ α}{d n:Nat}(h:aQ.set d t n a=some jG)(m:Nat):jG.get m=if m=n then some a else t.get m:=aQ.get_put h m
theorem jU{α:Type}(l:List α)(n:Nat):nth l n=l[n]?:=by
 induction l generalizing n with
 |nil=>rfl
 |cons a l aP=>cases n with
  |zero=>rfl
  |succ n=>exact aP n
theorem tL{α:Type}(n:Nat)(l:List α):np n l=l.drop n:=by
 induction l generalizing n with
 |nil=>simp[np]
 |cons a l aP=>cases n with
  |zero=>rfl
  |succ n=>exact aP n
theorem yP{α:Type}{n:Nat}{l r:List α}(h:takeN n l=some r):r=l.take n/\r.length=n/\n<=l.length:=by
 induction n generalizing l r with
 |zero=>simp[takeN] at h;subst h;simp
 |succ n aP=>
  cases l with
  |nil=>simp[takeN] at h
  |cons a l=>
   simp only[takeN] at h;cases aM:takeN n l with
   |none=>rw[aM] at h;cases h
   |some cg=>
    rw[aM] at h;injection h with h;subst h
    obtain⟨aC,aZ,cJ⟩:=aP aM;refine⟨by rw[aC,List.take_succ_cons],by simp[aZ],by simp;omega⟩
theorem JU{α:Type}{n:Nat}{l vs r:List α}(h:fO n l vs=some r):
 r.length=l.length/\n+vs.length<=l.length/\∀i,r[i]?=if n<=i/\i<n+vs.length then vs[i -n]? else l[i]?:=by
 induction n generalizing l r with
 |zero=>
  induction vs generalizing l r with
  |nil=>simp[fO] at h;subst h;exact⟨rfl,by simp,fun i=>by simp⟩
  |cons v vs aP=>
   cases l with
   |nil=>simp[fO] at h
   |cons a l=>
    simp only[fO] at h;cases af:fO 0 l vs with
    |none=>rw[af] at h;cases h
    |some cg=>
     rw[af] at h;injection h with h;subst h
     obtain⟨aC,aZ,cJ⟩:=aP af;refine⟨by simp[aC],by simp at*;omega,fun i=>?_⟩;cases i with
     |zero=>simp
     |succ i=>
      have:=cJ i;simp only[K6,this];simp
 |succ n aP=>
  cases l with
  |nil=>simp[fO] at h
  |cons a l=>
   simp only[fO] at h;cases af:fO n l vs with
   |none=>rw[af] at h;cases h
   |some cg=>
    rw[af] at h;injection h with h;subst h
    obtain⟨aC,aZ,cJ⟩:=aP af;refine⟨by simp[aC],by simp;omega,fun i=>?_⟩;cases i with
    |zero=>simp
    |succ i=>
     have:=cJ i;simp only[K6,this];have aL:(n+1<=i+1/\i+1<n+1+vs.length)↔(n<=i/\i<n+vs.length):=by omega
     simp only[aL];split
     ·rw[show i+1 -(n+1)=i -n from by omega]
     ·rfl
structure Loc where
 r:Nat
 N:Nat
 sz:Nat
abbrev bz:=Nat->Option Loc
def isAtom:Value->Bool
 |.bool _|.int _ _|.float _ _|.string _|.nilFunc|.nilIface|.pointer none|.slice none _ _|.map none=>true
 |_=>false
inductive bc (μ:bz):Value->Value->Prop
 |atom (v:Value):isAtom v=true->bc μ v v
 |ptr (id off:Nat) (L:Loc):μ id=some L->bc μ (.pointer (some ⟨id,off,none⟩)) (.pointer (some ⟨L.r,off,none⟩))
 |lq (id off len cap:Nat) (L:Loc):μ id=some L->cap<cu->bc μ (.slice (some ⟨id,off,none⟩) len cap) (.slice (some ⟨L.r,off,none⟩) len cap)
 |m6 (id off len cap:Nat) (L:Loc):μ id=some L->len<=cap->off+cap*L.sz<=L.N->bc μ (.slice (some ⟨id,off,none⟩) len cu) (.slice (some ⟨L.r,off,none⟩) len cap)
 |r1 (id off e0:Nat) (L:Loc):μ id=some L->bc μ (.slice (some ⟨id,off,none⟩) 0 cu) (.slice (some ⟨L.r,e0,none⟩) 0 0)
 |ti (a:Addr):bc μ (.slice (some ⟨0,0,some 0⟩) 0 0) (.slice (some a) 0 0)
 |map (id:Nat) (L:Loc):μ id=some L->bc μ (.map (some id)) (.map (some L.r))
 |to (v:Value):ev v=true->bc μ (.chan none) v
 |func (fn:Fn) (a b bE b':Array Value):s7 fn=true->a.size=bE.size->b.size=b'.size->
  (∀(i:Nat) v v',a[i]?=some v->bE[i]?=some v'->bc μ v v')->(∀(i:Nat) v v',b[i]?=some v->b'[i]?=some v'->bc μ v v')->bc μ (.func fn a b) (.func fn bE b')
 |yield (l:Nat) (L:Loc):μ l=some L->bc μ (.func (.yield l) #[] #[]) (.func (.yield L.r) #[] #[])
 |iface (t:TypeId) (v v':Value):bc μ v v'->bc μ (.iface t v) (.iface t v')
 |agg (a bE:Array Value):a.size=bE.size->(∀(i:Nat) v v',a[i]?=some v->bE[i]?=some v'->bc μ v v')->bc μ (.agg a) (.agg bE)
 |tuple (a bE:Array Value):a.size=bE.size->(∀(i:Nat) v v',a[i]?=some v->bE[i]?=some v'->bc μ v v')->bc μ (.tuple a) (.tuple bE)
def bF(μ:bz)(l l':List Value):Prop:=l.length=l'.length/\∀(i:Nat) v v',l[i]?=some v->l'[i]?=some v'->bc μ v v'
def Ext(μ bd:bz):Prop:=∀id L,μ id=some L->bd id=some L
theorem Ext.refl(μ:bz):Ext μ μ:=fun _ _ h=>h
theorem Ext.trans{a b c:bz}(h:Ext a b)(k:Ext b c):Ext a c:=fun id L x=>k id L (h id L x)
theorem bc.mono{μ bd:bz}{v v':Value}(h:bc μ v v')(e:Ext μ bd):bc bd v v':=by
 induction h with
 |atom v h=>exact .atom v h
 |ptr id off L h=>exact .ptr id off L (e _ _ h)
 |lq id off len cap L h aL=>exact .lq id off len cap L (e _ _ h) aL
 |m6 id off len cap L h aL aw=>exact .m6 id off len cap L (e _ _ h) aL aw
 |r1 id off e0 L h=>exact .r1 id off e0 L (e _ _ h)
 |ti a=>exact .ti a
 |map id L h=>exact .map id L (e _ _ h)
 |to v h=>exact .to v h
 |func fn a b bE b' aF aK ah _ _ Zo Zp=>exact .func fn a b bE b' aF aK ah Zo Zp
 |yield l L h=>exact .yield l L (e _ _ h)
 |iface t v v' _ aP=>exact .iface t v v' aP
 |agg a bE af _ aP=>exact .agg a bE af aP
 |tuple a bE af _ aP=>exact .tuple a bE af aP
theorem bF.mono{μ bd:bz}{l l':List Value}(h:bF μ l l')(e:Ext μ bd):bF bd l l':=⟨h.1,fun i v v' a b=>(h.2 i v v' a b).mono e⟩
theorem bF.nil(μ:bz):bF μ [] []:=⟨rfl,fun i v v' h=>by simp at h⟩
theorem bF.cons{μ:bz}{v v':Value}{l l':List Value}(h:bc μ v v')(t:bF μ l l'):bF μ (v::l) (v'::l'):=by
 refine⟨by simp[t.1],fun i a b aK ah=>?_⟩;cases i with
 |zero=>simp at aK ah;subst aK;subst ah;exact h
 |succ i=>simp at aK ah;exact t.2 i a b aK ah
theorem bF.hO{μ:bz}{v:Value}{l m:List Value}(h:bF μ (v::l) m):∃v' l',m=v'::l'/\bc μ v v'/\bF μ l l':=by
 cases m with
 |nil=>have:=h.1;simp at this
 |cons v' l'=>
  refine⟨v',l',rfl,h.2 0 v v' rfl rfl,by have:=h.1;simpa using this,fun i a b aK ah=>h.2 (i+1) a b (by simpa using aK) (by simpa using ah)⟩
theorem bF.ji{μ:bz}{m:List Value}(h:bF μ [] m):m=[]:=by
 have:=h.1;exact uZ.1 (by simpa using this.symm)
theorem bF.append{μ:bz}{l l' m m':List Value}(h:bF μ l l')(k:bF μ m m'):bF μ (l++m) (l'++m'):=by
 refine⟨by simp[h.1,k.1],fun i a b aK ah=>?_⟩;rw[K3] at aK ah;rw[<-h.1] at ah;split at aK
 ·rename_i ar;rw[bg ar] at ah;exact h.2 i a b aK ah
 ·rename_i ar;rw[a3 ar] at ah;exact k.2 _ a b aK ah
theorem bF.take{μ:bz}{l l':List Value}(h:bF μ l l')(n:Nat):bF μ (l.take n) (l'.take n):=by
 refine⟨by simp[h.1],fun i a b aK ah=>?_⟩;rw[lW] at aK ah;split at aK
 ·rename_i ar;rw[bg ar] at ah;exact h.2 i a b aK ah
 ·cases aK
theorem bF.drop{μ:bz}{l l':List Value}(h:bF μ l l')(n:Nat):bF μ (l.drop n) (l'.drop n):=by
 refine⟨by simp[h.1],fun i a b aK ah=>?_⟩;rw[uY] at aK ah;exact h.2 _ a b aK ah
theorem bF.get{μ:bz}{l l':List Value}(h:bF μ l l'){i:Nat}{v:Value}(ay:l[i]?=some v):∃v',l'[i]?=some v'/\bc μ v v':=by
 have ar:i<l.length:=by
  rcases hr i l.length with x|x
  ·exact x
  ·rw[qT x] at ay;cases ay
 have jP:i<l'.length:=h.1▸ar;exact⟨l'[i],eO jP,h.2 i v _ ay (eO jP)⟩
theorem bc.Cx{μ:bz}{l l':List Value}(h:bF μ l l'):bc μ (.agg l.toArray) (.agg l'.toArray):=
 .agg _ _ (by simp[h.1]) fun i v v' a b=>h.2 i v v' (by simpa using a) (by simpa using b)
theorem bc.J6{μ:bz}{l l':List Value}(h:bF μ l l'):bc μ (.tuple l.toArray) (.tuple l'.toArray):=
 .tuple _ _ (by simp[h.1]) fun i v v' a b=>h.2 i v v' (by simpa using a) (by simpa using b)
theorem bc.LO{μ:bz}{a:Array Value}{v:Value}(h:bc μ (.agg a) v):∃bE,v=.agg bE/\bF μ a.toList bE.toList:=by
 cases h with
 |atom _ h=>simp[isAtom] at h
 |agg _ bE af al=>exact⟨bE,rfl,by simpa using af,fun i v v' x y=>al i v v' (by simpa using x) (by simpa using y)⟩
theorem bc.ad7{μ:bz}{a:Array Value}{v:Value}(h:bc μ (.tuple a) v):∃bE,v=.tuple bE/\bF μ a.toList bE.toList:=by
 cases h with
 |atom _ h=>simp[isAtom] at h
 |tuple _ bE af al=>exact⟨bE,rfl,by simpa using af,fun i v v' x y=>al i v v' (by simpa using x) (by simpa using y)⟩
theorem bc.undef(μ:bz):bc μ undef undef:=.tuple _ _ rfl fun i v v' h=>by simp at h
theorem bc.aa4{μ:bz}:∀{n:Nat} {v:Value},hn n v=true->bc μ v v:=by
 intro n;induction n with
 |zero=>intro v h;simp[hn] at h
 |succ n aP=>
  intro v h;cases v with
  |bool b=>exact .atom _ rfl
  |int k n=>exact .atom _ rfl
  |float k b=>exact .atom _ rfl
  |complex k a b=>simp[hn] at h
  |string s=>exact .atom _ rfl
  |pointer a=>cases a with
   |none=>exact .atom _ rfl
   |some a=>simp[hn] at h
  |slice a l c=>cases a with
   |none=>exact .atom _ rfl
   |some a=>simp[hn] at h
  |map r=>cases r with
   |none=>exact .atom _ rfl
   |some a=>simp[hn] at h
  |chan r=>simp[hn] at h
  |func fn a b=>
   cases fn with
   |func f=>
    simp[hn] at h;obtain⟨rfl,rfl⟩:=h;exact .func _ _ _ _ _ rfl rfl rfl (fun i v v' h=>by simp at h) (fun i v v' h=>by simp at h)
   |_=>simp[hn] at h
  |nilFunc=>exact .atom _ rfl
  |iface t v=>simp only[hn] at h;exact .iface _ _ _ (aP h)
  |nilIface=>exact .atom _ rfl
  |agg cs=>
   simp only[hn,qS] at h;exact .agg _ _ rfl fun i v v' a b=>by
    rw[a] at b;injection b with b;subst b
    exact aP (h v (y7.2 (B7 a)))
  |tuple cs=>
   simp only[hn,qS] at h;exact .tuple _ _ rfl fun i v v' a b=>by
    rw[a] at b;injection b with b;subst b
    exact aP (h v (y7.2 (B7 a)))
theorem LX{a b:Array Value}(af:a.size=b.size)(h:∀(i:Nat) v v',a[i]?=some v->b[i]?=some v'->v'=v):b=a:=by
 apply Array.ext af.symm
 intro i aa ab;exact h i a[i] b[i] (wV ab) (wV aa)
theorem bc.Ev{μ:bz}:∀{n:Nat} {v v':Value},hn n v=true->bc μ v v'->v'=v:=by
 intro n;induction n with
 |zero=>intro v v' h;simp[hn] at h
 |succ n aP=>
  intro v v' h al;cases al with
  |atom _ _=>rfl
  |ptr=>simp[hn] at h
  |lq=>simp[hn] at h
  |m6=>simp[hn] at h
  |r1=>simp[hn] at h
  |ti=>simp[hn] at h
  |map=>simp[hn] at h
  |to=>simp[hn] at h
  |func fn a b bE b' aF aK ah DH DI=>
   cases fn with
   |func f=>
    simp[hn] at h;obtain⟨rfl,rfl⟩:=h;have aC:bE=#[]:=Sa (by simpa using aK.symm);have aZ:b'=#[]:=Sa (by simpa using ah.symm);rw[aC,aZ]
   |_=>simp[hn] at h
  |yield=>simp[hn] at h
  |iface t v v' ay=>simp only[hn] at h;rw[aP h ay]
  |agg a bE af ay=>
   simp only[hn,qS] at h;rw[LX af fun i v v' x y=>aP (h v (y7.2 (B7 x))) (ay i v v' x y)]
  |tuple a bE af ay=>
   simp only[hn,qS] at h;rw[LX af fun i v v' x y=>aP (h v (y7.2 (B7 x))) (ay i v v' x y)]
theorem bc.cells{μ:bz}{v v':Value}(h:bc μ v v'):bF μ v.cells.toList v'.cells.toList:=by
 cases h with
 |agg a bE af ay=>exact⟨by simpa[Value.cells] using af,fun i v v' x y=>ay i v v' (by simpa[Value.cells] using x) (by simpa[Value.cells] using y)⟩
 |atom v h=>cases v<;>first|(simp[isAtom] at h;done)|exact bF.cons (.atom _ h) (bF.nil _)
 |ptr id off L h=>exact bF.cons (.ptr id off L h) (bF.nil _)
 |lq id off len cap L h aL=>exact bF.cons (.lq id off len cap L h aL) (bF.nil _)
 |m6 id off len cap L h aL aw=>exact bF.cons (.m6 id off len cap L h aL aw) (bF.nil _)
 |r1 id off e0 L h=>exact bF.cons (.r1 id off e0 L h) (bF.nil _)
 |ti a=>exact bF.cons (.ti a) (bF.nil _)
 |map id L h=>exact bF.cons (.map id L h) (bF.nil _)
 |to _ h=>cases v'<;>first|(simp[ev] at h;done)|exact bF.cons (.to _ h) (bF.nil _)
 |func fn a b bE b' aF aK ah DH DI=>exact bF.cons (.func fn a b bE b' aF aK ah DH DI) (bF.nil _)
 |yield l L h=>exact bF.cons (.yield l L h) (bF.nil _)
 |iface t v v' ay=>exact bF.cons (.iface t v v' ay) (bF.nil _)
 |tuple a bE af ay=>exact bF.cons (.tuple a bE af ay) (bF.nil _)
theorem bc.ev{μ:bz}{v v':Value}(h:bc μ v v'):ev v'=ev v:=by
 cases h<;>first|rfl|assumption
end
end Go.Cre
