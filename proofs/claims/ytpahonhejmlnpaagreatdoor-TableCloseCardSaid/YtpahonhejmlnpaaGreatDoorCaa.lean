/- A part of the proof of TableClose. -/
import GoSem.Step
import Derived.Calls
import Derived.Defers
import Derived.Recover
set_option linter.unusedVariables false
set_option linter.unusedSimpArgs false
set_option linter.defProp false
namespace Go
noncomputable section
def R9:=@Array.all_eq_true_iff_forall_mem
def Sa:=@Array.eq_empty_of_size_eq_zero
def oG:=@Array.ext'
def y6:=@Array.ext_getElem?
def KD:=@Array.getElem?_append
def Sb:=@Array.getElem?_append_left
def wV:=@Array.getElem?_eq_getElem
def pC:=@Array.getElem?_eq_none
def E8:=@Array.getElem?_eq_some_iff
def Sc:=@Array.getElem?_modify
def uS:=@Array.getElem?_setIfInBounds
def KE:=@Array.getElem?_setIfInBounds_ne
def Sd:=@Array.mapM_eq_mapM_toList
def B7:=@Array.mem_of_getElem?
def y7:=@Array.mem_toList_iff
def KF:=@Array.size_push
def B8:=@Array.size_setIfInBounds
def Se:=@Array.toArray_toList
def fp:=@Bool.and_eq_true
def tq:=@Bool.and_self
def B9:=@Bool.and_true
def nM:=@Bool.eq_iff_iff
def B':=@Bool.false_and
def y8:=@Bool.false_eq_true
def pD:=@Bool.not_eq_true'
def KG:=@Bool.not_false
def lT:=@Bool.not_true
def tr:=@Bool.or_eq_true
def KH:=@Bool.true_and
def Sg:=@Classical.byContradiction
def Sh:=@Classical.choose_spec
def Cd:=@Int.add_mul
def Fa:=@Int.eq_of_mul_eq_mul_right
def Ce:=@Int.le_of_lt
def r7:=@Int.lt_or_le
def j2:=@Int.mul_assoc
def lv:=@Int.mul_comm
def mn:=@Int.mul_left_comm
def KL:=@Int.mul_ne_zero
def wZ:=@Int.mul_neg_of_neg_of_pos
def KM:=@Int.mul_neg_of_pos_of_neg
def w1:=@Int.mul_nonneg
def Fb:=@Int.mul_one
def Sm:=@Int.mul_pos_of_neg_of_neg
def KN:=@Int.mul_zero
def mo:=@Int.natAbs_eq_zero
def jo:=@Int.natAbs_mul
def g8:=@Int.natAbs_natCast
def w2:=@Int.natAbs_ne_zero
def y':=@Int.natAbs_neg
def KO:=@Int.natAbs_zero
def Fc:=@Int.natCast_add
def Sn:=@Int.natCast_dvd_natCast
def gZ:=@Int.natCast_mul
def Cf:=@Int.natCast_nonneg
def za:=@Int.neg_mul
def Fe:=@Int.ofNat_dvd_left
def oJ:=@Int.ofNat_tdiv
def uV:=@Int.ofNat_tmod
def KP:=@Int.sub_eq_add_neg
def jq:=@Int.toNat_natCast
def Ff:=@Int.zero_add
def uW:=@Int.zero_mul
def KZ:=@List.Perm.append_left
def Fh:=@List.Perm.append_right
def Sv:=@List.Sublist.append_left
def cd:=@List.Sublist.refl
def zd:=@List.all_cons
def qS:=@List.all_eq_true
def r9:=@List.append_assoc
def jr:=@List.append_nil
def Ck:=@List.cons_append
def Sw:=@List.drop_append_of_le_length
def ze:=@List.drop_drop
def K0:=@List.drop_eq_getElem_cons
def w3:=@List.drop_eq_nil_of_le
def K1:=@List.drop_length
def Fi:=@List.drop_take
def kJ:=@List.drop_zero
def pH:=@List.eq_nil_of_length_eq_zero
def Sx:=@List.eq_of_mem_replicate
def K2:=@List.foldl_cons
def js:=@List.getD_eq_getElem?_getD
def K3:=@List.getElem?_append
def K4:=@List.getElem?_append_left
def K5:=@List.getElem?_append_right
def K6:=@List.getElem?_cons_succ
def uY:=@List.getElem?_drop
def eO:=@List.getElem?_eq_getElem
def qT:=@List.getElem?_eq_none
def hq:=@List.getElem?_eq_some_iff
def jt:=@List.getElem?_map
def K7:=@List.getElem?_of_mem
def K8:=@List.getElem?_range
def Cl:=@List.getElem?_set
def lW:=@List.getElem?_take
def Fj:=@List.getElem?_take_of_lt
def Sy:=@List.getElem?_toArray
def Sz:=@List.getLast?_cons_cons
def Cm:=@List.getLast?_eq_getElem?
def g1:=@List.length_append
def lx:=@List.length_cons
def r':=@List.length_drop
def SA:=@List.length_eq_one_iff
def uZ:=@List.length_eq_zero_iff
def gx:=@List.length_map
def zf:=@List.length_nil
def Fk:=@List.length_replicate
def nP:=@List.length_set
def zg:=@List.length_singleton
def gp:=@List.length_take
def K9:=@List.mapM_cons
def K':=@List.map_append
def u0:=@List.map_cons
def Fl:=@List.map_set
def zh:=@List.map_take
def nQ:=@List.mem_append
def tt:=@List.mem_append_left
def d':=@List.mem_append_right
def gj:=@List.mem_cons
def SB:=@List.mem_cons_of_mem
def w4:=@List.mem_iff_getElem?
def qU:=@List.mem_map
def ju:=@List.mem_map_of_mem
def k8:=@List.mem_of_getElem?
def Fm:=@List.mem_of_mem_take
def La:=@List.mem_range
def Fo:=@List.mem_singleton
def sb:=@List.nil_append
def bZ:=@List.nil_sublist
def Cn:=@List.nodup_append
def pI:=@List.nodup_cons
def Lb:=@List.not_mem_nil
def SC:=@List.pairwise_singleton
def ng:=@List.perm_append_comm
def tu:=@List.perm_append_singleton
def SD:=@List.range_eq_range'
def SE:=@List.set_append_right
def SF:=@List.set_eq_take_append_cons_drop
def Lc:=@List.size_toArray
def nR:=@List.sublist_append_left
def w5:=@List.sublist_append_right
def mr:=@List.sum_cons
def tv:=@List.take_add_one
def SG:=@List.take_append_drop
def zi:=@List.take_length
def ib:=@List.take_of_length_le
def Ld:=@List.take_sublist
def tw:=@List.take_take
def nS:=@List.take_zero
def SI:=@Nat.Coprime.coprime_dvd_left
def Fp:=@Nat.Coprime.coprime_dvd_right
def SJ:=@Nat.Coprime.dvd_of_dvd_mul_left
def SK:=@Nat.Coprime.pow_right
def Le:=@Nat.add_assoc
def Lf:=@Nat.add_le_add
def iC:=@Nat.add_mul
def SL:=@Nat.add_mul_div_left
def Fq:=@Nat.add_sub_cancel
def nT:=@Nat.add_zero
def gH:=@Nat.beq_refl
def j3:=@Nat.ble_eq_true_of_le
def Co:=@Nat.coprime_div_gcd_div_gcd
def Lg:=@Nat.coprime_one_right
def Fs:=@Nat.div_add_mod
def qV:=@Nat.div_eq_of_lt
def sc:=@Nat.div_le_self
def Ft:=@Nat.div_lt_iff_lt_mul
def Lh:=@Nat.dvd_iff_mod_eq_zero
def SM:=@Nat.dvd_of_mod_eq_zero
def Fu:=@Nat.dvd_trans
def dX:=@Nat.eq_of_beq_eq_true
def ly:=@Nat.eq_zero_or_pos
def oL:=@Nat.gcd_comm
def oM:=@Nat.gcd_dvd_left
def qW:=@Nat.gcd_dvd_right
def Li:=@Nat.gcd_one_left
def Lj:=@Nat.gcd_one_right
def SN:=@Nat.gcd_pos_of_pos_left
def sd:=@Nat.gcd_pos_of_pos_right
def w7:=@Nat.gcd_rec
def SO:=@Nat.gcd_sub_self_right
def u2:=@Nat.gcd_zero_right
def Lk:=@Nat.le_div_iff_mul_le
def SP:=@Nat.le_mul_of_pos_left
def gy:=@Nat.le_of_ble_eq_true
def zj:=@Nat.le_of_lt
def c5:=@Nat.le_refl
def eh:=@Nat.le_trans
def u3:=@Nat.lt_irrefl
def hC:=@Nat.lt_of_le_of_lt
def jL:=@Nat.lt_of_lt_of_le
def Ll:=@Nat.lt_of_mul_lt_mul_right
def hr:=@Nat.lt_or_ge
def g9:=@Nat.min_eq_left
def Fv:=@Nat.mod_add_div
def se:=@Nat.mod_eq_of_lt
def SQ:=@Nat.mod_eq_zero_of_dvd
def oN:=@Nat.mod_lt
def Lm:=@Nat.mod_two_eq_zero_or_one
def lX:=@Nat.mul_add
def nU:=@Nat.mul_assoc
def j4:=@Nat.mul_comm
def qX:=@Nat.mul_div_cancel
def Cp:=@Nat.mul_div_cancel_left
def pJ:=@Nat.mul_le_mul
def Ln:=@Nat.mul_le_mul_left
def lY:=@Nat.mul_le_mul_right
def Lo:=@Nat.mul_left_comm
def SR:=@Nat.mul_lt_mul_of_lt_of_le
def Lp:=@Nat.mul_lt_mul_of_pos_right
def SS:=@Nat.mul_lt_mul_right
def iZ:=@Nat.mul_one
def hV:=@Nat.mul_pos
def Cq:=@Nat.mul_zero
def hD:=@Nat.ne_of_gt
def zk:=@Nat.ne_of_lt
def w8:=@Nat.one_mul
def Lq:=@Nat.pos_of_ne_zero
def Lr:=@Nat.pow_add
def zl:=@Nat.pow_le_pow_right
def Fw:=@Nat.pow_one
def zm:=@Nat.pow_pos
def mu:=@Nat.pow_succ
def sf:=@Nat.sub_self
def qY:=@Nat.succ_le_iff
def zn:=@Nat.succ_mul
def nh:=@Nat.zero_add
def fB:=@Nat.zero_le
def nV:=@Nat.zero_mul
def SV:=@Option.bind_eq_some_iff
def Ls:=@Option.bind_some
def Lt:=@Option.getD_some
def sg:=@Option.map_eq_some_iff
def Cr:=@Option.map_some
def Lu:=@Option.some.inj
def b9:=@Option.some.injEq
def c':=@Prod.mk.injEq
def FY:=@beq_false
def da:=@cond_false
def b1:=@cond_true
def aj:=@congrArg
def oW:=@decide_eq_decide
def e8:=@decide_eq_false
def g2:=@decide_eq_true
def CO:=@decide_eq_true_eq
def yi:=@if_false
def a3:=@if_neg
def bg:=@if_pos
def DW:=@if_true
def yz:=@of_decide_eq_true
end
end Go
namespace Go.Cre
noncomputable section
inductive aQ (α:Type) where
 |leaf
 |node (v:Option α) (l r:aQ α)
def aQ.get {α:Type}(t:aQ α):Nat->Option α:=
 aQ.rec (motive:=fun _=>Nat->Option α) (fun _=>none)
  (fun v _ _ l r n=>Nat.rec (motive:=fun _=>Option α) v (fun m _=>Bool.rec (motive:=fun _=>Option α) (r (Nat.div m 2)) (l (Nat.div m 2)) (Nat.beq (Nat.mod m 2) 0)) n) t
def aQ.left {α:Type}(v:Option α)(r:aQ α)(l:Option (aQ α)):Option (aQ α):=Option.rec (motive:=fun _=>Option (aQ α)) none (fun l=>some (.node v l r)) l
def aQ.right {α:Type}(v:Option α)(l:aQ α)(r:Option (aQ α)):Option (aQ α):=Option.rec (motive:=fun _=>Option (aQ α)) none (fun r=>some (.node v l r)) r
def aQ.put {α:Type}(a:α)(t:aQ α):Nat->Option (aQ α):=
 aQ.rec (motive:=fun _=>Nat->Option (aQ α))
  (fun n=>Nat.rec (motive:=fun _=>Option (aQ α)) (some (.node (some a) .leaf .leaf)) (fun _ _=>none) n)
  (fun v l r pl wy n=>Nat.rec (motive:=fun _=>Option (aQ α)) (some (.node (some a) l r))
   (fun m _=>Bool.rec (motive:=fun _=>Option (aQ α)) (aQ.right v l (wy (Nat.div m 2))) (aQ.left v r (pl (Nat.div m 2))) (Nat.beq (Nat.mod m 2) 0)) n) t
def aQ.set {α:Type}(_:Nat)(t:aQ α)(n:Nat)(a:α):Option (aQ α):=aQ.put a t n
def aQ.full {α:Type}(a:α)(d:Nat):aQ α:=Nat.rec (motive:=fun _=>aQ α) .leaf (fun _ t=>.node (some a) t t) d
def yQ:Nat:=64
structure mm where
 state:LoopState
 pending:Option Code
 T:aQ Value
 n:Nat
 params:List Tmp
 assign:Code
 body:Code
 ft:Nat
inductive eF where
 |row (cells:List Value) (elem:TypeId) (opn:Bool) (bl:Nat) (dS:Nat) (sh:Bool)
 |map (es:List MapEntry) (clock:Nat)
 |loop (l:mm)
 |ft (ds:Option (List Deferred))
 |dead
structure ai where
 mem:aQ eF
 ax:Nat
 bl:aQ (List Nat)
 b7:Nat
 bp:Nat
structure aT where
 T:aQ Value
 n:Nat
 ds:List Deferred
 bB:Bool
 bf:FrameMode
 b8:Option Nat
def cu:Nat:=1208925819614629174706176
def pR:Nat:=1208925819614629174706176
def ai.Rw (ax:Nat)(bl:aQ (List Nat))(b7 bp:Nat):Option (aQ eF)->Option ai
 |some m=>some ⟨m,ax,bl,b7,bp⟩
 |none=>none
def ai.upd (H:ai)(id:Nat)(b:eF):Option ai:=
 match H with
 |⟨mem,ax,bl,b7,bp⟩=>ai.Rw ax bl b7 bp (aQ.put b mem id)
def ai.PE (ax:Nat)(bl:aQ (List Nat))(b7 bp:Nat)(m:aQ eF):Nat->Option (Nat×ai)
 |0=>none
 |n+1=>some (ax,⟨m,n+1,bl,b7,bp⟩)
def ai.I2 (ax:Nat)(bl:aQ (List Nat))(b7 bp:Nat):Option (aQ eF)->Option (Nat×ai)
 |some m=>ai.PE ax bl b7 bp m (Nat.succ ax)
 |none=>none
def ai.new (H:ai)(b:eF):Option (Nat×ai):=
 match H with
 |⟨mem,ax,bl,b7,bp⟩=>ai.I2 ax bl b7 bp (aQ.put b mem ax)
def ai.QU (mem:aQ eF)(ax b7 bp:Nat):Option (aQ (List Nat))->Option ai
 |some f=>some ⟨mem,ax,f,b7,bp⟩
 |none=>none
def ai.oD (H:ai)(f:Nat)(l:List Nat):Option ai:=
 match H with
 |⟨mem,ax,bl,b7,bp⟩=>ai.QU mem ax b7 bp (aQ.put l bl f)
def ai.PF (mem:aQ eF)(ax:Nat)(bl:aQ (List Nat))(b7 bp:Nat):Nat->Option (Nat×ai)
 |0=>none
 |n+1=>some (b7,⟨mem,ax,bl,n+1,bp⟩)
def ai.I3 (mem:aQ eF)(ax b7 bp:Nat):Option (aQ (List Nat))->Option (Nat×ai)
 |some f=>ai.PF mem ax f b7 bp (Nat.succ b7)
 |none=>none
def ai.rS (H:ai):Option (Nat×ai):=
 match H with
 |⟨mem,ax,bl,b7,bp⟩=>ai.I3 mem ax b7 bp (aQ.put [ax] bl b7)
def ai.lM (H:ai)(cells:List Value)(elem:TypeId)(sh:Bool):Option (Nat×ai):=
 match H.rS with
 |some (f,H)=>H.new (.row cells elem true f 0 sh)
 |none=>none
def hn:Nat->Value->Bool
 |0,_=>false
 |n+1,v=>
  match v with
  |.bool _|.int _ _|.float _ _|.string _|.nilFunc|.nilIface=>true
  |.pointer none|.slice none _ _|.map none=>true
  |.iface _ v=>hn n v
  |.agg cs=>cs.toList.all (hn n)
  |.tuple cs=>cs.toList.all (hn n)
  |.func (.func _) a b=>a.isEmpty&&b.isEmpty
  |_=>false
def plain (v:Value):Bool:=hn 8 v
def nth {α:Type}(l:List α):Nat->Option α:=
 List.rec (motive:=fun _=>Nat->Option α) (fun _=>none) (fun a _ r n=>Nat.rec (motive:=fun _=>Option α) (some a) (fun m _=>r m) n) l
def np {α:Type}(n:Nat)(l:List α):List α:=
 List.rec (motive:=fun _=>Nat->List α) (fun _=>[]) (fun a t r n=>Nat.rec (motive:=fun _=>List α) (a::t) (fun m _=>r m) n) l n
def takeN {α:Type}:Nat->List α->Option (List α)
 |0,_=>some []
 |_+1,[]=>none
 |n+1,a::l=>match takeN n l with|some r=>some (a::r)|none=>none
def fO {α:Type}:Nat->List α->List α->Option (List α)
 |0,l,[]=>some l
 |0,[],_::_=>none
 |0,_::l,v::vs=>match fO 0 l vs with|some r=>some (v::r)|none=>none
 |_+1,[],_=>none
 |n+1,a::l,vs=>match fO n l vs with|some r=>some (a::r)|none=>none
def ev:Value->Bool
 |.agg _=>false
 |.tuple _=>false
 |_=>true
def eJ {α:Type}(P:Program):Sem α->Option α
 |.pure a=>some a
 |.program k=>eJ P (k P)
 |.mark _ k=>eJ P k
 |_=>none
def yD (H:ai)(g:Nat):Option Value:=
 bif Nat.blt g H.bp then(match H.mem.get g with|some (.row _ _ _ _ _ _)=>some (.pointer (some ⟨g,0,none⟩))|_=>none) else none
def Jo (v:Value):Option Value:=bif plain v then some v else none
def aW (T:aQ Value)(H:ai)(x:Operand):Option Value:=
 Operand.rec (motive:=fun _=>Option Value) (fun t=>T.get t) Jo (yD H) (fun f=>some (.func (.func f) #[] #[])) x
def eQ (T:aQ Value)(H:ai):List Operand->Option (List Value)
 |[]=>some []
 |x::l=>match aW T H x with
  |some v=>match eQ T H l with|some vs=>some (v::vs)|none=>none
  |none=>none
def oR (P:Program)(t:TypeId):Option (Option Nat):=
 match P.info? t with
 |none=>none
 |some i=>match P.underlying t with
  |some (.struct _)=>some (some i.size)
  |some (.array _ _)=>some (some i.size)
  |some _=>some none
  |none=>none
def ea (P:Program)(t:TypeId):Option Nat:=match P.info? t with|some i=>some i.size|none=>none
def fG (P:Program)(t:TypeId):Option Value:=match P.info? t with|some i=>i.zero|none=>none
def q6 (P:Program)(t:TypeId):Option Nat:=match P.info? t with|some i=>some i.bytes|none=>none
def kv (P:Program)(t:TypeId)(cs:List Value)(off:Nat):Option Value:=
 match oR P t with
 |some (some n)=>match takeN n (np off cs) with|some l=>some (.agg l.toArray)|none=>none
 |some none=>nth cs off
 |none=>none
def xn (P:Program)(H:ai)(t:TypeId)(a:Addr):Option Value:=
 match a.spot with
 |some _=>none
 |none=>match H.mem.get a.block with
  |some (.row cells _ _ _ _ _)=>kv P t cells a.off
  |_=>none
def vw (P:Program)(H:ai)(t:TypeId):Value->Option Value
 |.pointer (some a)=>xn P H t a
 |_=>none
def pi (H:ai)(mU:Nat):List Nat->Option ai
 |[]=>some H
 |x::l=>bif Nat.beq x mU then pi H mU l else
  match H.upd x .dead with|some H=>pi H mU l|none=>none
def uq (H:ai)(id bl:Nat):Option ai:=
 match H.bl.get bl with
 |none=>none
 |some l=>
  match pi H id l with
  |none=>none
  |some H=>H.oD bl [id]
def o0 (H:ai)(id off:Nat)(vs:List Value):Option ai:=
 match vs with
 |[]=>some H
 |_=>bif Nat.blt id H.bp then none else
  match H.mem.get id with
  |some (.row cells elem opn bl dS sh)=>
   bif Nat.ble dS off&&vs.all ev then
    match fO off cells vs with
    |none=>none
    |some cells=>
     match H.upd id (.row cells elem opn bl dS sh) with
     |none=>none
     |some H=>bif opn then uq H id bl else some H
   else none
  |_=>none
def vx (P:Program)(H:ai)(t:TypeId)(p v:Value):Option ai:=
 match p with
 |.pointer (some a)=>match a.spot with
  |some _=>none
  |none=>match ea P t with
   |some n=>bif Nat.beq v.cells.toList.length n then o0 H a.block a.off v.cells.toList else none
   |none=>none
 |_=>none
def qn (H:ai)(elem:TypeId)(cells:List Value):Option (Nat×ai):=H.new (.row cells elem false 0 0 false)
def sv (H:ai)(elem:TypeId)(v:Value):Option (Value×ai):=
 bif v.cells.toList.all ev then
  match qn H elem v.cells.toList with
  |some (id,H)=>some (.pointer (some ⟨id,0,none⟩),H)
  |none=>none
 else none
def zV (P:Program)(s:TypeId)(p:Value)(field:Nat):Option Value:=
 match p with
 |.pointer (some a)=>match a.spot with
  |some _=>none
  |none=>match P.underlying s with
   |some (.struct fields)=>match fields[field]? with
    |some f=>match ea P f.type with
     |some (_+1)=>some (.pointer (some ⟨a.block,a.off+f.offset,none⟩))
     |_=>none
    |none=>none
   |_=>none
 |_=>none
def qf (i:Int)(len:Nat):Option Nat:=
 match i with
 |.ofNat n=>bif Nat.blt n len then some n else none
 |.negSucc _=>none
def nC (i:Int)(len:Nat):Option Nat:=
 match i with
 |.ofNat n=>bif Nat.ble n len then some n else none
 |.negSucc _=>none
def sx (P:Program)(t:TypeId)(x bj:Value):Option Value:=
 match bj with
 |.int _ i=>
  match P.underlying t,x with
  |some (.array len elem),.pointer (some a)=>match a.spot with
   |some _=>none
   |none=>match qf i len,ea P elem with
    |some n,some sz=>some (.pointer (some ⟨a.block,a.off+n*sz,none⟩))
    |_,_=>none
  |some (.slice elem),.slice (some a) len _=>match a.spot with
   |some _=>none
   |none=>match qf i len,ea P elem with
    |some n,some sz=>some (.pointer (some ⟨a.block,a.off+n*sz,none⟩))
    |_,_=>none
  |_,_=>none
 |_=>none
def jy (d:Nat)(top:Nat):Option Value->Option Nat
 |none=>some d
 |some (.int _ i)=>nC i top
 |some _=>none
def jN (P:Program)(H:ai)(t:TypeId)(x:Value)(gE ar:Option Value):Option Value:=
 match P.underlying t,x with
 |some (.array n elem),.pointer (some a)=>match a.spot with
  |some _=>none
  |none=>match ea P elem with
   |none=>none
   |some sz=>bif !Nat.blt n cu then none else match jy n n ar with
    |none=>none
    |some h=>match jy 0 h gE with
     |none=>none
     |some l=>some (.slice (some (bif Nat.beq n l then a else⟨a.block,a.off+l*sz,none⟩)) (Nat.sub h l) (Nat.sub n l))
 |some (.slice elem),.slice (some a) len cap=>match a.spot with
  |some _=>none
  |none=>match ea P elem with
   |none=>none
   |some sz=>
    bif Nat.beq cap cu then
     match H.mem.get a.block with
     |some (.row _ el _ _ _ _)=>bif !Nat.beq el elem then none else
      (match jy len len ar with
      |none=>none
      |some h=>match jy 0 h gE with
       |none=>none
       |some l=>some (.slice (some ⟨a.block,a.off+l*sz,none⟩) (Nat.sub h l) cu))
     |_=>none
    else
     match jy len cap ar with
     |none=>none
     |some h=>match jy 0 h gE with
      |none=>none
      |some l=>some (.slice (some (bif Nat.beq cap l then a else⟨a.block,a.off+l*sz,none⟩)) (Nat.sub h l) (Nat.sub cap l))
 |_,_=>none
def KA (v:Value)(n:Nat):List Value:=Nat.rec (motive:=fun _=>List Value) [] (fun _ aP=>v::aP) n
def afm (z:List Value)(n:Nat):List Value:=Nat.rec (motive:=fun _=>List Value) [] (fun _ aP=>z++aP) n
def eN (z:List Value)(n:Nat):List Value:=
 match z with
 |[]=>[]
 |[v]=>KA v n
 |a::b::z=>afm (a::b::z) n
def zW (P:Program)(H:ai)(t:TypeId)(l c:Value):Option (Value×ai):=
 match l,c,P.underlying t with
 |.int _ l,.int _ c,some (.slice elem)=>
  match fG P elem,q6 P elem,ea P elem with
  |some z,some gq,some sz=>
   match nC c 1000000,nC l 1000000 with
   |some c,some l=>
    bif Nat.ble l c&&Nat.ble gq 1000000&&Nat.beq z.cells.toList.length sz&&z.cells.toList.all ev&&plain z then
     match qn H elem (eN z.cells.toList c) with
     |some (id,H)=>some (.slice (some ⟨id,0,none⟩) l c,H)
     |none=>none
    else none
   |_,_=>none
  |_,_,_=>none
 |_,_,_=>none
def h1 (H:ai)(sz n:Nat):Value->Option (List Value)
 |.slice (some a) _ _=>match n with
  |0=>some []
  |_=>match a.spot with
   |some _=>none
   |none=>match H.mem.get a.block with
    |some (.row cells _ _ _ _ _)=>takeN (n*sz) (np a.off cells)
    |_=>none
 |.slice none _ _=>match n with|0=>some []|_=>none
 |.string s=>match takeN n s.data.toList with
  |some l=>some (l.map fun b=>.int .u8 b.toNat)
  |none=>none
 |_=>none
def ou:Value->Option Nat
 |.slice _ n _=>some n
 |.string s=>some s.data.toList.length
 |_=>none
def tK (H:ai)(id:Nat):List Nat->Option (List Nat×ai)
 |[]=>none
 |x::l=>bif Nat.beq x id then some (x::l,H) else
  match H.upd x .dead with|some H=>tK H id l|none=>none
def zL (H:ai)(l:List Nat)(same:Bool):Option (List Nat×ai):=
 bif same then some (l,H) else(match pi H H.ax l with|some H=>some ([],H)|none=>none)
def fresh (H:ai)(elem:TypeId)(cells:List Value)(len:Nat):Option (Value×ai):=
 match H.lM cells elem false with
 |some (id,H)=>some (.slice (some ⟨id,0,none⟩) len cu,H)
 |none=>none
def uw:Option Addr->Bool
 |some a=>(match a.spot with|none=>true|some _=>false)
 |none=>true
def nr (P:Program)(H:ai)(e1:TypeId)(s x:Value):Option (Value×ai):=
 match P.underlying e1,s with
 |some (.slice elem),.slice base cN gX=>
  match ea P elem,q6 P elem,fG P elem,ou x with
  |some sz,some gq,some z,some n=>
   bif !(Nat.ble (cN+n) 1000000&&Nat.ble gq 1000000&&Nat.beq z.cells.toList.length sz) then none else
   match h1 H sz n x with
   |none=>none
   |some new=>
    bif !(new.all ev&&Nat.beq new.length (n*sz)) then none else
    bif Nat.beq gX cu then
     match base with
     |some a=>match a.spot with
      |some _=>none
      |none=>match H.mem.get a.block with
       |some (.row cells el true bl dS sh)=>
        bif !(Nat.beq el elem&&!Nat.blt a.block H.bp&&Nat.ble dS (a.off+cN*sz)) then none else
        bif Nat.beq n 0 then some (s,H) else
        bif !(Nat.beq a.off 0) then none else
        match takeN (cN*sz) cells with
        |none=>none
        |some dk=>
         match H.bl.get bl with
         |none=>none
         |some l=>
          match tK H a.block l with
          |none=>none
          |some (l,H)=>
           match zL H l (Nat.beq cells.length (cN*sz)) with
           |none=>none
           |some (l,H)=>
            match H.oD bl (H.ax::l) with
            |none=>none
            |some H=>match H.new (.row (dk++new) elem true bl dS sh) with
             |some (id,H)=>some (.slice (some ⟨id,0,none⟩) (cN+n) cu,H)
             |none=>none
       |_=>none
     |none=>none
    else
     bif Nat.ble (cN+n) gX then
      match base with
      |none=>bif Nat.beq n 0 then some (s,H) else none
      |some a=>match a.spot with
       |some _=>none
       |none=>match o0 H a.block (a.off+cN*sz) new with
        |some H=>some (.slice base (cN+n) gX,H)
        |none=>none
     else
      bif uw base then
       match h1 H sz cN s with
       |none=>none
       |some dk=>bif Nat.beq dk.length (cN*sz) then fresh H elem (dk++new) (cN+n) else none
      else none
  |_,_,_,_=>none
 |_,_=>none
def Gx (P:Program)(H:ai)(oF:TypeId)(d s:Value):Option (Value×ai):=
 match P.underlying oF,d,ou s with
 |some (.slice elem),.slice base re _,some cN=>
  match ea P elem with
  |none=>none
  |some sz=>
   let n:=bif Nat.ble cN re then cN else re
   match h1 H sz n s with
   |none=>none
   |some cells=>match base with
    |none=>some (.int .i64 n,H)
    |some a=>match a.spot with
     |some _=>none
     |none=>bif !(cells.all ev) then none else match o0 H a.block a.off cells with
      |some H=>some (.int .i64 n,H)
      |none=>none
 |_,_,_=>none
def Gv (P:Program)(H:ai)(t:TypeId)(x:Value):Option (Value×ai):=
 match P.underlying t,x with
 |some _,.slice none _ _=>some (.tuple #[],H)
 |some _,.slice (some _) 0 _=>some (.tuple #[],H)
 |some (.slice elem),.slice (some a) (n+1) _=>(match a.spot,fG P elem with
  |none,some z=>bif plain z then(match o0 H a.block a.off (eN z.cells.toList (n+1)) with
   |some H=>some (.tuple #[],H)
   |none=>none) else none
  |_,_=>none)
 |_,_=>none
def places (P:Program):List Field->Option (List (Nat×Nat))
 |[]=>some []
 |f::l=>match ea P f.type,places P l with
  |some n,some r=>some ((f.offset,n)::r)
  |_,_=>none
def lc (place:Nat->Option (Nat×Nat)):List Value->List (Nat×Value)->Option (List Value)
 |cells,[]=>some cells
 |cells,(i,v)::rest=>match place i with
  |none=>none
  |some (off,size)=>bif Nat.beq v.cells.toList.length size then
   (match fO off cells v.cells.toList with
    |some cells=>lc place cells rest
    |none=>none)
   else none
def zS (P:Program)(t:TypeId)(parts:List (Nat×Value)):Option Value:=
 match fG P t,P.underlying t with
 |some z,some (.struct fields)=>bif plain z then
  match places P fields.toList with
  |some ps=>match lc (nth ps) z.cells.toList parts with
   |some cells=>some (.agg cells.toArray)
   |none=>none
  |none=>none
  else none
 |some z,some (.array _ elem)=>bif plain z then
  match ea P elem with
  |some sz=>match lc (fun i=>some (i*sz,sz)) z.cells.toList parts with
   |some cells=>some (.agg cells.toArray)
   |none=>none
  |none=>none
  else none
 |_,_=>none
def zT (P:Program)(H:ai)(t:TypeId)(len:Nat)(parts:List (Nat×Value)):Option (Value×ai):=
 match P.underlying t with
 |some (.slice elem)=>match ea P elem,fG P elem with
  |some sz,some z=>
   bif Nat.ble len 100000&&Nat.ble (len*sz) 100000&&plain z&&Nat.beq z.cells.toList.length sz then
    match lc (fun i=>some (i*sz,sz)) (eN z.cells.toList len) parts with
    |some cells=>bif cells.all ev then
     (match qn H elem cells with
      |some (id,H)=>some (.slice (some ⟨id,0,none⟩) len len,H)
      |none=>none)
     else none
    |none=>none
   else none
  |_,_=>none
 |_=>none
def jF (T:aQ Value)(H:ai):List (Nat×Operand)->Option (List (Nat×Value))
 |[]=>some []
 |(i,x)::l=>match aW T H x with
  |some v=>match jF T H l with|some r=>some ((i,v)::r)|none=>none
  |none=>none
def GB (P:Program)(x:Value)(asserted:TypeId)(ok:Bool):Option Value:=
 let CZ:Option Value:=bif ok then(match fG P asserted with|some z=>bif plain z then some (.tuple #[z,.bool false]) else none|none=>none) else none
 match P.underlying asserted,x with
 |some (.interface _),.nilIface=>CZ
 |some (.interface want),.iface t _=>match P.info? t with
  |some i=>match Instr.missingMethod want i.methods with
   |none=>some (bif ok then .tuple #[x,.bool true] else x)
   |some _=>CZ
  |none=>none
 |some _,.nilIface=>CZ
 |some _,.iface t v=>bif Nat.beq t asserted then some (bif ok then .tuple #[v,.bool true] else v) else CZ
 |_,_=>none
def Gw (P:Program)(H:ai)(src dst:TypeId)(x:Value):Option Value:=
 match P.underlying src,P.underlying dst,x with
 |some (.pointer t),some .unsafePointer,.pointer (some a)=>(match a.spot,ea P t,H.mem.get a.block with
  |none,some (_+1),some (.row cells _ _ _ _ _)=>bif Nat.blt a.off cells.length then some x else none
  |_,_,_=>none)
 |some .unsafePointer,some (.pointer u),.pointer (some a)=>(match a.spot,ea P u,H.mem.get a.block with
  |none,some (_+1),some (.row cells e false _ _ _)=>bif liesAt P P.depth e (cells.length / P.cellsOf e) a.off u 1 then some x else none
  |_,_,_=>none)
 |_,_,_=>none
def nl:List Value->Option (List UInt8)
 |[]=>some []
 |.int .u8 (.ofNat n)::l=>bif Nat.blt n 256 then(match nl l with|some r=>some (UInt8.ofNat n::r)|none=>none) else none
 |_::_=>none
def xq (P:Program)(H:ai)(src dst:TypeId)(x:Value):Option Value:=
 match P.underlying src,P.underlying dst,x with
 |some (.slice e),some .string,.slice (some a) len _=>bif !(uw (some a)) then none else(match P.underlying e with
  |some (.int .u8)=>(match h1 H 1 len (.slice (some a) len 0) with
   |some cells=>(match nl cells with
    |some jz=>some (.string ⟨jz.toArray⟩)
    |none=>none)
   |none=>none)
  |_=>none)
 |some (.slice e),some .string,.slice none _ _=>(match P.underlying e with
  |some (.int .u8)=>some (.string .empty)
  |_=>none)
 |_,_,_=>none
def isByte (v:Value):Bool:=match v with
 |.int .u8 (.ofNat n)=>Nat.blt n 256
 |_=>false
def byteOf (v:Value):UInt8:=match v with
 |.int .u8 (.ofNat n)=>UInt8.ofNat n
 |_=>0
def aa' (l:List Value):Option (List Value):=List.rec (motive:=fun _=>Option (List Value)) none (fun v t _=>Bool.rec (motive:=fun _=>Option (List Value)) none (some t) (isByte v)) l
def su (k:Nat):List Value->Option (List Value):=
 Nat.rec (motive:=fun _=>List Value->Option (List Value)) aa' (fun _ aP l=>Option.rec (motive:=fun _=>Option (List Value)) none aP (aP l)) k
def vn (k:Nat):Nat->List Value->Bool:=
 Nat.rec (motive:=fun _=>Nat->List Value->Bool) (fun n _=>Nat.beq n 0)
  (fun k aP n l=>Bool.rec (motive:=fun _=>Bool) (Option.rec (motive:=fun _=>Bool) false (fun r=>aP (Nat.sub n (Nat.pow 2 k)) r) (su k l)) (aP n l) (Nat.blt n (Nat.pow 2 k))) k
def Rl (n:Nat)(l:List Value):List UInt8:=
 List.rec (motive:=fun _=>Nat->List UInt8) (fun _=>[]) (fun v _ aP n=>Nat.rec (motive:=fun _=>List UInt8) [] (fun m _=>byteOf v::aP m) n) l n
def Ro (len:Nat)(cells:List Value):Option Value:=bif vn 21 len cells then some (.string ⟨(Rl len cells).toArray⟩) else none
def GA (P:Program)(H:ai)(src dst:TypeId)(x:Value):Option Value:=
 match P.underlying src,P.underlying dst,x with
 |some (.slice e),some .string,.slice (some a) len _=>(match P.underlying e,a.spot,H.mem.get a.block with
  |some (.int .u8),none,some (.row cells _ _ _ _ _)=>Ro len (np a.off cells)
  |_,_,_=>none)
 |_,_,_=>none
def IN (x:Value):Bool:=match x with
 |.slice _ len _=>Nat.blt 256 len
 |_=>false
def Gz (P:Program)(H:ai)(src dst:TypeId)(x:Value):Option Value:=
 bif IN x then GA P H src dst x else xq P H src dst x
def isNil {α:Type}(l:List α):Bool:=List.rec (motive:=fun _=>Bool) true (fun _ _ _=>false) l
def U6 {α:Type}(l:List α):Option (List α):=List.rec (motive:=fun _=>Option (List α)) none (fun _ t _=>some t) l
def st {α:Type}(k:Nat):List α->Option (List α):=
 Nat.rec (motive:=fun _=>List α->Option (List α)) U6 (fun _ aP l=>Option.rec (motive:=fun _=>Option (List α)) none aP (aP l)) k
def vo {α:Type}(k:Nat):Nat->List α->Option Nat:=
 Nat.rec (motive:=fun _=>Nat->List α->Option Nat) (fun n l=>Bool.rec (motive:=fun _=>Option Nat) none (some n) (isNil l))
  (fun k aP n l=>Option.rec (motive:=fun _=>Option Nat) (aP n l) (fun r=>aP (Nat.add n (Nat.pow 2 k)) r) (st k l)) k
def v8 {α:Type}(l:List α):Option Nat:=bif isNil (np 256 l) then some l.length else
 match vo 17 0 l with
 |some n=>some n
 |none=>match vo 21 0 l with
  |some n=>some n
  |none=>some l.length
def strCells (l:List UInt8):List Value:=List.rec (motive:=fun _=>List Value) [] (fun b _ r=>Value.int .u8 (.ofNat b.toNat)::r) l
def VJ (n:Nat):Option (Nat×ai)->Option (Value×ai)
 |some (id,H)=>some (.slice (some ⟨id,0,none⟩) n cu,H)
 |none=>none
def sy (P:Program)(H:ai)(src dst:TypeId)(s:ByteArray):Option (Value×ai):=
 match P.underlying src,P.underlying dst with
 |some .string,some (.slice e)=>(match P.underlying e with
  |some (.int .u8)=>bif Nat.beq (P.cellsOf e) 1 then VJ s.data.toList.length (H.lM (strCells s.data.toList) e true) else none
  |_=>none)
 |_,_=>none
def GC (P:Program)(H:ai)(pv:TypeId)(p n:Value):Option (Value×ai):=
 match p,n with
 |.pointer (some a),.int .i64 (.ofNat 0)=>(match a.spot with|none=>some (.string .empty,H)|some _=>none)
 |.pointer none,.int .i64 (.ofNat 0)=>some (.string .empty,H)
 |.pointer (some a),.int .i64 (.ofNat (n+1))=>(match a.spot,P.underlying pv,H.mem.get a.block with
  |none,some (.pointer u),some (.row cells e opn bl dS sh)=>
   bif !(Nat.beq e u&&Nat.beq (P.cellsOf e) 1&&Nat.ble (n+1) 1000000&&!Nat.blt a.block H.bp&&Nat.beq a.off 0&&!sh) then none else
   (match takeN (n+1) cells with
   |none=>none
   |some l=>(match nl l with
    |none=>none
    |some jz=>
     match H.upd a.block (.row cells e opn bl (bif sh then pR else Nat.max dS (n+1)) sh) with
     |some H=>(match(bif opn then uq H a.block bl else some H) with
      |some H=>some (.string ⟨jz.toArray⟩,H)
      |none=>none)
     |none=>none))
  |_,_,_=>none)
 |_,_=>none
def sw (P:Program)(t:TypeId)(x y:Value):Option Bool:=
 match P.underlying t,x,y with
 |some (.pointer _),.pointer none,.pointer b=>some b.isNone
 |some (.pointer _),.pointer (some _),.pointer none=>some false
 |some (.pointer elem),.pointer (some a),.pointer (some b)=>(match ea P elem with
  |some (_+1)=>bif Nat.beq a.block b.block then some (a==b) else none
  |_=>none)
 |some (.slice _),.slice none _ _,.slice b _ _=>some b.isNone
 |some (.slice _),.slice (some _) _ _,.slice none _ _=>some false
 |some (.map _ _),.map none,.map b=>some b.isNone
 |some (.map _ _),.map (some _),.map none=>some false
 |some (.func _ _ _),.nilFunc,.func _ _ _=>some false
 |some (.func _ _ _),.func _ _ _,.nilFunc=>some false
 |some (.interface _),.nilIface,.iface _ _=>some false
 |some (.interface _),.iface _ _,.nilIface=>some false
 |_,_,_=>none
end
end Go.Cre
