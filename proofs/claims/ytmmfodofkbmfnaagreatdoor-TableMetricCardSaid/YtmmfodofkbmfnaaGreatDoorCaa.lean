/- A part of the proof of TableMetric. -/
import GoSem.Step
import Derived.Calls
import Derived.Defers
import Derived.Recover
set_option linter.unusedVariables false
set_option linter.unusedSimpArgs false
set_option linter.defProp false
namespace Go
noncomputable section
def Oo:=@Array.all_eq_true_iff_forall_mem
def Oq:=@Array.eq_empty_of_size_eq_zero
def mZ:=@Array.ext'
def xj:=@Array.ext_getElem?
def Hy:=@Array.getElem?_append
def Ot:=@Array.getElem?_append_left
def u2:=@Array.getElem?_eq_getElem
def nS:=@Array.getElem?_eq_none
def C3:=@Array.getElem?_eq_some_iff
def Ou:=@Array.getElem?_modify
def sZ:=@Array.getElem?_setIfInBounds
def Hz:=@Array.getElem?_setIfInBounds_ne
def Ov:=@Array.mapM_eq_mapM_toList
def Af:=@Array.mem_of_getElem?
def xk:=@Array.mem_toList_iff
def HA:=@Array.size_push
def Ag:=@Array.size_setIfInBounds
def Ow:=@Array.toArray_toList
def eT:=@Bool.and_eq_true
def u3:=@Bool.and_self
def Ah:=@Bool.and_true
def mb:=@Bool.eq_iff_iff
def Ai:=@Bool.false_and
def Aj:=@Bool.false_eq_true
def nT:=@Bool.not_eq_true'
def HB:=@Bool.not_false
def kB:=@Bool.not_true
def ru:=@Bool.or_eq_true
def HC:=@Bool.true_and
def Oy:=@Classical.byContradiction
def Oz:=@Classical.choose_spec
def An:=@Int.add_mul
def C5:=@Int.eq_of_mul_eq_mul_right
def Ao:=@Int.le_of_lt
def p8:=@Int.lt_or_le
def iB:=@Int.mul_assoc
def jv:=@Int.mul_comm
def kV:=@Int.mul_left_comm
def HH:=@Int.mul_ne_zero
def xm:=@Int.mul_neg_of_neg_of_pos
def OE:=@Int.mul_neg_of_pos_of_neg
def u7:=@Int.mul_nonneg
def HI:=@Int.mul_one
def HJ:=@Int.natAbs_add_le
def me:=@Int.natAbs_eq_zero
def iC:=@Int.natAbs_mul
def iD:=@Int.natAbs_natCast
def u9:=@Int.natAbs_ne_zero
def xn:=@Int.natAbs_neg
def Ap:=@Int.natCast_add
def gw:=@Int.natCast_mul
def HK:=@Int.natCast_nonneg
def Aq:=@Int.neg_mul
def C6:=@Int.ofNat_dvd_left
def rz:=@Int.ofNat_tdiv
def xo:=@Int.ofNat_tmod
def HL:=@Int.sub_eq_add_neg
def jW:=@Int.toNat_natCast
def C7:=@Int.zero_add
def u':=@Int.zero_mul
def cl:=@List.Sublist.refl
def xr:=@List.all_cons
def o2:=@List.all_eq_true
def xu:=@List.append_assoc
def kW:=@List.append_nil
def OJ:=@List.drop_append_of_le_length
def xv:=@List.drop_drop
def HP:=@List.drop_eq_getElem_cons
def va:=@List.drop_eq_nil_of_le
def HQ:=@List.drop_length
def C9:=@List.drop_take
def kd:=@List.drop_zero
def nY:=@List.eq_nil_of_length_eq_zero
def OK:=@List.eq_of_mem_replicate
def xw:=@List.getD_eq_getElem?_getD
def HR:=@List.getElem?_append
def OL:=@List.getElem?_append_right
def HS:=@List.getElem?_cons_succ
def vb:=@List.getElem?_drop
def fx:=@List.getElem?_eq_getElem
def s7:=@List.getElem?_eq_none
def h4:=@List.getElem?_eq_some_iff
def mg:=@List.getElem?_map
def kX:=@List.getElem?_take
def HT:=@List.getElem?_take_of_lt
def OM:=@List.getElem?_toArray
def ON:=@List.getLast?_cons_cons
def As:=@List.getLast?_eq_getElem?
def hP:=@List.length_append
def kY:=@List.length_cons
def qa:=@List.length_drop
def OO:=@List.length_eq_one_iff
def s8:=@List.length_eq_zero_iff
def jw:=@List.length_map
def At:=@List.length_nil
def HU:=@List.length_replicate
def rB:=@List.length_set
def xx:=@List.length_singleton
def hQ:=@List.length_take
def HV:=@List.mapM_cons
def s9:=@List.map_cons
def HW:=@List.map_set
def xy:=@List.map_take
def m3:=@List.mem_append
def rC:=@List.mem_append_left
def eU:=@List.mem_append_right
def fy:=@List.mem_cons
def OP:=@List.mem_cons_of_mem
def vc:=@List.mem_iff_getElem?
def s':=@List.mem_map
def jX:=@List.mem_map_of_mem
def nZ:=@List.mem_of_getElem?
def Au:=@List.mem_singleton
def rD:=@List.nil_append
def b1:=@List.nil_sublist
def Av:=@List.nodup_append
def qb:=@List.nodup_cons
def HX:=@List.not_mem_nil
def OQ:=@List.pairwise_singleton
def HY:=@List.perm_append_comm
def Aw:=@List.perm_append_singleton
def OR:=@List.range_eq_range'
def OS:=@List.set_eq_take_append_cons_drop
def HZ:=@List.size_toArray
def vd:=@List.sublist_append_left
def xz:=@List.sublist_append_right
def ta:=@List.sum_cons
def xA:=@List.take_add_one
def tb:=@List.take_length
def jY:=@List.take_of_length_le
def rE:=@List.take_take
def kD:=@List.take_zero
def H2:=@Nat.Coprime.coprime_dvd_left
def C':=@Nat.Coprime.coprime_dvd_right
def OU:=@Nat.Coprime.dvd_of_dvd_mul_left
def H3:=@Nat.add_assoc
def H4:=@Nat.add_le_add
def hH:=@Nat.add_mul
def OV:=@Nat.add_mul_div_left
def n0:=@Nat.add_zero
def ga:=@Nat.beq_refl
def jx:=@Nat.ble_eq_true_of_le
def Ax:=@Nat.coprime_div_gcd_div_gcd
def o3:=@Nat.div_eq_of_lt
def ve:=@Nat.div_le_self
def Da:=@Nat.div_lt_iff_lt_mul
def OW:=@Nat.dvd_of_mod_eq_zero
def dB:=@Nat.eq_of_beq_eq_true
def ke:=@Nat.eq_zero_or_pos
def o4:=@Nat.gcd_comm
def vf:=@Nat.gcd_dvd_left
def te:=@Nat.gcd_dvd_right
def H5:=@Nat.gcd_one_left
def H6:=@Nat.gcd_one_right
def OX:=@Nat.gcd_pos_of_pos_left
def rF:=@Nat.gcd_pos_of_pos_right
def Ay:=@Nat.gcd_rec
def OY:=@Nat.gcd_sub_self_right
def tf:=@Nat.gcd_zero_right
def H7:=@Nat.le_div_iff_mul_le
def OZ:=@Nat.le_mul_of_pos_left
def fV:=@Nat.le_of_ble_eq_true
def xB:=@Nat.le_of_lt
def c9:=@Nat.le_refl
def ej:=@Nat.le_trans
def tg:=@Nat.lt_irrefl
def hn:=@Nat.lt_of_le_of_lt
def jZ:=@Nat.lt_of_lt_of_le
def gX:=@Nat.lt_or_ge
def h5:=@Nat.min_eq_left
def Db:=@Nat.mod_add_div
def qc:=@Nat.mod_eq_of_lt
def qd:=@Nat.mod_lt
def Dc:=@Nat.mod_two_eq_zero_or_one
def kE:=@Nat.mul_add
def rG:=@Nat.mul_assoc
def lD:=@Nat.mul_comm
def qe:=@Nat.mul_div_cancel
def Az:=@Nat.mul_div_cancel_left
def rH:=@Nat.mul_le_mul
def H8:=@Nat.mul_le_mul_left
def kf:=@Nat.mul_le_mul_right
def H9:=@Nat.mul_left_comm
def O0:=@Nat.mul_lt_mul_of_lt_of_le
def iE:=@Nat.mul_one
def gm:=@Nat.mul_pos
def AA:=@Nat.mul_zero
def hR:=@Nat.ne_of_gt
def xC:=@Nat.ne_of_lt
def AB:=@Nat.one_mul
def Ia:=@Nat.pow_add
def xD:=@Nat.pow_le_pow_right
def Dd:=@Nat.pow_one
def AD:=@Nat.pow_pos
def m4:=@Nat.pow_succ
def AE:=@Nat.sub_self
def o5:=@Nat.succ_le_iff
def xE:=@Nat.succ_mul
def lE:=@Nat.zero_add
def fj:=@Nat.zero_le
def qf:=@Nat.zero_mul
def O1:=@Option.bind_eq_some_iff
def Ib:=@Option.bind_some
def Ic:=@Option.getD_some
def xG:=@Option.map_eq_some_iff
def AF:=@Option.map_some
def bL:=@Option.some.injEq
def cU:=@Prod.mk.injEq
def Dx:=@beq_false
def cZ:=@cond_false
def bH:=@cond_true
def ak:=@congrArg
def mo:=@decide_eq_decide
def gd:=@decide_eq_false
def hv:=@decide_eq_true
def A2:=@decide_eq_true_eq
def zd:=@if_false
def a1:=@if_neg
def bs:=@if_pos
def BW:=@if_true
def Cl:=@of_decide_eq_true
end
end Go
namespace Go.Cre
noncomputable section
inductive aL (α:Type) where
 |leaf
 |node (v:Option α) (l r:aL α)
def aL.get {α:Type}(t:aL α):Nat->Option α:=
 aL.rec (motive:=fun _=>Nat->Option α) (fun _=>none)
  (fun v _ _ l r n=>Nat.rec (motive:=fun _=>Option α) v (fun m _=>Bool.rec (motive:=fun _=>Option α) (r (Nat.div m 2)) (l (Nat.div m 2)) (Nat.beq (Nat.mod m 2) 0)) n) t
def aL.left {α:Type}(v:Option α)(r:aL α)(l:Option (aL α)):Option (aL α):=Option.rec (motive:=fun _=>Option (aL α)) none (fun l=>some (.node v l r)) l
def aL.right {α:Type}(v:Option α)(l:aL α)(r:Option (aL α)):Option (aL α):=Option.rec (motive:=fun _=>Option (aL α)) none (fun r=>some (.node v l r)) r
def aL.put {α:Type}(a:α)(t:aL α):Nat->Option (aL α):=
 aL.rec (motive:=fun _=>Nat->Option (aL α))
  (fun n=>Nat.rec (motive:=fun _=>Option (aL α)) (some (.node (some a) .leaf .leaf)) (fun _ _=>none) n)
  (fun v l r pl uH n=>Nat.rec (motive:=fun _=>Option (aL α)) (some (.node (some a) l r))
   (fun m _=>Bool.rec (motive:=fun _=>Option (aL α)) (aL.right v l (uH (Nat.div m 2))) (aL.left v r (pl (Nat.div m 2))) (Nat.beq (Nat.mod m 2) 0)) n) t
def aL.set {α:Type}(_:Nat)(t:aL α)(n:Nat)(a:α):Option (aL α):=aL.put a t n
def aL.full {α:Type}(a:α)(d:Nat):aL α:=Nat.rec (motive:=fun _=>aL α) .leaf (fun _ t=>.node (some a) t t) d
def w7:Nat:=64
structure xi where
 state:LoopState
 pending:Option Code
 T:aL Value
 n:Nat
 params:List Tmp
 assign:Code
 body:Code
 fN:Nat
inductive ef where
 |row (cells:List Value) (elem:TypeId) (opn:Bool) (ba:Nat) (du:Nat) (sh:Bool)
 |map (es:List MapEntry) (clock:Nat)
 |loop (l:xi)
 |fN (ds:Option (List Deferred))
 |dead
structure ah where
 mem:aL ef
 av:Nat
 ba:aL (List Nat)
 bM:Nat
 bf:Nat
structure aO where
 T:aL Value
 n:Nat
 ds:List Deferred
 bu:Bool
 a7:FrameMode
 b3:Option Nat
def cf:Nat:=1208925819614629174706176
def n9:Nat:=1208925819614629174706176
def ah.NF (av:Nat)(ba:aL (List Nat))(bM bf:Nat):Option (aL ef)->Option ah
 |some m=>some ⟨m,av,ba,bM,bf⟩
 |none=>none
def ah.upd (H:ah)(id:Nat)(b:ef):Option ah:=
 match H with
 |⟨mem,av,ba,bM,bf⟩=>ah.NF av ba bM bf (aL.put b mem id)
def ah.L5 (av:Nat)(ba:aL (List Nat))(bM bf:Nat)(m:aL ef):Nat->Option (Nat×ah)
 |0=>none
 |n+1=>some (av,⟨m,n+1,ba,bM,bf⟩)
def ah.Gg (av:Nat)(ba:aL (List Nat))(bM bf:Nat):Option (aL ef)->Option (Nat×ah)
 |some m=>ah.L5 av ba bM bf m (Nat.succ av)
 |none=>none
def ah.new (H:ah)(b:ef):Option (Nat×ah):=
 match H with
 |⟨mem,av,ba,bM,bf⟩=>ah.Gg av ba bM bf (aL.put b mem av)
def ah.M7 (mem:aL ef)(av bM bf:Nat):Option (aL (List Nat))->Option ah
 |some f=>some ⟨mem,av,f,bM,bf⟩
 |none=>none
def ah.mW (H:ah)(f:Nat)(l:List Nat):Option ah:=
 match H with
 |⟨mem,av,ba,bM,bf⟩=>ah.M7 mem av bM bf (aL.put l ba f)
def ah.L6 (mem:aL ef)(av:Nat)(ba:aL (List Nat))(bM bf:Nat):Nat->Option (Nat×ah)
 |0=>none
 |n+1=>some (bM,⟨mem,av,ba,n+1,bf⟩)
def ah.Gh (mem:aL ef)(av bM bf:Nat):Option (aL (List Nat))->Option (Nat×ah)
 |some f=>ah.L6 mem av f bM bf (Nat.succ bM)
 |none=>none
def ah.pL (H:ah):Option (Nat×ah):=
 match H with
 |⟨mem,av,ba,bM,bf⟩=>ah.Gh mem av bM bf (aL.put [av] ba bM)
def ah.kt (H:ah)(cells:List Value)(elem:TypeId)(sh:Bool):Option (Nat×ah):=
 match H.pL with
 |some (f,H)=>H.new (.row cells elem true f 0 sh)
 |none=>none
def gL:Nat->Value->Bool
 |0,_=>false
 |n+1,v=>
  match v with
  |.bool _|.int _ _|.float _ _|.string _|.nilFunc|.nilIface=>true
  |.pointer none|.slice none _ _|.map none=>true
  |.iface _ v=>gL n v
  |.agg cs=>cs.toList.all (gL n)
  |.tuple cs=>cs.toList.all (gL n)
  |.func (.func _) a b=>a.isEmpty&&b.isEmpty
  |_=>false
def plain (v:Value):Bool:=gL 8 v
def nth {α:Type}(l:List α):Nat->Option α:=
 List.rec (motive:=fun _=>Nat->Option α) (fun _=>none) (fun a _ r n=>Nat.rec (motive:=fun _=>Option α) (some a) (fun m _=>r m) n) l
def lJ {α:Type}(n:Nat)(l:List α):List α:=
 List.rec (motive:=fun _=>Nat->List α) (fun _=>[]) (fun a t r n=>Nat.rec (motive:=fun _=>List α) (a::t) (fun m _=>r m) n) l n
def takeN {α:Type}:Nat->List α->Option (List α)
 |0,_=>some []
 |_+1,[]=>none
 |n+1,a::l=>match takeN n l with|some r=>some (a::r)|none=>none
def fD {α:Type}:Nat->List α->List α->Option (List α)
 |0,l,[]=>some l
 |0,[],_::_=>none
 |0,_::l,v::vs=>match fD 0 l vs with|some r=>some (v::r)|none=>none
 |_+1,[],_=>none
 |n+1,a::l,vs=>match fD n l vs with|some r=>some (a::r)|none=>none
def dY:Value->Bool
 |.agg _=>false
 |.tuple _=>false
 |_=>true
def en {α:Type}(P:Program):Sem α->Option α
 |.pure a=>some a
 |.program k=>en P (k P)
 |.mark _ k=>en P k
 |_=>none
def wQ (H:ah)(g:Nat):Option Value:=
 bif Nat.blt g H.bf then(match H.mem.get g with|some (.row _ _ _ _ _ _)=>some (.pointer (some ⟨g,0,none⟩))|_=>none) else none
def GA (v:Value):Option Value:=bif plain v then some v else none
def aR (T:aL Value)(H:ah)(x:Operand):Option Value:=
 Operand.rec (motive:=fun _=>Option Value) (fun t=>T.get t) GA (wQ H) (fun f=>some (.func (.func f) #[] #[])) x
def ev (T:aL Value)(H:ah):List Operand->Option (List Value)
 |[]=>some []
 |x::l=>match aR T H x with
  |some v=>match ev T H l with|some vs=>some (v::vs)|none=>none
  |none=>none
def m8 (P:Program)(t:TypeId):Option (Option Nat):=
 match P.info? t with
 |none=>none
 |some i=>match P.underlying t with
  |some (.struct _)=>some (some i.size)
  |some (.array _ _)=>some (some i.size)
  |some _=>some none
  |none=>none
def dD (P:Program)(t:TypeId):Option Nat:=match P.info? t with|some i=>some i.size|none=>none
def fw (P:Program)(t:TypeId):Option Value:=match P.info? t with|some i=>i.zero|none=>none
def o8 (P:Program)(t:TypeId):Option Nat:=match P.info? t with|some i=>some i.bytes|none=>none
def jj (P:Program)(t:TypeId)(cs:List Value)(off:Nat):Option Value:=
 match m8 P t with
 |some (some n)=>match takeN n (lJ off cs) with|some l=>some (.agg l.toArray)|none=>none
 |some none=>nth cs off
 |none=>none
def vy (P:Program)(H:ah)(t:TypeId)(a:Addr):Option Value:=
 match a.spot with
 |some _=>none
 |none=>match H.mem.get a.block with
  |some (.row cells _ _ _ _ _)=>jj P t cells a.off
  |_=>none
def tA (P:Program)(H:ah)(t:TypeId):Value->Option Value
 |.pointer (some a)=>vy P H t a
 |_=>none
def nA (H:ah)(lg:Nat):List Nat->Option ah
 |[]=>some H
 |x::l=>bif Nat.beq x lg then nA H lg l else
  match H.upd x .dead with|some H=>nA H lg l|none=>none
def su (H:ah)(id ba:Nat):Option ah:=
 match H.ba.get ba with
 |none=>none
 |some l=>
  match nA H id l with
  |none=>none
  |some H=>H.mW ba [id]
def ni (H:ah)(id off:Nat)(vs:List Value):Option ah:=
 match vs with
 |[]=>some H
 |_=>bif Nat.blt id H.bf then none else
  match H.mem.get id with
  |some (.row cells elem opn ba du sh)=>
   bif Nat.ble du off&&vs.all dY then
    match fD off cells vs with
    |none=>none
    |some cells=>
     match H.upd id (.row cells elem opn ba du sh) with
     |none=>none
     |some H=>bif opn then su H id ba else some H
   else none
  |_=>none
def tB (P:Program)(H:ah)(t:TypeId)(p v:Value):Option ah:=
 match p with
 |.pointer (some a)=>match a.spot with
  |some _=>none
  |none=>match dD P t with
   |some n=>bif Nat.beq v.cells.toList.length n then ni H a.block a.off v.cells.toList else none
   |none=>none
 |_=>none
def oG (H:ah)(elem:TypeId)(cells:List Value):Option (Nat×ah):=H.new (.row cells elem false 0 0 false)
def qx (H:ah)(elem:TypeId)(v:Value):Option (Value×ah):=
 bif v.cells.toList.all dY then
  match oG H elem v.cells.toList with
  |some (id,H)=>some (.pointer (some ⟨id,0,none⟩),H)
  |none=>none
 else none
def yb (P:Program)(s:TypeId)(p:Value)(field:Nat):Option Value:=
 match p with
 |.pointer (some a)=>match a.spot with
  |some _=>none
  |none=>match P.underlying s with
   |some (.struct fields)=>match fields[field]? with
    |some f=>match dD P f.type with
     |some (_+1)=>some (.pointer (some ⟨a.block,a.off+f.offset,none⟩))
     |_=>none
    |none=>none
   |_=>none
 |_=>none
def oA (i:Int)(len:Nat):Option Nat:=
 match i with
 |.ofNat n=>bif Nat.blt n len then some n else none
 |.negSucc _=>none
def lY (i:Int)(len:Nat):Option Nat:=
 match i with
 |.ofNat n=>bif Nat.ble n len then some n else none
 |.negSucc _=>none
def qz (P:Program)(t:TypeId)(x bw:Value):Option Value:=
 match bw with
 |.int _ i=>
  match P.underlying t,x with
  |some (.array len elem),.pointer (some a)=>match a.spot with
   |some _=>none
   |none=>match oA i len,dD P elem with
    |some n,some sz=>some (.pointer (some ⟨a.block,a.off+n*sz,none⟩))
    |_,_=>none
  |some (.slice elem),.slice (some a) len _=>match a.spot with
   |some _=>none
   |none=>match oA i len,dD P elem with
    |some n,some sz=>some (.pointer (some ⟨a.block,a.off+n*sz,none⟩))
    |_,_=>none
  |_,_=>none
 |_=>none
def ik (d:Nat)(top:Nat):Option Value->Option Nat
 |none=>some d
 |some (.int _ i)=>lY i top
 |some _=>none
def iI (P:Program)(H:ah)(t:TypeId)(x:Value)(fR aq:Option Value):Option Value:=
 match P.underlying t,x with
 |some (.array n elem),.pointer (some a)=>match a.spot with
  |some _=>none
  |none=>match dD P elem with
   |none=>none
   |some sz=>bif !Nat.blt n cf then none else match ik n n aq with
    |none=>none
    |some h=>match ik 0 h fR with
     |none=>none
     |some l=>some (.slice (some (bif Nat.beq n l then a else⟨a.block,a.off+l*sz,none⟩)) (Nat.sub h l) (Nat.sub n l))
 |some (.slice elem),.slice (some a) len cap=>match a.spot with
  |some _=>none
  |none=>match dD P elem with
   |none=>none
   |some sz=>
    bif Nat.beq cap cf then
     match H.mem.get a.block with
     |some (.row _ el _ _ _ _)=>bif !Nat.beq el elem then none else
      (match ik len len aq with
      |none=>none
      |some h=>match ik 0 h fR with
       |none=>none
       |some l=>some (.slice (some ⟨a.block,a.off+l*sz,none⟩) (Nat.sub h l) cf))
     |_=>none
    else
     match ik len cap aq with
     |none=>none
     |some h=>match ik 0 h fR with
      |none=>none
      |some l=>some (.slice (some (bif Nat.beq cap l then a else⟨a.block,a.off+l*sz,none⟩)) (Nat.sub h l) (Nat.sub cap l))
 |_,_=>none
def Hv (v:Value)(n:Nat):List Value:=Nat.rec (motive:=fun _=>List Value) [] (fun _ aN=>v::aN) n
def aav (z:List Value)(n:Nat):List Value:=Nat.rec (motive:=fun _=>List Value) [] (fun _ aN=>z++aN) n
def fb (z:List Value)(n:Nat):List Value:=
 match z with
 |[]=>[]
 |[v]=>Hv v n
 |a::b::z=>aav (a::b::z) n
def yc (P:Program)(H:ah)(t:TypeId)(l c:Value):Option (Value×ah):=
 match l,c,P.underlying t with
 |.int _ l,.int _ c,some (.slice elem)=>
  match fw P elem,o8 P elem,dD P elem with
  |some z,some fG,some sz=>
   match lY c 1000000,lY l 1000000 with
   |some c,some l=>
    bif Nat.ble l c&&Nat.ble fG 1000000&&Nat.beq z.cells.toList.length sz&&z.cells.toList.all dY&&plain z then
     match oG H elem (fb z.cells.toList c) with
     |some (id,H)=>some (.slice (some ⟨id,0,none⟩) l c,H)
     |none=>none
    else none
   |_,_=>none
  |_,_,_=>none
 |_,_,_=>none
def hd (H:ah)(sz n:Nat):Value->Option (List Value)
 |.slice (some a) _ _=>match n with
  |0=>some []
  |_=>match a.spot with
   |some _=>none
   |none=>match H.mem.get a.block with
    |some (.row cells _ _ _ _ _)=>takeN (n*sz) (lJ a.off cells)
    |_=>none
 |.slice none _ _=>match n with|0=>some []|_=>none
 |.string s=>match takeN n s.data.toList with
  |some l=>some (l.map fun b=>.int .u8 b.toNat)
  |none=>none
 |_=>none
def mL:Value->Option Nat
 |.slice _ n _=>some n
 |.string s=>some s.data.toList.length
 |_=>none
def rV (H:ah)(id:Nat):List Nat->Option (List Nat×ah)
 |[]=>none
 |x::l=>bif Nat.beq x id then some (x::l,H) else
  match H.upd x .dead with|some H=>rV H id l|none=>none
def x2 (H:ah)(l:List Nat)(same:Bool):Option (List Nat×ah):=
 bif same then some (l,H) else(match nA H H.av l with|some H=>some ([],H)|none=>none)
def fresh (H:ah)(elem:TypeId)(cells:List Value)(len:Nat):Option (Value×ah):=
 match H.kt cells elem false with
 |some (id,H)=>some (.slice (some ⟨id,0,none⟩) len cf,H)
 |none=>none
def sC:Option Addr->Bool
 |some a=>(match a.spot with|none=>true|some _=>false)
 |none=>true
def lK (P:Program)(H:ah)(ft:TypeId)(s x:Value):Option (Value×ah):=
 match P.underlying ft,s with
 |some (.slice elem),.slice base ct gu=>
  match dD P elem,o8 P elem,fw P elem,mL x with
  |some sz,some fG,some z,some n=>
   bif !(Nat.ble (ct+n) 1000000&&Nat.ble fG 1000000&&Nat.beq z.cells.toList.length sz) then none else
   match hd H sz n x with
   |none=>none
   |some new=>
    bif !(new.all dY&&Nat.beq new.length (n*sz)) then none else
    bif Nat.beq gu cf then
     match base with
     |some a=>match a.spot with
      |some _=>none
      |none=>match H.mem.get a.block with
       |some (.row cells el true ba du sh)=>
        bif !(Nat.beq el elem&&!Nat.blt a.block H.bf&&Nat.ble du (a.off+ct*sz)) then none else
        bif Nat.beq n 0 then some (s,H) else
        bif !(Nat.beq a.off 0) then none else
        match takeN (ct*sz) cells with
        |none=>none
        |some c3=>
         match H.ba.get ba with
         |none=>none
         |some l=>
          match rV H a.block l with
          |none=>none
          |some (l,H)=>
           match x2 H l (Nat.beq cells.length (ct*sz)) with
           |none=>none
           |some (l,H)=>
            match H.mW ba (H.av::l) with
            |none=>none
            |some H=>match H.new (.row (c3++new) elem true ba du sh) with
             |some (id,H)=>some (.slice (some ⟨id,0,none⟩) (ct+n) cf,H)
             |none=>none
       |_=>none
     |none=>none
    else
     bif Nat.ble (ct+n) gu then
      match base with
      |none=>bif Nat.beq n 0 then some (s,H) else none
      |some a=>match a.spot with
       |some _=>none
       |none=>match ni H a.block (a.off+ct*sz) new with
        |some H=>some (.slice base (ct+n) gu,H)
        |none=>none
     else
      bif sC base then
       match hd H sz ct s with
       |none=>none
       |some c3=>bif Nat.beq c3.length (ct*sz) then fresh H elem (c3++new) (ct+n) else none
      else none
  |_,_,_,_=>none
 |_,_=>none
def D2 (P:Program)(H:ah)(mX:TypeId)(d s:Value):Option (Value×ah):=
 match P.underlying mX,d,mL s with
 |some (.slice elem),.slice base pf _,some ct=>
  match dD P elem with
  |none=>none
  |some sz=>
   let n:=bif Nat.ble ct pf then ct else pf
   match hd H sz n s with
   |none=>none
   |some cells=>match base with
    |none=>some (.int .i64 n,H)
    |some a=>match a.spot with
     |some _=>none
     |none=>bif !(cells.all dY) then none else match ni H a.block a.off cells with
      |some H=>some (.int .i64 n,H)
      |none=>none
 |_,_,_=>none
def DZ (P:Program)(H:ah)(t:TypeId)(x:Value):Option (Value×ah):=
 match P.underlying t,x with
 |some _,.slice none _ _=>some (.tuple #[],H)
 |some _,.slice (some _) 0 _=>some (.tuple #[],H)
 |some (.slice elem),.slice (some a) (n+1) _=>(match a.spot,fw P elem with
  |none,some z=>bif plain z then(match ni H a.block a.off (fb z.cells.toList (n+1)) with
   |some H=>some (.tuple #[],H)
   |none=>none) else none
  |_,_=>none)
 |_,_=>none
def places (P:Program):List Field->Option (List (Nat×Nat))
 |[]=>some []
 |f::l=>match dD P f.type,places P l with
  |some n,some r=>some ((f.offset,n)::r)
  |_,_=>none
def km (place:Nat->Option (Nat×Nat)):List Value->List (Nat×Value)->Option (List Value)
 |cells,[]=>some cells
 |cells,(i,v)::rest=>match place i with
  |none=>none
  |some (off,size)=>bif Nat.beq v.cells.toList.length size then
   (match fD off cells v.cells.toList with
    |some cells=>km place cells rest
    |none=>none)
   else none
def x9 (P:Program)(t:TypeId)(parts:List (Nat×Value)):Option Value:=
 match fw P t,P.underlying t with
 |some z,some (.struct fields)=>bif plain z then
  match places P fields.toList with
  |some ps=>match km (nth ps) z.cells.toList parts with
   |some cells=>some (.agg cells.toArray)
   |none=>none
  |none=>none
  else none
 |some z,some (.array _ elem)=>bif plain z then
  match dD P elem with
  |some sz=>match km (fun i=>some (i*sz,sz)) z.cells.toList parts with
   |some cells=>some (.agg cells.toArray)
   |none=>none
  |none=>none
  else none
 |_,_=>none
def x' (P:Program)(H:ah)(t:TypeId)(len:Nat)(parts:List (Nat×Value)):Option (Value×ah):=
 match P.underlying t with
 |some (.slice elem)=>match dD P elem,fw P elem with
  |some sz,some z=>
   bif Nat.ble len 100000&&Nat.ble (len*sz) 100000&&plain z&&Nat.beq z.cells.toList.length sz then
    match km (fun i=>some (i*sz,sz)) (fb z.cells.toList len) parts with
    |some cells=>bif cells.all dY then
     (match oG H elem cells with
      |some (id,H)=>some (.slice (some ⟨id,0,none⟩) len len,H)
      |none=>none)
     else none
    |none=>none
   else none
  |_,_=>none
 |_=>none
def iw (T:aL Value)(H:ah):List (Nat×Operand)->Option (List (Nat×Value))
 |[]=>some []
 |(i,x)::l=>match aR T H x with
  |some v=>match iw T H l with|some r=>some ((i,v)::r)|none=>none
  |none=>none
def D6 (P:Program)(x:Value)(asserted:TypeId)(ok:Bool):Option Value:=
 let Bc:Option Value:=bif ok then(match fw P asserted with|some z=>bif plain z then some (.tuple #[z,.bool false]) else none|none=>none) else none
 match P.underlying asserted,x with
 |some (.interface _),.nilIface=>Bc
 |some (.interface want),.iface t _=>match P.info? t with
  |some i=>match Instr.missingMethod want i.methods with
   |none=>some (bif ok then .tuple #[x,.bool true] else x)
   |some _=>Bc
  |none=>none
 |some _,.nilIface=>Bc
 |some _,.iface t v=>bif Nat.beq t asserted then some (bif ok then .tuple #[v,.bool true] else v) else Bc
 |_,_=>none
def D1 (P:Program)(H:ah)(src dst:TypeId)(x:Value):Option Value:=
 match P.underlying src,P.underlying dst,x with
 |some (.pointer t),some .unsafePointer,.pointer (some a)=>(match a.spot,dD P t,H.mem.get a.block with
  |none,some (_+1),some (.row cells _ _ _ _ _)=>bif Nat.blt a.off cells.length then some x else none
  |_,_,_=>none)
 |some .unsafePointer,some (.pointer u),.pointer (some a)=>(match a.spot,dD P u,H.mem.get a.block with
  |none,some (_+1),some (.row cells e false _ _ _)=>bif liesAt P P.depth e (cells.length / P.cellsOf e) a.off u 1 then some x else none
  |_,_,_=>none)
 |_,_,_=>none
def lI:List Value->Option (List UInt8)
 |[]=>some []
 |.int .u8 (.ofNat n)::l=>bif Nat.blt n 256 then(match lI l with|some r=>some (UInt8.ofNat n::r)|none=>none) else none
 |_::_=>none
def vA (P:Program)(H:ah)(src dst:TypeId)(x:Value):Option Value:=
 match P.underlying src,P.underlying dst,x with
 |some (.slice e),some .string,.slice (some a) len _=>bif !(sC (some a)) then none else(match P.underlying e with
  |some (.int .u8)=>(match hd H 1 len (.slice (some a) len 0) with
   |some cells=>(match lI cells with
    |some il=>some (.string ⟨il.toArray⟩)
    |none=>none)
   |none=>none)
  |_=>none)
 |some (.slice e),some .string,.slice none _ _=>(match P.underlying e with
  |some (.int .u8)=>some (.string .empty)
  |_=>none)
 |_,_,_=>none
def isByte (v:Value):Bool:=match v with
 |.int .u8 (.ofNat n)=>Nat.blt n 256
 |_=>false
def byteOf (v:Value):UInt8:=match v with
 |.int .u8 (.ofNat n)=>UInt8.ofNat n
 |_=>0
def WJ (l:List Value):Option (List Value):=List.rec (motive:=fun _=>Option (List Value)) none (fun v t _=>Bool.rec (motive:=fun _=>Option (List Value)) none (some t) (isByte v)) l
def qw (k:Nat):List Value->Option (List Value):=
 Nat.rec (motive:=fun _=>List Value->Option (List Value)) WJ (fun _ aN l=>Option.rec (motive:=fun _=>Option (List Value)) none aN (aN l)) k
def tt (k:Nat):Nat->List Value->Bool:=
 Nat.rec (motive:=fun _=>Nat->List Value->Bool) (fun n _=>Nat.beq n 0)
  (fun k aN n l=>Bool.rec (motive:=fun _=>Bool) (Option.rec (motive:=fun _=>Bool) false (fun r=>aN (Nat.sub n (Nat.pow 2 k)) r) (qw k l)) (aN n l) (Nat.blt n (Nat.pow 2 k))) k
def Nu (n:Nat)(l:List Value):List UInt8:=
 List.rec (motive:=fun _=>Nat->List UInt8) (fun _=>[]) (fun v _ aN n=>Nat.rec (motive:=fun _=>List UInt8) [] (fun m _=>byteOf v::aN m) n) l n
def Ny (len:Nat)(cells:List Value):Option Value:=bif tt 21 len cells then some (.string ⟨(Nu len cells).toArray⟩) else none
def D5 (P:Program)(H:ah)(src dst:TypeId)(x:Value):Option Value:=
 match P.underlying src,P.underlying dst,x with
 |some (.slice e),some .string,.slice (some a) len _=>(match P.underlying e,a.spot,H.mem.get a.block with
  |some (.int .u8),none,some (.row cells _ _ _ _ _)=>Ny len (lJ a.off cells)
  |_,_,_=>none)
 |_,_,_=>none
def F6 (x:Value):Bool:=match x with
 |.slice _ len _=>Nat.blt 256 len
 |_=>false
def D4 (P:Program)(H:ah)(src dst:TypeId)(x:Value):Option Value:=
 bif F6 x then D5 P H src dst x else vA P H src dst x
def isNil {α:Type}(l:List α):Bool:=List.rec (motive:=fun _=>Bool) true (fun _ _ _=>false) l
def Rb {α:Type}(l:List α):Option (List α):=List.rec (motive:=fun _=>Option (List α)) none (fun _ t _=>some t) l
def qv {α:Type}(k:Nat):List α->Option (List α):=
 Nat.rec (motive:=fun _=>List α->Option (List α)) Rb (fun _ aN l=>Option.rec (motive:=fun _=>Option (List α)) none aN (aN l)) k
def tu {α:Type}(k:Nat):Nat->List α->Option Nat:=
 Nat.rec (motive:=fun _=>Nat->List α->Option Nat) (fun n l=>Bool.rec (motive:=fun _=>Option Nat) none (some n) (isNil l))
  (fun k aN n l=>Option.rec (motive:=fun _=>Option Nat) (aN n l) (fun r=>aN (Nat.add n (Nat.pow 2 k)) r) (qv k l)) k
def uq {α:Type}(l:List α):Option Nat:=bif isNil (lJ 256 l) then some l.length else
 match tu 17 0 l with
 |some n=>some n
 |none=>match tu 21 0 l with
  |some n=>some n
  |none=>some l.length
def strCells (l:List UInt8):List Value:=List.rec (motive:=fun _=>List Value) [] (fun b _ r=>Value.int .u8 (.ofNat b.toNat)::r) l
def RP (n:Nat):Option (Nat×ah)->Option (Value×ah)
 |some (id,H)=>some (.slice (some ⟨id,0,none⟩) n cf,H)
 |none=>none
def qA (P:Program)(H:ah)(src dst:TypeId)(s:ByteArray):Option (Value×ah):=
 match P.underlying src,P.underlying dst with
 |some .string,some (.slice e)=>(match P.underlying e with
  |some (.int .u8)=>bif Nat.beq (P.cellsOf e) 1 then RP s.data.toList.length (H.kt (strCells s.data.toList) e true) else none
  |_=>none)
 |_,_=>none
def D7 (P:Program)(H:ah)(nI:TypeId)(p n:Value):Option (Value×ah):=
 match p,n with
 |.pointer (some a),.int .i64 (.ofNat 0)=>(match a.spot with|none=>some (.string .empty,H)|some _=>none)
 |.pointer none,.int .i64 (.ofNat 0)=>some (.string .empty,H)
 |.pointer (some a),.int .i64 (.ofNat (n+1))=>(match a.spot,P.underlying nI,H.mem.get a.block with
  |none,some (.pointer u),some (.row cells e opn ba du sh)=>
   bif !(Nat.beq e u&&Nat.beq (P.cellsOf e) 1&&Nat.ble (n+1) 1000000&&!Nat.blt a.block H.bf&&Nat.beq a.off 0&&!sh) then none else
   (match takeN (n+1) cells with
   |none=>none
   |some l=>(match lI l with
    |none=>none
    |some il=>
     match H.upd a.block (.row cells e opn ba (bif sh then n9 else Nat.max du (n+1)) sh) with
     |some H=>(match(bif opn then su H a.block ba else some H) with
      |some H=>some (.string ⟨il.toArray⟩,H)
      |none=>none)
     |none=>none))
  |_,_,_=>none)
 |_,_=>none
def qy (P:Program)(t:TypeId)(x y:Value):Option Bool:=
 match P.underlying t,x,y with
 |some (.pointer _),.pointer none,.pointer b=>some b.isNone
 |some (.pointer _),.pointer (some _),.pointer none=>some false
 |some (.pointer elem),.pointer (some a),.pointer (some b)=>(match dD P elem with
  |some (_+1)=>bif Nat.beq a.block b.block then some (a==b) else none
  |_=>none)
 |some (.slice _),.slice none _ _,.slice b _ _=>some b.isNone
 |some (.slice _),.slice (some _) _ _,.slice none _ _=>some false
 |some (.map _ _),.map none,.map b=>some b.isNone
 |some (.map _ _),.map (some _),.map none=>some false
 |some (.func _ _ _),.nilFunc,.func _ _ _=>some false
 |some (.func _ _ _),.func _ _ _,.nilFunc=>some false
 |some (.interface _),.nilIface,.iface _ _=>some false
 |some (.interface _),.iface _ _,.nilIface=>some false
 |_,_,_=>none
end
end Go.Cre
