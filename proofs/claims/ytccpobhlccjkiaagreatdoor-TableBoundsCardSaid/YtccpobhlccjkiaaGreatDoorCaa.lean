/- A part of the proof of TableBounds. -/
import GoSem.Step
import Derived.Calls
import Derived.Defers
import Derived.Recover
import Derived.Below
set_option linter.defProp false
set_option linter.unusedVariables false
set_option linter.unusedSimpArgs false
namespace Go
noncomputable section
def ahX:=@Array.all_eq_true_iff_forall_mem
def ahY:=@Array.eq_empty_of_size_eq_zero
def r9:=@Array.ext'
def GH:=@Array.ext_getElem?
def Xq:=@Array.getElem?_append
def ahZ:=@Array.getElem?_append_left
def DD:=@Array.getElem?_eq_getElem
def uG:=@Array.getElem?_eq_none
def PU:=@Array.getElem?_eq_some_iff
def ah0:=@Array.getElem?_modify
def Bp:=@Array.getElem?_setIfInBounds
def Xr:=@Array.getElem?_setIfInBounds_ne
def ah1:=@Array.mapM_eq_mapM_toList
def K6:=@Array.mem_of_getElem?
def GI:=@Array.mem_toList_iff
def Xs:=@Array.size_push
def K7:=@Array.size_setIfInBounds
def ah2:=@Array.toArray_toList
def gQ:=@Bool.and_eq_true
def zM:=@Bool.and_self
def K8:=@Bool.and_true
def rc:=@Bool.eq_iff_iff
def GJ:=@Bool.false_and
def zN:=@Bool.false_eq_true
def tj:=@Bool.not_eq_true'
def Xt:=@Bool.not_false
def ow:=@Bool.not_true
def zO:=@Bool.or_eq_true
def Xu:=@Bool.true_and
def ox:=@Classical.byContradiction
def ah5:=@Classical.choose_spec
def x4:=@Classical.not_not
def DJ:=@Int.add_mul
def XC:=@Int.ediv_nonneg
def GM:=@Int.emod_lt_of_pos
def GN:=@Int.emod_nonneg
def GO:=@Int.eq_of_mul_eq_mul_right
def PY:=@Int.le_of_lt
def Lc:=@Int.le_refl
def wg:=@Int.lt_or_le
def nb:=@Int.mul_assoc
def oA:=@Int.mul_comm
def XD:=@Int.mul_eq_zero
def qm:=@Int.mul_left_comm
def XE:=@Int.mul_ne_zero
def DK:=@Int.mul_neg_of_neg_of_pos
def XF:=@Int.mul_neg_of_pos_of_neg
def DL:=@Int.mul_nonneg
def XG:=@Int.mul_one
def aie:=@Int.mul_pos_of_neg_of_neg
def Ld:=@Int.mul_right_comm
def qn:=@Int.natAbs_eq_zero
def kT:=@Int.natAbs_mul
def gR:=@Int.natAbs_natCast
def DM:=@Int.natAbs_ne_zero
def zQ:=@Int.natAbs_neg
def XH:=@Int.natAbs_of_nonneg
def XI:=@Int.natAbs_zero
def wh:=@Int.natCast_add
def iX:=@Int.natCast_mul
def sc:=@Int.natCast_nonneg
def GP:=@Int.neg_mul
def PZ:=@Int.ofNat_dvd_left
def uK:=@Int.ofNat_tdiv
def DN:=@Int.ofNat_tmod
def P0:=@Int.sub_eq_add_neg
def ff:=@Int.toNat_natCast
def Le:=@Int.zero_mul
def zT:=@List.Perm.append_left
def aik:=@List.Perm.append_right
def XP:=@List.Perm.refl
def Ll:=@List.Sublist.append_left
def iC:=@List.Sublist.refl
def DQ:=@List.all_cons
def sf:=@List.all_eq_true
def P3:=@List.any_eq_true
def j6:=@List.append_assoc
def gC:=@List.append_nil
def Lm:=@List.cons_append
def ail:=@List.dropLast_concat_getLast
def aim:=@List.drop_append_of_le_length
def zU:=@List.drop_drop
def tn:=@List.drop_eq_getElem_cons
def to:=@List.drop_eq_nil_of_le
def XQ:=@List.drop_length
def wk:=@List.drop_of_length_le
def P4:=@List.drop_set_of_lt
def DR:=@List.drop_take
def iD:=@List.drop_zero
def mQ:=@List.eq_nil_of_length_eq_zero
def DS:=@List.eq_of_mem_replicate
def ain:=@List.exists_mem_of_length_pos
def pK:=@List.ext_getElem?
def P5:=@List.foldl_cons
def ld:=@List.getD_eq_getElem?_getD
def XR:=@List.getElem?_append
def sg:=@List.getElem?_append_left
def rf:=@List.getElem?_append_right
def Ln:=@List.getElem?_cons_succ
def n2:=@List.getElem?_drop
def cU:=@List.getElem?_eq_getElem
def jq:=@List.getElem?_eq_none
def dO:=@List.getElem?_eq_some_iff
def h':=@List.getElem?_map
def XS:=@List.getElem?_of_mem
def GS:=@List.getElem?_range
def GU:=@List.getElem?_replicate
def qp:=@List.getElem?_set
def GV:=@List.getElem?_set_ne
def GW:=@List.getElem?_set_self
def iY:=@List.getElem?_take
def P6:=@List.getElem?_take_of_lt
def aio:=@List.getElem?_toArray
def P7:=@List.getElem_mem
def Lo:=@List.getLast?_append
def P8:=@List.getLast?_cons_cons
def x7:=@List.getLast?_eq_getElem?
def aip:=@List.getLast?_eq_some_getLast
def P9:=@List.getLast?_singleton
def dv:=@List.length_append
def ks:=@List.length_cons
def jO:=@List.length_drop
def aiq:=@List.length_eq_one_iff
def zV:=@List.length_eq_zero_iff
def e9:=@List.length_map
def DT:=@List.length_nil
def XT:=@List.length_range
def kU:=@List.length_replicate
def hy:=@List.length_set
def x8:=@List.length_singleton
def eL:=@List.length_take
def XU:=@List.mapM_cons
def zW:=@List.map_append
def GX:=@List.map_congr_left
def tp:=@List.map_cons
def XV:=@List.map_id'
def rh:=@List.map_map
def P':=@List.map_set
def GY:=@List.map_take
def mm:=@List.mem_append
def tq:=@List.mem_append_left
def j7:=@List.mem_append_right
def fs:=@List.mem_cons
def XW:=@List.mem_cons_of_mem
def nK:=@List.mem_iff_getElem?
def lf:=@List.mem_map
def dq:=@List.mem_of_getElem?
def air:=@List.mem_of_mem_drop
def DU:=@List.mem_of_mem_take
def Lp:=@List.mem_or_eq_of_mem_set
def XX:=@List.mem_range
def Bu:=@List.mem_singleton
def nL:=@List.nil_append
def kt:=@List.nil_sublist
def Lq:=@List.nodup_append
def uL:=@List.nodup_cons
def Lr:=@List.not_mem_nil
def ais:=@List.pairwise_singleton
def ia:=@List.perm_append_comm
def Ls:=@List.perm_append_comm_assoc
def wm:=@List.perm_append_singleton
def Bv:=@List.perm_middle
def ait:=@List.range_eq_range'
def Lt:=@List.replicate_succ
def XY:=@List.set_append_left
def GZ:=@List.set_append_right
def G0:=@List.set_cons_zero
def XZ:=@List.set_eq_take_append_cons_drop
def aiu:=@List.singleton_append
def X0:=@List.size_toArray
def oB:=@List.sublist_append_left
def DV:=@List.sublist_append_right
def X1:=@List.sum_append
def lg:=@List.sum_cons
def ly:=@List.take_add_one
def Lu:=@List.take_append_drop
def aiv:=@List.take_append_of_le_length
def X2:=@List.take_left
def uM:=@List.take_length
def ft:=@List.take_of_length_le
def Qa:=@List.take_set_of_le
def X3:=@List.take_sublist
def G1:=@List.take_succ_cons
def qq:=@List.take_take
def ku:=@List.take_zero
def aiz:=@Nat.Coprime.coprime_dvd_left
def Qb:=@Nat.Coprime.coprime_dvd_right
def aiA:=@Nat.Coprime.dvd_of_dvd_mul_left
def DW:=@Nat.add_assoc
def G3:=@Nat.add_comm
def g':=@Nat.add_mul
def aiB:=@Nat.add_mul_div_left
def zX:=@Nat.add_sub_cancel
def aiC:=@Nat.add_sub_cancel_left
def pc:=@Nat.add_zero
def ix:=@Nat.beq_refl
def nc:=@Nat.ble_eq_true_of_le
def Lv:=@Nat.coprime_div_gcd_div_gcd
def Qc:=@Nat.coprime_one_right
def uO:=@Nat.div_add_mod
def G4:=@Nat.div_eq_of_lt
def si:=@Nat.div_le_self
def wo:=@Nat.div_lt_iff_lt_mul
def X6:=@Nat.dvd_iff_mod_eq_zero
def aiD:=@Nat.dvd_of_mod_eq_zero
def DX:=@Nat.dvd_trans
def eM:=@Nat.eq_of_beq_eq_true
def aiE:=@Nat.eq_of_testBit_eq
def uP:=@Nat.eq_or_lt_of_le
def oC:=@Nat.eq_zero_or_pos
def uQ:=@Nat.gcd_comm
def tr:=@Nat.gcd_dvd_left
def uR:=@Nat.gcd_dvd_right
def Qd:=@Nat.gcd_le_right
def aiF:=@Nat.gcd_pos_of_pos_left
def wq:=@Nat.gcd_pos_of_pos_right
def G5:=@Nat.gcd_rec
def aiG:=@Nat.gcd_sub_self_right
def G6:=@Nat.gcd_zero_right
def X7:=@Nat.le_add_right
def Lw:=@Nat.le_div_iff_mul_le
def X8:=@Nat.le_mul_of_pos_left
def aiH:=@Nat.le_mul_of_pos_right
def iE:=@Nat.le_of_ble_eq_true
def X9:=@Nat.le_of_dvd
def G7:=@Nat.le_of_eq
def G8:=@Nat.le_of_lt
def G9:=@Nat.le_of_not_lt
def b2:=@Nat.le_refl
def dT:=@Nat.le_trans
def DY:=@Nat.lt_irrefl
def jg:=@Nat.lt_of_le_of_lt
def kw:=@Nat.lt_of_lt_of_le
def X':=@Nat.lt_of_mul_lt_mul_right
def Qe:=@Nat.lt_of_not_le
def ha:=@Nat.lt_or_ge
def Bz:=@Nat.lt_trans
def gv:=@Nat.min_eq_left
def G':=@Nat.mod_add_div
def wu:=@Nat.mod_eq_of_lt
def lh:=@Nat.mod_lt
def Qf:=@Nat.mod_two_eq_zero_or_one
def hV:=@Nat.mul_add
def lY:=@Nat.mul_assoc
def hn:=@Nat.mul_comm
def wv:=@Nat.mul_div_cancel
def BA:=@Nat.mul_div_cancel_left
def Ya:=@Nat.mul_div_mul_right
def zY:=@Nat.mul_le_mul
def DZ:=@Nat.mul_le_mul_left
def hJ:=@Nat.mul_le_mul_right
def D1:=@Nat.mul_left_comm
def aiI:=@Nat.mul_lt_mul_of_lt_of_le
def Yb:=@Nat.mul_lt_mul_of_pos_right
def aiJ:=@Nat.mul_lt_mul_right
def aiK:=@Nat.mul_mod_mul_right
def jr:=@Nat.mul_one
def ib:=@Nat.mul_pos
def sj:=@Nat.mul_zero
def jP:=@Nat.ne_of_gt
def Ha:=@Nat.ne_of_lt
def D2:=@Nat.not_lt_zero
def wx:=@Nat.one_mul
def Hb:=@Nat.pos_of_ne_zero
def sk:=@Nat.pow_add
def Qg:=@Nat.pow_le_pow_left
def nd:=@Nat.pow_le_pow_right
def Hc:=@Nat.pow_mul
def D3:=@Nat.pow_one
def wy:=@Nat.pow_pos
def lz:=@Nat.pow_succ
def Lx:=@Nat.pow_zero
def Yc:=@Nat.shiftLeft_eq
def Ly:=@Nat.sub_add_cancel
def pL:=@Nat.sub_self
def Hd:=@Nat.sub_zero
def x':=@Nat.succ_le_iff
def nf:=@Nat.succ_mul
def Yd:=@Nat.testBit_succ
def wz:=@Nat.two_pow_pos
def j8:=@Nat.zero_add
def c6:=@Nat.zero_le
def nM:=@Nat.zero_mul
def aiM:=@Option.bind_eq_some_iff
def Ye:=@Option.bind_some
def Yf:=@Option.getD_some
def ri:=@Option.map_eq_some_iff
def Lz:=@Option.map_some
def LA:=@Option.some.inj
def cb:=@Option.some.injEq
def Yg:=@Option.toList_some
def c8:=@Prod.mk.injEq
def LQ:=@and_self
def QO:=@beq_false
def dQ:=@cond_false
def cd:=@cond_true
def dh:=@congrArg
def u3:=@decide_eq_decide
def g5:=@decide_eq_false
def RA:=@decide_eq_false_iff_not
def lm:=@decide_eq_true
def Mr:=@decide_eq_true_eq
def Eu:=@decide_eq_true_iff
def y8:=@if_false
def aG:=@if_neg
def aP:=@if_pos
def NS:=@if_true
def OE:=@of_decide_eq_true
def I:=@rfl
end
end Go
namespace Go.Cre
noncomputable section
inductive aZ (α:Type) where
 |leaf
 |node (v:Option α) (l r:aZ α)
def aZ.get {α:Type}(t:aZ α):Nat->Option α:=
 aZ.rec (motive:=fun _=>Nat->Option α) (fun _=>none)
  (fun v _ _ l r n=>Nat.rec (motive:=fun _=>Option α) v (fun m _=>Bool.rec (motive:=fun _=>Option α) (r (Nat.div m 2)) (l (Nat.div m 2)) (Nat.beq (Nat.mod m 2) 0)) n) t
def aZ.left {α:Type}(v:Option α)(r:aZ α)(l:Option (aZ α)):Option (aZ α):=Option.rec (motive:=fun _=>Option (aZ α)) none (fun l=>some (.node v l r)) l
def aZ.right {α:Type}(v:Option α)(l:aZ α)(r:Option (aZ α)):Option (aZ α):=Option.rec (motive:=fun _=>Option (aZ α)) none (fun r=>some (.node v l r)) r
def aZ.put {α:Type}(a:α)(t:aZ α):Nat->Option (aZ α):=
 aZ.rec (motive:=fun _=>Nat->Option (aZ α))
  (fun n=>Nat.rec (motive:=fun _=>Option (aZ α)) (some (.node (some a) .leaf .leaf)) (fun _ _=>none) n)
  (fun v l r pl tb n=>Nat.rec (motive:=fun _=>Option (aZ α)) (some (.node (some a) l r))
   (fun m _=>Bool.rec (motive:=fun _=>Option (aZ α)) (aZ.right v l (tb (Nat.div m 2))) (aZ.left v r (pl (Nat.div m 2))) (Nat.beq (Nat.mod m 2) 0)) n) t
def aZ.set {α:Type}(_:Nat)(t:aZ α)(n:Nat)(a:α):Option (aZ α):=aZ.put a t n
def aZ.full {α:Type}(a:α)(d:Nat):aZ α:=Nat.rec (motive:=fun _=>aZ α) .leaf (fun _ t=>.node (some a) t t) d
def Gn:Nat:=64
structure qj where
 state:LoopState
 pending:Option Code
 T:aZ Value
 n:Nat
 params:List Tmp
 assign:Code
 body:Code
 g6:Nat
inductive fP where
 |row (cells:List Value) (elem:TypeId) (opn:Bool) (bF:Nat) (ek:Nat) (sh:Bool)
 |map (es:List MapEntry) (clock:Nat)
 |loop (l:qj)
 |g6 (ds:Option (List Deferred))
 |dead
structure aw where
 mem:aZ fP
 ao:Nat
 bF:aZ (List Nat)
 cC:Nat
 bJ:Nat
structure aY where
 T:aZ Value
 n:Nat
 ds:List Deferred
 bQ:Bool
 bg:FrameMode
 cx:Option Nat
def cK:Nat:=1208925819614629174706176
def u':Nat:=1208925819614629174706176
def aw.agZ (ao:Nat)(bF:aZ (List Nat))(cC bJ:Nat):Option (aZ fP)->Option aw
 |some m=>some ⟨m,ao,bF,cC,bJ⟩
 |none=>none
def aw.upd (H:aw)(id:Nat)(b:fP):Option aw:=
 match H with
 |⟨mem,ao,bF,cC,bJ⟩=>aw.agZ ao bF cC bJ (aZ.put b mem id)
def aw.aee (ao:Nat)(bF:aZ (List Nat))(cC bJ:Nat)(m:aZ fP):Nat->Option (Nat×aw)
 |0=>none
 |n+1=>some (ao,⟨m,n+1,bF,cC,bJ⟩)
def aw.Vo (ao:Nat)(bF:aZ (List Nat))(cC bJ:Nat):Option (aZ fP)->Option (Nat×aw)
 |some m=>aw.aee ao bF cC bJ m (Nat.succ ao)
 |none=>none
def aw.new (H:aw)(b:fP):Option (Nat×aw):=
 match H with
 |⟨mem,ao,bF,cC,bJ⟩=>aw.Vo ao bF cC bJ (aZ.put b mem ao)
def aw.af2 (mem:aZ fP)(ao cC bJ:Nat):Option (aZ (List Nat))->Option aw
 |some f=>some ⟨mem,ao,f,cC,bJ⟩
 |none=>none
def aw.td (H:aw)(f:Nat)(l:List Nat):Option aw:=
 match H with
 |⟨mem,ao,bF,cC,bJ⟩=>aw.af2 mem ao cC bJ (aZ.put l bF f)
def aw.aef (mem:aZ fP)(ao:Nat)(bF:aZ (List Nat))(cC bJ:Nat):Nat->Option (Nat×aw)
 |0=>none
 |n+1=>some (cC,⟨mem,ao,bF,n+1,bJ⟩)
def aw.Vp (mem:aZ fP)(ao cC bJ:Nat):Option (aZ (List Nat))->Option (Nat×aw)
 |some f=>aw.aef mem ao f cC bJ (Nat.succ cC)
 |none=>none
def aw.xC (H:aw):Option (Nat×aw):=
 match H with
 |⟨mem,ao,bF,cC,bJ⟩=>aw.Vp mem ao cC bJ (aZ.put [ao] bF cC)
def aw.pA (H:aw)(cells:List Value)(elem:TypeId)(sh:Bool):Option (Nat×aw):=
 match H.xC with
 |some (f,H)=>H.new (.row cells elem true f 0 sh)
 |none=>none
def jz:Nat->Value->Bool
 |0,_=>false
 |n+1,v=>
  match v with
  |.bool _|.int _ _|.float _ _|.string _|.nilFunc|.nilIface=>true
  |.pointer none|.slice none _ _|.map none=>true
  |.iface _ v=>jz n v
  |.agg cs=>cs.toList.all (jz n)
  |.tuple cs=>cs.toList.all (jz n)
  |.func (.func _) a b=>a.isEmpty&&b.isEmpty
  |_=>false
def plain (v:Value):Bool:=jz 8 v
def nth {α:Type}(l:List α):Nat->Option α:=
 List.rec (motive:=fun _=>Nat->Option α) (fun _=>none) (fun a _ r n=>Nat.rec (motive:=fun _=>Option α) (some a) (fun m _=>r m) n) l
def qH {α:Type}(n:Nat)(l:List α):List α:=
 List.rec (motive:=fun _=>Nat->List α) (fun _=>[]) (fun a t r n=>Nat.rec (motive:=fun _=>List α) (a::t) (fun m _=>r m) n) l n
def takeN {α:Type}:Nat->List α->Option (List α)
 |0,_=>some []
 |_+1,[]=>none
 |n+1,a::l=>match takeN n l with|some r=>some (a::r)|none=>none
def gO {α:Type}:Nat->List α->List α->Option (List α)
 |0,l,[]=>some l
 |0,[],_::_=>none
 |0,_::l,v::vs=>match gO 0 l vs with|some r=>some (v::r)|none=>none
 |_+1,[],_=>none
 |n+1,a::l,vs=>match gO n l vs with|some r=>some (a::r)|none=>none
def fx:Value->Bool
 |.agg _=>false
 |.tuple _=>false
 |_=>true
def fw {α:Type}(P:Program):Sem α->Option α
 |.pure a=>some a
 |.program k=>fw P (k P)
 |.mark _ k=>fw P k
 |_=>none
def F7 (H:aw)(g:Nat):Option Value:=
 bif Nat.blt g H.bJ then(match H.mem.get g with|some (.row _ _ _ _ _ _)=>some (.pointer (some ⟨g,0,none⟩))|_=>none) else none
def VN (v:Value):Option Value:=bif plain v then some v else none
def a5 (T:aZ Value)(H:aw)(x:Operand):Option Value:=
 Operand.rec (motive:=fun _=>Option Value) (fun t=>T.get t) VN (F7 H) (fun f=>some (.func (.func f) #[] #[])) x
def gp (T:aZ Value)(H:aw):List Operand->Option (List Value)
 |[]=>some []
 |x::l=>match a5 T H x with
  |some v=>match gp T H l with|some vs=>some (v::vs)|none=>none
  |none=>none
def tu (P:Program)(t:TypeId):Option (Option Nat):=
 match P.info? t with
 |none=>none
 |some i=>match P.underlying t with
  |some (.struct _)=>some (some i.size)
  |some (.array _ _)=>some (some i.size)
  |some _=>some none
  |none=>none
def e6 (P:Program)(t:TypeId):Option Nat:=match P.info? t with|some i=>some i.size|none=>none
def h2 (P:Program)(t:TypeId):Option Value:=match P.info? t with|some i=>i.zero|none=>none
def wL (P:Program)(t:TypeId):Option Nat:=match P.info? t with|some i=>some i.bytes|none=>none
def n8 (P:Program)(t:TypeId)(cs:List Value)(off:Nat):Option Value:=
 match tu P t with
 |some (some n)=>match takeN n (qH off cs) with|some l=>some (.agg l.toArray)|none=>none
 |some none=>nth cs off
 |none=>none
def ED (P:Program)(H:aw)(t:TypeId)(a:Addr):Option Value:=
 match a.spot with
 |some _=>none
 |none=>match H.mem.get a.block with
  |some (.row cells _ _ _ _ _)=>n8 P t cells a.off
  |_=>none
def BU (P:Program)(H:aw)(t:TypeId):Value->Option Value
 |.pointer (some a)=>ED P H t a
 |_=>none
def uc (H:aw)(qW:Nat):List Nat->Option aw
 |[]=>some H
 |x::l=>bif Nat.beq x qW then uc H qW l else
  match H.upd x .dead with|some H=>uc H qW l|none=>none
def AL (H:aw)(id bF:Nat):Option aw:=
 match H.bF.get bF with
 |none=>none
 |some l=>
  match uc H id l with
  |none=>none
  |some H=>H.td bF [id]
def tC (H:aw)(id off:Nat)(vs:List Value):Option aw:=
 match vs with
 |[]=>some H
 |_=>bif Nat.blt id H.bJ then none else
  match H.mem.get id with
  |some (.row cells elem opn bF ek sh)=>
   bif Nat.ble ek off&&vs.all fx then
    match gO off cells vs with
    |none=>none
    |some cells=>
     match H.upd id (.row cells elem opn bF ek sh) with
     |none=>none
     |some H=>bif opn then AL H id bF else some H
   else none
  |_=>none
def BW (P:Program)(H:aw)(t:TypeId)(p v:Value):Option aw:=
 match p with
 |.pointer (some a)=>match a.spot with
  |some _=>none
  |none=>match e6 P t with
   |some n=>bif Nat.beq v.cells.toList.length n then tC H a.block a.off v.cells.toList else none
   |none=>none
 |_=>none
def vI (H:aw)(elem:TypeId)(cells:List Value):Option (Nat×aw):=H.new (.row cells elem false 0 0 false)
def yx (H:aw)(elem:TypeId)(v:Value):Option (Value×aw):=
 bif v.cells.toList.all fx then
  match vI H elem v.cells.toList with
  |some (id,H)=>some (.pointer (some ⟨id,0,none⟩),H)
  |none=>none
 else none
def Ib (P:Program)(s:TypeId)(p:Value)(field:Nat):Option Value:=
 match p with
 |.pointer (some a)=>match a.spot with
  |some _=>none
  |none=>match P.underlying s with
   |some (.struct fields)=>match fields[field]? with
    |some f=>match e6 P f.type with
     |some (_+1)=>some (.pointer (some ⟨a.block,a.off+f.offset,none⟩))
     |_=>none
    |none=>none
   |_=>none
 |_=>none
def vB (i:Int)(len:Nat):Option Nat:=
 match i with
 |.ofNat n=>bif Nat.blt n len then some n else none
 |.negSucc _=>none
def rV (i:Int)(len:Nat):Option Nat:=
 match i with
 |.ofNat n=>bif Nat.ble n len then some n else none
 |.negSucc _=>none
def yA (P:Program)(t:TypeId)(x dM:Value):Option Value:=
 match dM with
 |.int _ i=>
  match P.underlying t,x with
  |some (.array len elem),.pointer (some a)=>match a.spot with
   |some _=>none
   |none=>match vB i len,e6 P elem with
    |some n,some sz=>some (.pointer (some ⟨a.block,a.off+n*sz,none⟩))
    |_,_=>none
  |some (.slice elem),.slice (some a) len _=>match a.spot with
   |some _=>none
   |none=>match vB i len,e6 P elem with
    |some n,some sz=>some (.pointer (some ⟨a.block,a.off+n*sz,none⟩))
    |_,_=>none
  |_,_=>none
 |_=>none
def l2 (d:Nat)(top:Nat):Option Value->Option Nat
 |none=>some d
 |some (.int _ i)=>rV i top
 |some _=>none
def l4 (P:Program)(H:aw)(t:TypeId)(x:Value)(lo hi:Option Value):Option Value:=
 match P.underlying t,x with
 |some (.array n elem),.pointer (some a)=>match a.spot with
  |some _=>none
  |none=>match e6 P elem with
   |none=>none
   |some sz=>bif !Nat.blt n cK then none else match l2 n n hi with
    |none=>none
    |some h=>match l2 0 h lo with
     |none=>none
     |some l=>some (.slice (some (bif Nat.beq n l then a else⟨a.block,a.off+l*sz,none⟩)) (Nat.sub h l) (Nat.sub n l))
 |some (.slice elem),.slice (some a) len cap=>match a.spot with
  |some _=>none
  |none=>match e6 P elem with
   |none=>none
   |some sz=>
    bif Nat.beq cap cK then
     match H.mem.get a.block with
     |some (.row _ el _ _ _ _)=>bif !Nat.beq el elem then none else
      (match l2 len len hi with
      |none=>none
      |some h=>match l2 0 h lo with
       |none=>none
       |some l=>some (.slice (some ⟨a.block,a.off+l*sz,none⟩) (Nat.sub h l) cK))
     |_=>none
    else
     match l2 len cap hi with
     |none=>none
     |some h=>match l2 0 h lo with
      |none=>none
      |some l=>some (.slice (some (bif Nat.beq cap l then a else⟨a.block,a.off+l*sz,none⟩)) (Nat.sub h l) (Nat.sub cap l))
 |_,_=>none
def Xl (v:Value)(n:Nat):List Value:=Nat.rec (motive:=fun _=>List Value) [] (fun _ aC=>v::aC) n
def aBo (z:List Value)(n:Nat):List Value:=Nat.rec (motive:=fun _=>List Value) [] (fun _ aC=>z++aC) n
def fp (z:List Value)(n:Nat):List Value:=
 match z with
 |[]=>[]
 |[v]=>Xl v n
 |a::b::z=>aBo (a::b::z) n
def Ic (P:Program)(H:aw)(t:TypeId)(l c:Value):Option (Value×aw):=
 match l,c,P.underlying t with
 |.int _ l,.int _ c,some (.slice elem)=>
  match h2 P elem,wL P elem,e6 P elem with
  |some z,some jR,some sz=>
   match rV c 1000000,rV l 1000000 with
   |some c,some l=>
    bif Nat.ble l c&&Nat.ble jR 1000000&&Nat.beq z.cells.toList.length sz&&z.cells.toList.all fx&&plain z then
     match vI H elem (fp z.cells.toList c) with
     |some (id,H)=>some (.slice (some ⟨id,0,none⟩) l c,H)
     |none=>none
    else none
   |_,_=>none
  |_,_,_=>none
 |_,_,_=>none
def kB (H:aw)(sz n:Nat):Value->Option (List Value)
 |.slice (some a) _ _=>match n with
  |0=>some []
  |_=>match a.spot with
   |some _=>none
   |none=>match H.mem.get a.block with
    |some (.row cells _ _ _ _ _)=>takeN (n*sz) (qH a.off cells)
    |_=>none
 |.slice none _ _=>match n with|0=>some []|_=>none
 |.string s=>match takeN n s.data.toList with
  |some l=>some (l.map fun b=>.int .u8 b.toNat)
  |none=>none
 |_=>none
def s4:Value->Option Nat
 |.slice _ n _=>some n
 |.string s=>some s.data.toList.length
 |_=>none
def Af (H:aw)(id:Nat):List Nat->Option (List Nat×aw)
 |[]=>none
 |x::l=>bif Nat.beq x id then some (x::l,H) else
  match H.upd x .dead with|some H=>Af H id l|none=>none
def HT (H:aw)(l:List Nat)(same:Bool):Option (List Nat×aw):=
 bif same then some (l,H) else(match uc H H.ao l with|some H=>some ([],H)|none=>none)
def fresh (H:aw)(elem:TypeId)(cells:List Value)(len:Nat):Option (Value×aw):=
 match H.pA cells elem false with
 |some (id,H)=>some (.slice (some ⟨id,0,none⟩) len cK,H)
 |none=>none
def AS:Option Addr->Bool
 |some a=>(match a.spot with|none=>true|some _=>false)
 |none=>true
def rB (P:Program)(H:aw)(ts:TypeId)(s x:Value):Option (Value×aw):=
 match P.underlying ts,s with
 |some (.slice elem),.slice base dm jn=>
  match e6 P elem,wL P elem,h2 P elem,s4 x with
  |some sz,some jR,some z,some n=>
   bif !(Nat.ble (dm+n) 1000000&&Nat.ble jR 1000000&&Nat.beq z.cells.toList.length sz) then none else
   match kB H sz n x with
   |none=>none
   |some new=>
    bif !(new.all fx&&Nat.beq new.length (n*sz)) then none else
    bif Nat.beq jn cK then
     match base with
     |some a=>match a.spot with
      |some _=>none
      |none=>match H.mem.get a.block with
       |some (.row cells el true bF ek sh)=>
        bif !(Nat.beq el elem&&!Nat.blt a.block H.bJ&&Nat.ble ek (a.off+dm*sz)) then none else
        bif Nat.beq n 0 then some (s,H) else
        bif !(Nat.beq a.off 0) then none else
        match takeN (dm*sz) cells with
        |none=>none
        |some ed=>
         match H.bF.get bF with
         |none=>none
         |some l=>
          match Af H a.block l with
          |none=>none
          |some (l,H)=>
           match HT H l (Nat.beq cells.length (dm*sz)) with
           |none=>none
           |some (l,H)=>
            match H.td bF (H.ao::l) with
            |none=>none
            |some H=>match H.new (.row (ed++new) elem true bF ek sh) with
             |some (id,H)=>some (.slice (some ⟨id,0,none⟩) (dm+n) cK,H)
             |none=>none
       |_=>none
     |none=>none
    else
     bif Nat.ble (dm+n) jn then
      match base with
      |none=>bif Nat.beq n 0 then some (s,H) else none
      |some a=>match a.spot with
       |some _=>none
       |none=>match tC H a.block (a.off+dm*sz) new with
        |some H=>some (.slice base (dm+n) jn,H)
        |none=>none
     else
      bif AS base then
       match kB H sz dm s with
       |none=>none
       |some ed=>bif Nat.beq ed.length (dm*sz) then fresh H elem (ed++new) (dm+n) else none
      else none
  |_,_,_,_=>none
 |_,_=>none
def RR (P:Program)(H:aw)(tg:TypeId)(d s:Value):Option (Value×aw):=
 match P.underlying tg,d,s4 s with
 |some (.slice elem),.slice base wQ _,some dm=>
  match e6 P elem with
  |none=>none
  |some sz=>
   let n:=bif Nat.ble dm wQ then dm else wQ
   match kB H sz n s with
   |none=>none
   |some cells=>match base with
    |none=>some (.int .i64 n,H)
    |some a=>match a.spot with
     |some _=>none
     |none=>bif !(cells.all fx) then none else match tC H a.block a.off cells with
      |some H=>some (.int .i64 n,H)
      |none=>none
 |_,_,_=>none
def RP (P:Program)(H:aw)(t:TypeId)(x:Value):Option (Value×aw):=
 match P.underlying t,x with
 |some _,.slice none _ _=>some (.tuple #[],H)
 |some _,.slice (some _) 0 _=>some (.tuple #[],H)
 |some (.slice elem),.slice (some a) (n+1) _=>(match a.spot,h2 P elem with
  |none,some z=>bif plain z then(match tC H a.block a.off (fp z.cells.toList (n+1)) with
   |some H=>some (.tuple #[],H)
   |none=>none) else none
  |_,_=>none)
 |_,_=>none
def places (P:Program):List Field->Option (List (Nat×Nat))
 |[]=>some []
 |f::l=>match e6 P f.type,places P l with
  |some n,some r=>some ((f.offset,n)::r)
  |_,_=>none
def oN (place:Nat->Option (Nat×Nat)):List Value->List (Nat×Value)->Option (List Value)
 |cells,[]=>some cells
 |cells,(i,v)::rest=>match place i with
  |none=>none
  |some (off,size)=>bif Nat.beq v.cells.toList.length size then
   (match gO off cells v.cells.toList with
    |some cells=>oN place cells rest
    |none=>none)
   else none
def H7 (P:Program)(t:TypeId)(parts:List (Nat×Value)):Option Value:=
 match h2 P t,P.underlying t with
 |some z,some (.struct fields)=>bif plain z then
  match places P fields.toList with
  |some ps=>match oN (nth ps) z.cells.toList parts with
   |some cells=>some (.agg cells.toArray)
   |none=>none
  |none=>none
  else none
 |some z,some (.array _ elem)=>bif plain z then
  match e6 P elem with
  |some sz=>match oN (fun i=>some (i*sz,sz)) z.cells.toList parts with
   |some cells=>some (.agg cells.toArray)
   |none=>none
  |none=>none
  else none
 |_,_=>none
def H8 (P:Program)(H:aw)(t:TypeId)(len:Nat)(parts:List (Nat×Value)):Option (Value×aw):=
 match P.underlying t with
 |some (.slice elem)=>match e6 P elem,h2 P elem with
  |some sz,some z=>
   bif Nat.ble len 100000&&Nat.ble (len*sz) 100000&&plain z&&Nat.beq z.cells.toList.length sz then
    match oN (fun i=>some (i*sz,sz)) (fp z.cells.toList len) parts with
    |some cells=>bif cells.all fx then
     (match vI H elem cells with
      |some (id,H)=>some (.slice (some ⟨id,0,none⟩) len len,H)
      |none=>none)
     else none
    |none=>none
   else none
  |_,_=>none
 |_=>none
def mH (T:aZ Value)(H:aw):List (Nat×Operand)->Option (List (Nat×Value))
 |[]=>some []
 |(i,x)::l=>match a5 T H x with
  |some v=>match mH T H l with|some r=>some ((i,v)::r)|none=>none
  |none=>none
def EH (P:Program)(x:Value)(asserted:TypeId)(ok:Bool):Option Value:=
 let Mz:Option Value:=bif ok then(match h2 P asserted with|some z=>bif plain z then some (.tuple #[z,.bool false]) else none|none=>none) else none
 match P.underlying asserted,x with
 |some (.interface _),.nilIface=>Mz
 |some (.interface want),.iface t _=>match P.info? t with
  |some i=>match Instr.missingMethod want i.methods with
   |none=>some (bif ok then .tuple #[x,.bool true] else x)
   |some _=>Mz
  |none=>none
 |some _,.nilIface=>Mz
 |some _,.iface t v=>bif Nat.beq t asserted then some (bif ok then .tuple #[v,.bool true] else v) else Mz
 |_,_=>none
def RQ (P:Program)(H:aw)(src dst:TypeId)(x:Value):Option Value:=
 match P.underlying src,P.underlying dst,x with
 |some (.pointer t),some .unsafePointer,.pointer (some a)=>(match a.spot,e6 P t,H.mem.get a.block with
  |none,some (_+1),some (.row cells _ _ _ _ _)=>bif Nat.blt a.off cells.length then some x else none
  |_,_,_=>none)
 |some .unsafePointer,some (.pointer u),.pointer (some a)=>(match a.spot,e6 P u,H.mem.get a.block with
  |none,some (_+1),some (.row cells e false _ _ _)=>bif liesAt P P.depth e (cells.length / P.cellsOf e) a.off u 1 then some x else none
  |_,_,_=>none)
 |_,_,_=>none
def rr:List Value->Option (List UInt8)
 |[]=>some []
 |.int .u8 (.ofNat n)::l=>bif Nat.blt n 256 then(match rr l with|some r=>some (UInt8.ofNat n::r)|none=>none) else none
 |_::_=>none
def EG (P:Program)(H:aw)(src dst:TypeId)(x:Value):Option Value:=
 match P.underlying src,P.underlying dst,x with
 |some (.slice e),some .string,.slice (some a) len _=>bif !(AS (some a)) then none else(match P.underlying e with
  |some (.int .u8)=>(match kB H 1 len (.slice (some a) len 0) with
   |some cells=>(match rr cells with
    |some bs=>some (.string ⟨bs.toArray⟩)
    |none=>none)
   |none=>none)
  |_=>none)
 |some (.slice e),some .string,.slice none _ _=>(match P.underlying e with
  |some (.int .u8)=>some (.string .empty)
  |_=>none)
 |_,_,_=>none
def isByte (v:Value):Bool:=match v with
 |.int .u8 (.ofNat n)=>Nat.blt n 256
 |_=>false
def byteOf (v:Value):UInt8:=match v with
 |.int .u8 (.ofNat n)=>UInt8.ofNat n
 |_=>0
def avv (l:List Value):Option (List Value):=List.rec (motive:=fun _=>Option (List Value)) none (fun v t _=>Bool.rec (motive:=fun _=>Option (List Value)) none (some t) (isByte v)) l
def yt (k:Nat):List Value->Option (List Value):=
 Nat.rec (motive:=fun _=>List Value->Option (List Value)) avv (fun _ aC l=>Option.rec (motive:=fun _=>Option (List Value)) none aC (aC l)) k
def BO (k:Nat):Nat->List Value->Bool:=
 Nat.rec (motive:=fun _=>Nat->List Value->Bool) (fun n _=>Nat.beq n 0)
  (fun k aC n l=>Bool.rec (motive:=fun _=>Bool) (Option.rec (motive:=fun _=>Bool) false (fun r=>aC (Nat.sub n (Nat.pow 2 k)) r) (yt k l)) (aC n l) (Nat.blt n (Nat.pow 2 k))) k
def agD (n:Nat)(l:List Value):List UInt8:=
 List.rec (motive:=fun _=>Nat->List UInt8) (fun _=>[]) (fun v _ aC n=>Nat.rec (motive:=fun _=>List UInt8) [] (fun m _=>byteOf v::aC m) n) l n
def agI (len:Nat)(cells:List Value):Option Value:=bif BO 21 len cells then some (.string ⟨(agD len cells).toArray⟩) else none
def RU (P:Program)(H:aw)(src dst:TypeId)(x:Value):Option Value:=
 match P.underlying src,P.underlying dst,x with
 |some (.slice e),some .string,.slice (some a) len _=>(match P.underlying e,a.spot,H.mem.get a.block with
  |some (.int .u8),none,some (.row cells _ _ _ _ _)=>agI len (qH a.off cells)
  |_,_,_=>none)
 |_,_,_=>none
def U1 (x:Value):Bool:=match x with
 |.slice _ len _=>Nat.blt 256 len
 |_=>false
def RT (P:Program)(H:aw)(src dst:TypeId)(x:Value):Option Value:=
 bif U1 x then RU P H src dst x else EG P H src dst x
def isNil {α:Type}(l:List α):Bool:=List.rec (motive:=fun _=>Bool) true (fun _ _ _=>false) l
def amG {α:Type}(l:List α):Option (List α):=List.rec (motive:=fun _=>Option (List α)) none (fun _ t _=>some t) l
def yr {α:Type}(k:Nat):List α->Option (List α):=
 Nat.rec (motive:=fun _=>List α->Option (List α)) amG (fun _ aC l=>Option.rec (motive:=fun _=>Option (List α)) none aC (aC l)) k
def BP {α:Type}(k:Nat):Nat->List α->Option Nat:=
 Nat.rec (motive:=fun _=>Nat->List α->Option Nat) (fun n l=>Bool.rec (motive:=fun _=>Option Nat) none (some n) (isNil l))
  (fun k aC n l=>Option.rec (motive:=fun _=>Option Nat) (aC n l) (fun r=>aC (Nat.add n (Nat.pow 2 k)) r) (yr k l)) k
def N8 {α:Type}(l:List α):Option Nat:=bif isNil (qH 256 l) then some l.length else
 match BP 17 0 l with
 |some n=>some n
 |none=>match BP 21 0 l with
  |some n=>some n
  |none=>some l.length
def strCells (l:List UInt8):List Value:=List.rec (motive:=fun _=>List Value) [] (fun b _ r=>Value.int .u8 (.ofNat b.toNat)::r) l
def anu (n:Nat):Option (Nat×aw)->Option (Value×aw)
 |some (id,H)=>some (.slice (some ⟨id,0,none⟩) n cK,H)
 |none=>none
def yB (P:Program)(H:aw)(src dst:TypeId)(s:ByteArray):Option (Value×aw):=
 match P.underlying src,P.underlying dst with
 |some .string,some (.slice e)=>(match P.underlying e with
  |some (.int .u8)=>bif Nat.beq (P.cellsOf e) 1 then anu s.data.toList.length (H.pA (strCells s.data.toList) e true) else none
  |_=>none)
 |_,_=>none
def RV (P:Program)(H:aw)(us:TypeId)(p n:Value):Option (Value×aw):=
 match p,n with
 |.pointer (some a),.int .i64 (.ofNat 0)=>(match a.spot with|none=>some (.string .empty,H)|some _=>none)
 |.pointer none,.int .i64 (.ofNat 0)=>some (.string .empty,H)
 |.pointer (some a),.int .i64 (.ofNat (n+1))=>(match a.spot,P.underlying us,H.mem.get a.block with
  |none,some (.pointer u),some (.row cells e opn bF ek sh)=>
   bif !(Nat.beq e u&&Nat.beq (P.cellsOf e) 1&&Nat.ble (n+1) 1000000&&!Nat.blt a.block H.bJ&&Nat.beq a.off 0&&!sh) then none else
   (match takeN (n+1) cells with
   |none=>none
   |some l=>(match rr l with
    |none=>none
    |some bs=>
     match H.upd a.block (.row cells e opn bF (bif sh then u' else Nat.max ek (n+1)) sh) with
     |some H=>(match(bif opn then AL H a.block bF else some H) with
      |some H=>some (.string ⟨bs.toArray⟩,H)
      |none=>none)
     |none=>none))
  |_,_,_=>none)
 |_,_=>none
def yz (P:Program)(t:TypeId)(x y:Value):Option Bool:=
 match P.underlying t,x,y with
 |some (.pointer _),.pointer none,.pointer b=>some b.isNone
 |some (.pointer _),.pointer (some _),.pointer none=>some false
 |some (.pointer elem),.pointer (some a),.pointer (some b)=>(match e6 P elem with
  |some (_+1)=>bif Nat.beq a.block b.block then some (a==b) else none
  |_=>none)
 |some (.slice _),.slice none _ _,.slice b _ _=>some b.isNone
 |some (.slice _),.slice (some _) _ _,.slice none _ _=>some false
 |some (.map _ _),.map none,.map b=>some b.isNone
 |some (.map _ _),.map (some _),.map none=>some false
 |some (.func _ _ _),.nilFunc,.func _ _ _=>some false
 |some (.func _ _ _),.func _ _ _,.nilFunc=>some false
 |some (.interface _),.nilIface,.iface _ _=>some false
 |some (.interface _),.iface _ _,.nilIface=>some false
 |_,_,_=>none
inductive cY where
 |val (v:Value) (H:aw)
 |skip (H:aw)
 |g6 (d:Deferred)
 |gN (chain:List PanicEntry) (H:aw)
 |A4
def hH (v:Option Value)(H:aw):Option cY:=Option.rec (motive:=fun _=>Option cY) none (fun v=>some (.val v H)) v
def ou:Option (Value×aw)->Option cY
 |some (v,H)=>some (.val v H)
 |none=>none
def M1:Option aw->Option cY
 |some H=>some (.skip H)
 |none=>none
def s' (T:aZ Value)(H:aw)(x:Operand):Value:=match a5 T H x with|some v=>v|none=>undef
def fQ (P:Program)(T:aZ Value)(H:aw)(o:Oper):Option cY:=
 match gp T H o.op.operands.toList with
 |none=>none
 |some vs=>bif vs.all plain then
  match fw P (execOp (s' T H) o) with
  |some (.value v)=>bif plain v then some (.val v H) else none
  |some .skip=>some (.skip H)
  |_=>none
  else none
def orElse (a b:Option cY):Option cY:=match a with|some x=>some x|none=>b
abbrev eW:=FuncId->List Value->aw->Option (Ending×aw)
abbrev hX:=Nat->List Value->aw->Option (Ending×aw)
def Aj (P:Program)(H:aw)(recv:Value)(name:String)(rest:List Value):Option (FuncId×List Value):=
 match recv with
 |.iface t v=>match P.info? t with
  |none=>none
  |some i=>match i.methods.find? (·.name==name) with
   |none=>none
   |some m=>bif !m.path.isEmpty then none else
    match m.func with
    |none=>none
    |some (f,tb)=>match P.underlying t,tb with
     |some (.pointer _),true=>some (f,v::rest)
     |some (.pointer _),false=>none
     |some _,false=>some (f,v::rest)
     |_,_=>none
 |_=>none
def kY (P:Program)(H:aw)(fn:Fn)(args captured:List Value):Option (FuncId×List Value):=
 match fn with
 |.func f=>some (f,args++captured)
 |.method name=>match args with|r::rest=>Aj P H r name rest|[]=>none
 |.methodOf t name=>match args with
  |r::rest=>match P.underlying t with
   |some (.interface _)=>Aj P H r name rest
   |some _=>Aj P H (.iface t r) name rest
   |none=>none
  |[]=>none
 |_=>none
def oL:Option (Ending×aw)->Option cY
 |some (.returned v,H)=>some (.val v H)
 |some (.panicked chain,H)=>some (.gN chain H)
 |_=>none
def GF:Option (Ending×aw)->Option cY
 |some (.returned v,H)=>some (.val v H)
 |some (.panicked chain,H)=>some (.gN chain H)
 |_=>none
def nj (P:Program)(call:eW)(aO:hX)(T:aZ Value)(H:aw)(c:Call):Option cY:=
 match gp T H c.args.toList with
 |none=>none
 |some args=>match c.callee with
  |.value f=>match a5 T H f with
   |some (.func (.yield l) first captured)=>bif first.isEmpty&&captured.isEmpty then GF (aO l args H) else none
   |some (.func fn first captured)=>match kY P H fn (first.toList++args) captured.toList with
    |some (f,bP)=>oL (call f bP H)
    |none=>none
   |_=>none
  |.invoke recv name=>match a5 T H recv with
   |some r=>match Aj P H r name args with
    |some (f,bP)=>oL (call f bP H)
    |none=>none
   |none=>none
  |.builtin _=>none
def sA {α:Type}(n:Int)(k:Int->α):α:=
 match n with
 |.ofNat 0=>k (.ofNat 0)
 |.ofNat (m+1)=>k (.ofNat (m+1))
 |.negSucc 0=>k (.negSucc 0)
 |.negSucc (m+1)=>k (.negSucc (m+1))
def q6 (H:aw)(k:IntKind)(n:Int):Option cY:=some (.val (.int k n) H)
def tB (P:Program)(S:aY)(H:aw)(o:Oper)(b:Builtin)(c:Call):Option cY:=
 match gp S.T H c.args.toList with
 |none=>none
 |some args=>match b,args,c.argTypes.toList with
  |.len,[.slice _ n _],[t]=>(match P.underlying t with
   |some (.slice _)=>some (.val (.int .i64 n) H)
   |_=>none)
  |.len,[.map (some r)],[t]=>(match P.underlying t with
   |some (.map _ _)=>(match H.mem.get r with
    |some (.map es _)=>some (.val (.int .i64 es.length) H)
    |_=>none)
   |_=>none)
  |.len,[.string s],[t]=>(match P.underlying t with
   |some .string=>(match N8 s.data.toList with|some n=>sA (.ofNat n) (q6 H .i64)|none=>none)
   |_=>none)
  |.append,[s,x],[ts,iA]=>(match P.underlying iA with
   |some (.int _)=>none
   |some _=>ou (rB P H ts s x)
   |none=>none)
  |.cap,[.slice (some _) _ c],[t]=>(match P.underlying t with
   |some (.slice _)=>bif Nat.beq c cK then none else some (.val (.int .i64 c) H)
   |_=>none)
  |.unsafeSliceData,[.slice (some a) len c],_=>bif Nat.beq c cK&&Nat.beq len 0 then none else bif Nat.beq c 0 then none else some (.val (.pointer (some a)) H)
  |.unsafeString,[p,n],[us,_]=>ou (RV P H us p n)
  |.copy,[d,s],[tg,_]=>ou (RR P H tg d s)
  |.clear,[x],[t]=>ou (RP P H t x)
  |.panic,[.iface t v],_=>some (.gN [{v:=.iface t v,recovered:=false}] H)
  |.recover,[],_=>some .A4
  |_,_,_=>fQ P S.T H o
def zm:Fn->Bool
 |.yield _=>false
 |_=>true
def Ia (aBD:Program)(T:aZ Value)(H:aw)(c:Call):Option cY:=
 match gp T H c.args.toList with
 |none=>none
 |some args=>match c.callee with
  |.value f=>match a5 T H f with
   |some (.func fn first captured)=>bif zm fn then some (.g6 {target:=.fn fn captured,args:=(first.toList++args).toArray}) else none
   |_=>none
  |.invoke recv name=>match a5 T H recv with
   |some r=>some (.g6 {target:=.fn (.method name) #[],args:=(r::args).toArray})
   |none=>none
  |.builtin _=>none
def iT (T:aZ Value)(H:aw):Option Operand->Option (Option Value)
 |none=>some none
 |some x=>match a5 T H x with|some v=>some (some v)|none=>none
structure eI where
 call:eW
 aO:hX
 S:aY
 H:aw
 o:Oper
def eI.a5 (X:eI)(x:Operand):Option Value:=Cre.a5 X.S.T X.H x
def eI.pC (P:Program)(X:eI):Option cY:=fQ P X.S.T X.H X.o
def aeF (P:Program)(X:eI)(x:Operand):Option cY:=hH (X.a5 x) X.H
def AZ (P:Program)(X:eI)(a b:Operand):Option Value->Option cY
 |some (.bool true)=>hH (X.a5 a) X.H
 |some (.bool false)=>hH (X.a5 b) X.H
 |_=>none
def avZ (P:Program)(X:eI)(c a b:Operand):Option cY:=AZ P X a b (X.a5 c)
def VL (P:Program)(X:eI)(elem:TypeId):Option Value->Option cY
 |some z=>bif plain z then ou (yx X.H elem z) else none
 |none=>none
def avH (P:Program)(X:eI)(elem:TypeId):Option cY:=VL P X elem (h2 P elem)
def Kg (P:Program)(X:eI)(elem:TypeId):Option Value->Option cY
 |some v=>ou (yx X.H elem v)
 |none=>none
def avJ (P:Program)(X:eI)(elem:TypeId)(x:Operand):Option cY:=Kg P X elem (X.a5 x)
def CY (P:Program)(X:eI)(t:TypeId):Option (List (Nat×Value))->Option cY
 |some ps=>hH (H7 P t ps) X.H
 |none=>none
def avK (P:Program)(X:eI)(t:TypeId)(parts:Array (Nat×Operand)):Option cY:=CY P X t (mH X.S.T X.H parts.toList)
def Kh (P:Program)(X:eI)(t:TypeId)(len:Nat):Option (List (Nat×Value))->Option cY
 |some ps=>ou (H8 P X.H t len ps)
 |none=>none
def avL (P:Program)(X:eI)(t:TypeId)(len:Nat)(parts:Array (Nat×Operand)):Option cY:=Kh P X t len (mH X.S.T X.H parts.toList)
def C1 (P:Program)(X:eI)(t:TypeId):Option Value->Option cY
 |some p=>hH (BU P X.H t p) X.H
 |none=>none
def avS (P:Program)(X:eI)(t:TypeId)(a:Operand):Option cY:=C1 P X t (X.a5 a)
def F6 (P:Program)(X:eI)(t:TypeId):Option Value->Option Value->Option cY
 |some p,some v=>M1 (BW P X.H t p v)
 |_,_=>none
def av1 (P:Program)(X:eI)(t:TypeId)(a x:Operand):Option cY:=F6 P X t (X.a5 a) (X.a5 x)
def C4 (P:Program)(X:eI):Option Value->Option cY
 |some (.pointer (some a))=>some (.val (.pointer (some a)) X.H)
 |some (.func (.func f) a b)=>some (.val (.func (.func f) a b) X.H)
 |some (.iface t v)=>some (.val (.iface t v) X.H)
 |_=>none
def avW (P:Program)(X:eI)(x:Operand):Option cY:=C4 P X (X.a5 x)
def vD:IntKind->Nat
 |.i8=>0|.i16=>0|.i32=>2147483648|.i64=>9223372036854775808
 |.u8=>256|.u16=>65536|.u32=>4294967296|.u64=>18446744073709551616
def Bn (k:IntKind)(n:Int):Int:=
 match n with
 |.ofNat m=>bif Nat.blt m (vD k) then .ofNat m else k.wrap (.ofNat m)
 |.negSucc m=>bif k.signed&&Nat.blt m (vD k) then .negSucc m else k.wrap (.negSucc m)
def rU:Int->Int->Bool
 |.ofNat a,.ofNat b=>Nat.blt a b
 |.negSucc _,.ofNat _=>true
 |.ofNat _,.negSucc _=>false
 |.negSucc a,.negSucc b=>Nat.blt b a
def rT:Int->Int->Bool
 |.ofNat a,.ofNat b=>Nat.beq a b
 |.negSucc a,.negSucc b=>Nat.beq a b
 |_,_=>false
def zy (H:aw):Bool->Option cY
 |true=>some (.val (.bool true) H)
 |false=>some (.val (.bool false) H)
def kf (H:aw)(k:IntKind)(a b:Int)(Bc:Option cY):BinOp->Option cY
 |.add=>sA (Bn k (a+b)) (q6 H k)
 |.sub=>sA (Bn k (a -b)) (q6 H k)
 |.mul=>sA (Bn k (a*b)) (q6 H k)
 |.eql=>zy H (rT a b)
 |.neq=>zy H (!rT a b)
 |.lss=>zy H (rU a b)
 |.leq=>zy H (!rU b a)
 |.gtr=>zy H (rU b a)
 |.geq=>zy H (!rU a b)
 |_=>Bc
def xK (P:Program)(X:eI)(t:TypeId)(a b:Value):BinOp->Option cY
 |.eql=>(match yz P t a b with|some r=>some (.val (.bool r) X.H)|none=>none)
 |.neq=>(match yz P t a b with|some r=>some (.val (.bool (!r)) X.H)|none=>none)
 |_=>none
def vM (P:Program)(X:eI)(op:BinOp)(t:TypeId)(a b:Value):Option cY:=orElse (eI.pC P X) (xK P X t a b op)
def ny:IntKind->IntKind->Bool
 |.i8,.i8=>true|.i16,.i16=>true|.i32,.i32=>true|.i64,.i64=>true|.u8,.u8=>true|.u16,.u16=>true|.u32,.u32=>true|.u64,.u64=>true
 |_,_=>false
def VM (P:Program)(X:eI)(op:BinOp)(t:TypeId)(k:IntKind)(a:Int)(l:IntKind)(b:Int):Option cY:=
 bif ny k l then kf X.H k a b (eI.pC P X) op else vM P X op t (.int k a) (.int l b)
def mG (P:Program)(X:eI)(op:BinOp)(t:TypeId):Option Value->Option Value->Option cY
 |some (.int k a),some (.int l b)=>VM P X op t k a l b
 |some a,some b=>vM P X op t a b
 |_,_=>none
def avI (P:Program)(X:eI)(op:BinOp)(t:TypeId)(x y:Operand)(_:TypeId):Option cY:=mG P X op t (X.a5 x) (X.a5 y)
def zq (P:Program)(X:eI)(src dst:TypeId):Option Value->Option cY
 |none=>none
 |some (.string s)=>orElse (ou (yB P X.H src dst s)) (eI.pC P X)
 |some (.pointer (some a))=>hH (RQ P X.H src dst (.pointer (some a))) X.H
 |some (.slice b l c)=>hH (RT P X.H src dst (.slice b l c)) X.H
 |some (.int _ n)=>(match P.underlying src,P.underlying dst with
  |some _,some (.int k)=>sA (Bn k n) (q6 X.H k)
  |_,_=>(eI.pC P X))
 |some _=>(eI.pC P X)
def avM (P:Program)(X:eI)(src dst:TypeId)(x:Operand):Option cY:=zq P X src dst (X.a5 x)
def C3 (P:Program)(X:eI)(t:TypeId):Option Value->Option TypeDesc->Option cY
 |some _,some (.interface _)=>none
 |some v,some _=>some (.val (.iface t v) X.H)
 |_,_=>none
def avU (P:Program)(X:eI)(t:TypeId)(x:Operand):Option cY:=C3 P X t (X.a5 x) (P.underlying t)
def C2 (P:Program)(X:eI)(fn:Fn):Option (List Value)->Option (List Value)->Option cY
 |some a,some b=>(match fn with
  |.yield _=>none
  |fn=>some (.val (.func fn a.toArray b.toArray) X.H))
 |_,_=>none
def avT (P:Program)(X:eI)(fn:Fn)(first captured:Array Operand):Option cY:=C2 P X fn (gp X.S.T X.H first.toList) (gp X.S.T X.H captured.toList)
def Ki (P:Program)(X:eI)(t:TypeId):Option Value->Option Value->Option cY
 |some l,some c=>ou (Ic P X.H t l c)
 |_,_=>none
def avV (P:Program)(X:eI)(t:TypeId)(l c:Operand):Option cY:=Ki P X t (X.a5 l) (X.a5 c)
def oi (P:Program)(X:eI)(t:TypeId):Option Value->Option (Option Value)->Option (Option Value)->Option cY
 |some v,some lo,some hi=>orElse (hH (l4 P X.H t v lo hi) X.H) (eI.pC P X)
 |_,_,_=>none
def av0 (P:Program)(X:eI)(t:TypeId)(x:Operand)(lo hi:Option Operand):Option Operand->Option cY
 |none=>oi P X t (X.a5 x) (iT X.S.T X.H lo) (iT X.S.T X.H hi)
 |some _=>none
def C0 (P:Program)(X:eI)(s:TypeId)(f:Nat):Option Value->Option cY
 |some p=>hH (Ib P s p f) X.H
 |none=>none
def avP (P:Program)(X:eI)(s:TypeId)(x:Operand)(f:Nat):Option cY:=C0 P X s f (X.a5 x)
def F5 (P:Program)(X:eI)(f:Nat):Option Value->Option TypeDesc->Option cY
 |some (.agg cs),some (.struct fields)=>(match fields[f]? with
  |some f=>hH (n8 P f.type cs.toList f.offset) X.H
  |none=>none)
 |_,_=>none
def avO (P:Program)(X:eI)(t:TypeId)(x:Operand)(f:Nat):Option cY:=F5 P X f (X.a5 x) (P.underlying t)
def zr (P:Program)(X:eI)(t:TypeId):Option Value->Option Value->Option cY
 |some x,some dM=>hH (yA P t x dM) X.H
 |_,_=>none
def avR (P:Program)(X:eI)(t:TypeId)(x dM:Operand):Option cY:=zr P X t (X.a5 x) (X.a5 dM)
def AY (P:Program)(X:eI):Option Value->Option Value->Option TypeDesc->Option cY
 |some (.agg cs),some (.int _ i),some (.array len elem)=>(match vB i len,e6 P elem with
  |some n,some sz=>hH (n8 P elem cs.toList (n*sz)) X.H
  |_,_=>none)
 |some (.string s),some (.int _ i),some .string=>(match i with
  |.ofNat n=>(match nth s.data.toList n with
   |some b=>sA (.ofNat b.toNat) (q6 X.H .u8)
   |none=>none)
  |.negSucc _=>none)
 |_,_,_=>none
def avQ (P:Program)(X:eI)(t:TypeId)(x dM:Operand):Option cY:=AY P X (X.a5 x) (X.a5 dM) (P.underlying t)
def C5 (P:Program)(X:eI)(asserted:TypeId)(ok:Bool):Option Value->Option cY
 |some v=>hH (EH P v asserted ok) X.H
 |none=>none
def av2 (P:Program)(X:eI)(x:Operand)(_ asserted:TypeId)(ok:Bool):Option cY:=C5 P X asserted ok (X.a5 x)
def CZ (P:Program)(X:eI)(dM:Nat):Option Value->Option cY
 |some (.tuple vs)=>hH (nth vs.toList dM) X.H
 |_=>none
def avN (P:Program)(X:eI)(t:Operand)(dM:Nat):Option cY:=CZ P X dM (X.a5 t)
def kN (P:Program)(X:eI)(c:Call):Option cY:=
 match c.callee with
 |.builtin b=>tB P X.S X.H X.o b c
 |_=>nj P X.call X.aO X.S.T X.H c
def xL (P:Program)(X:eI)(c:Call):Option cY:=
 match X.S.cx with
 |none=>Ia P X.S.T X.H c
 |some _=>none
def Kj (P:Program)(X:eI):Option Value->Option cY
 |some (.iface t v)=>some (.gN [{v:=.iface t v,recovered:=false}] X.H)
 |_=>none
def avY (P:Program)(X:eI)(x:Operand):Option cY:=Kj P X (X.a5 x)
def Ov.{u} {a:Sort u} (_:a):Option cY:=none
def CO.{u,v} {a:Sort u} {b:Sort v} (_:a) (_:b):Option cY:=none
def aek.{u,v,w} {a:Sort u} {b:Sort v} {c:Sort w} (_:a) (_:b) (_:c):Option cY:=none
def Ow.{u,v,w,x} {a:Sort u} {b:Sort v} {c:Sort w} {d:Sort x} (_:a) (_:b) (_:c) (_:d):Option cY:=none
def av3 (P:Program)(X:eI)(_:UnOp)(_:TypeId)(_:Operand):Option cY:=(eI.pC P X)
def fi (P:Program)(X:eI):Option cY:=
 Op.rec (motive:=fun _=>Option cY)
  (aeF P X) (aeF P X) (avZ P X) (avH P X) (avJ P X) (avK P X) (avL P X) Ow (avS P X) (av1 P X)
  Ov Ov (avW P X) (avI P X) (av3 P X) (avM P X) CO (avU P X) (avT P X) CO CO (avV P X)
  (av0 P X) (avP P X) (avO P X) (avR P X) (avQ P X) Ow Ow aek Ow CO CO Ov (av2 P X) (avN P X)
  (kN P X) Ov (xL P X) (avY P X) CO aek CO X.o.op
def cA (P:Program)(call:eW)(aO:hX)(S:aY)(H:aw)(o:Oper):Option cY:=fi P ⟨call,aO,S,H,o⟩
def aY.r3 (n:Nat)(ds:List Deferred)(bQ:Bool)(bg:FrameMode)(cx:Option Nat)(T:Option (aZ Value)):Option aY:=
 Option.rec (motive:=fun _=>Option aY) none (fun T=>some ⟨T,n,ds,bQ,bg,cx⟩) T
def aY.aw3 (v:Value)(S:aY)(d:Tmp):Option aY:=
 aY.rec (motive:=fun _=>Option aY) (fun T n ds bQ bg cx=>Bool.rec (motive:=fun _=>Option aY) none (aY.r3 n ds bQ bg cx (aZ.put v T d)) (Nat.ble (Nat.succ d) n)) S
def aY.put (S:aY)(dst:Option Tmp)(v:Value):Option aY:=Option.rec (motive:=fun _=>Option aY) (some S) (aY.aw3 v S) dst
def aY.Gy (d:Deferred):aY->aY
 |⟨T,n,ds,bQ,bg,cx⟩=>⟨T,n,d::ds,bQ,bg,cx⟩
def aY.zJ (bg:FrameMode):aY->aY
 |⟨T,n,ds,bQ,_,cx⟩=>⟨T,n,ds,bQ,bg,cx⟩
def w3 (ops:List Oper)(T:aZ Value):Nat×Bool->Option Bool
 |(j,want)=>match nth ops j with
  |some p=>match p.dst with
   |some d=>match T.get d with
    |some (.bool b)=>some (b==want)
    |some (.chan _)=>none
    |some _=>some false
    |none=>none
   |none=>some false
  |none=>some false
def gK (ops:List Oper)(T:aZ Value)(o:Oper):Option Bool:=Option.rec (motive:=fun _=>Option Bool) (some true) (w3 ops T) o.guard
inductive dP where
 |ok (S:aY) (H:aw)
 |gN (chain:List PanicEntry) (S:aY) (H:aw)
def oq (H:aw)(S:Option aY):Option dP:=Option.rec (motive:=fun _=>Option dP) none (fun S=>some (.ok S H)) S
def m5 (S:aY)(dst:Option Tmp)(v:Value)(H:aw):Option dP:=oq H (S.put dst v)
def q5 (S:aY):Option (Value×FrameMode):=
 match S.cx with
 |some _=>none
 |none=>bif S.bQ then(match S.bg with
  |.panicking ({v,recovered:=false,goexit:=false}::OI)=>some (v,.panicking ({v,recovered:=true}::OI))
  |m=>some (.nilIface,m))
  else some (.nilIface,S.bg)
def F3 (S:aY)(H:aw)(dst:Option Tmp):Option (Value×FrameMode)->Option dP
 |some (v,bg)=>m5 (S.zJ bg) dst v H
 |none=>none
def AX (S:aY)(H:aw)(dst:Option Tmp)(d:Deferred):Option dP:=
 match S.cx with
 |none=>m5 (S.Gy d) dst undef H
 |some _=>none
def aeE (S:aY)(H:aw)(dst:Option Tmp)(r:cY):Option dP:=
 cY.rec (motive:=fun _=>Option dP) (m5 S dst) (m5 S dst undef) (AX S H dst) (fun chain H=>some (.gN chain S H)) (F3 S H dst (q5 S)) r
def o2 (S:aY)(H:aw)(dst:Option Tmp)(r:Option cY):Option dP:=Option.rec (motive:=fun _=>Option dP) none (aeE S H dst) r
def avB (P:Program)(call:eW)(aO:hX)(S:aY)(H:aw)(o:Oper)(b:Bool):Option dP:=
 Bool.rec (motive:=fun _=>Option dP) (m5 S o.dst undef H) (o2 S H o.dst (cA P call aO S H o)) b
def one (P:Program)(call:eW)(aO:hX)(ops:List Oper)(S:aY)(H:aw)(o:Oper):Option dP:=
 Option.rec (motive:=fun _=>Option dP) none (avB P call aO S H o) (gK ops S.T o)
def axM (k:aY->aw->Option dP)(r:dP):Option dP:=dP.rec (motive:=fun _=>Option dP) k (fun chain S H=>some (.gN chain S H)) r
def aaa (k:aY->aw->Option dP)(r:Option dP):Option dP:=Option.rec (motive:=fun _=>Option dP) none (axM k) r
def EE (P:Program)(call:eW)(aO:hX)(ops:List Oper)(l:List Oper):aY->aw->Option dP:=
 List.rec (motive:=fun _=>aY->aw->Option dP) (fun S H=>some (.ok S H)) (fun o _ rest S H=>aaa rest (one P call aO ops S H o)) l
def FB:Op->Bool
 |.store ..|.mapUpdate ..|.insert ..|.mapEntry ..|.entryStore ..|.next ..|.go _|.defer _|.panic _|.send ..|.recv ..|.select ..|.ready _=>true
 |.call {callee:=.builtin b,..}=>match b with|.len|.cap|.min|.max=>false|_=>true
 |.call _=>true
 |_=>false
def AK:Op->Bool
 |.alloc _|.box ..|.buildSlice ..|.makeMap ..|.makeSlice ..=>true
 |_=>false
def looks (ops:List Oper)(o:Oper):List Tmp:=
 (o.op.operands.toList.filterMap fun|.tmp t=>some t|_=>none)++
 (match o.guard with
  |some (g,_)=>(match nth ops g with|some p=>p.dst.toList|none=>[])
  |none=>[])
def Ez:List Edge->Nat
 |[]=>0
 |e::l=>bif Region.binds .any e then Nat.lor (Nat.pow 2 e.on) (Ez l) else Ez l
def Oper.gE (o:Oper):Nat:=Ez o.after.toList
def sub (a b:Nat):Bool:=Nat.beq (Nat.land a b) a
def U2 (ops:List Oper)(a b:Oper):Bool:=match a.dst with|some d=>(looks ops b).any (Nat.beq d)|none=>false
def YB (ops:List Oper)(i:Nat)(a:Oper):List Oper->Bool
 |[]=>false
 |b::l=>(U2 ops a b&&!Nat.testBit (Oper.gE b) i)||YB ops i a l
def Ek (ops:List Oper):List Oper->Nat->Nat
 |[],_=>0
 |o::l,i=>Nat.lor (bif FB o.op||YB ops i o ops then Nat.pow 2 i else 0) (Ek ops l (i+1))
def z6:List Oper->Nat->Nat
 |[],_=>0
 |o::l,i=>Nat.lor (bif AK o.op then Nat.pow 2 i else 0) (z6 l (i+1))
inductive jM where
 |val (i:Nat)
 |iF (i:Nat)
 |bw (i:Nat)
 |b6 (l:List Nat)
def OR (ok:Nat->Bool)(C:Nat):List Oper->Nat->Option Nat
 |[],_=>none
 |o::l,i=>bif !Nat.testBit C i&&ok i&&sub (Oper.gE o) C then some i else OR ok C l (i+1)
def wN (ops:List Oper):Nat->Nat->Nat
 |0,K=>K
 |n+1,K=>wN ops n (bif Nat.testBit K n then(match nth ops n with|some o=>Nat.lor K (Oper.gE o)|none=>K) else K)
def bitsOf (m:Nat):Nat->List Nat
 |0=>[]
 |n+1=>bif Nat.testBit m n then n::bitsOf m n else bitsOf m n
def CI:List Nat->Nat
 |[]=>0
 |i::l=>Nat.lor (Nat.pow 2 i) (CI l)
def FQ (ops:List Oper)(bx dg:Nat):Nat->Nat->Nat->Nat->List jM
 |0,_,_,_=>[]
 |n+1,C,K,G=>
  match OR (fun i=>!Nat.testBit bx i&&Nat.testBit dg i) C ops 0 with
  |some i=>.iF i::FQ ops bx dg n (Nat.lor C (Nat.pow 2 i)) K (Nat.lor (Nat.land G dg) (Nat.pow 2 i))
  |none=>match OR (fun i=>!Nat.testBit bx i&&!Nat.testBit dg i) C ops 0 with
   |some i=>.val i::FQ ops bx dg n (Nat.lor C (Nat.pow 2 i)) K (Nat.lor G (Nat.pow 2 i))
   |none=>match bitsOf (Nat.xor C (Nat.land C (Nat.lor K G))) ops.length with
    |i::l=>.b6 (i::l)::FQ ops bx dg n C K (Nat.lor G (CI (i::l)))
    |[]=>match OR (Nat.testBit bx) C ops 0 with
     |some i=>.bw i::FQ ops bx dg n (Nat.lor C (Nat.pow 2 i)) (wN ops ops.length (Nat.lor K (Nat.pow 2 i))) (Nat.land G dg)
     |none=>[]
def only(C i:Nat):List Oper->Nat->Bool
 |[],_=>true
 |o::l,k=>(Nat.testBit C k||Nat.beq k i||!sub (Oper.gE o) C)&&only C i l (k+1)
def NW (C:Nat):Nat->Bool
 |0=>true
 |n+1=>Nat.testBit C n&&NW C n
def fits (ops:List Oper)(C i:Nat):Bool:=!Nat.testBit C i&&(match nth ops i with|some o=>sub (Oper.gE o) C|none=>false)
def LP (bx dg C:Nat):List Nat->Bool
 |[]=>true
 |i::l=>Nat.testBit C i&&!Nat.testBit dg i&&LP bx dg C l
def pD (ops:List Oper)(bx dg:Nat):Nat->Nat->Nat->List jM->Bool
 |C,K,G,[]=>NW C ops.length&&sub C (Nat.lor K G)
 |C,K,G,.val i::l=>fits ops C i&&!Nat.testBit bx i&&!Nat.testBit dg i&&pD ops bx dg (Nat.lor C (Nat.pow 2 i)) K (Nat.lor G (Nat.pow 2 i)) l
 |C,K,G,.iF i::l=>fits ops C i&&!Nat.testBit bx i&&Nat.testBit dg i&&pD ops bx dg (Nat.lor C (Nat.pow 2 i)) K (Nat.lor (Nat.land G dg) (Nat.pow 2 i)) l
 |C,K,G,.b6 s::l=>LP bx dg C s&&pD ops bx dg C K (Nat.lor G (CI s)) l
 |C,K,G,.bw i::l=>fits ops C i&&Nat.testBit bx i&&only C i ops 0&&sub C (Nat.lor K G)&&
  (match nth ops i with|some o=>sub (Oper.gE o) (wN ops ops.length (Nat.lor K (Nat.pow 2 i)))&&Nat.testBit (wN ops ops.length (Nat.lor K (Nat.pow 2 i))) i|none=>false)&&
  pD ops bx dg (Nat.lor C (Nat.pow 2 i)) (wN ops ops.length (Nat.lor K (Nat.pow 2 i))) (Nat.land G dg) l
def afX (a b:Oper):Bool:=match a.dst,b.dst with|some d,some e=>Nat.beq d e|_,_=>false
def F9 (ops:List Oper)(bx i j:Nat)(a b:Oper):Bool:=
 (Nat.beq i j||!afX a b)&&(!U2 ops a b||Nat.testBit (Oper.gE b) i||(Nat.testBit bx i&&(Nat.beq i j||Nat.testBit (Oper.gE a) j)))
def OM (ops:List Oper)(bx i:Nat)(a:Oper):List Oper->Nat->Bool
 |[],_=>true
 |b::l,j=>F9 ops bx i j a b&&OM ops bx i a l (j+1)
def Ko (ops:List Oper)(bx:Nat):List Oper->Nat->Bool
 |[],_=>true
 |a::l,i=>OM ops bx i a ops 0&&Nat.blt (Oper.gE a) (Nat.pow 2 i)&&(Nat.testBit bx i||!FB a.op)&&Ko ops bx l (i+1)
def Ex (ops:List Oper):Bool:=
 Ko ops (Ek ops ops 0) ops 0&&pD ops (Ek ops ops 0) (z6 ops 0) 0 0 0 (FQ ops (Ek ops ops 0) (z6 ops 0) (3*ops.length+3) 0 0 0)
def js (f:Value->Value->Bool):List Value->List Value->Bool
 |[],[]=>true
 |x::l,y::m=>f x y&&js f l m
 |_,_=>false
def addrEq:Option Addr->Option Addr->Bool
 |none,none=>true
 |some ⟨a,b,none⟩,some ⟨c,d,none⟩=>Nat.beq a c&&Nat.beq b d
 |some ⟨0,0,some 0⟩,some ⟨0,0,some 0⟩=>true
 |_,_=>false
def ad9:Option Nat->Option Nat->Bool
 |none,none=>true
 |some a,some b=>Nat.beq a b
 |_,_=>false
def YT:Bool->Bool->Bool
 |true,true=>true
 |false,false=>true
 |_,_=>false
def aan:Fn->Fn->Bool
 |.func f,.func g=>Nat.beq f g
 |_,_=>false
def ep:Nat->Value->Value->Bool
 |0,_,_=>false
 |n+1,a,b=>match a,b with
  |.bool a,.bool b=>YT a b
  |.int k a,.int l b=>ny k l&&rT a b
  |.string a,.string b=>decide (a.data.toList=b.data.toList)
  |.pointer a,.pointer b=>addrEq a b
  |.slice a l c,.slice b m d=>addrEq a b&&Nat.beq l m&&Nat.beq c d
  |.map a,.map b=>ad9 a b
  |.nilFunc,.nilFunc=>true
  |.nilIface,.nilIface=>true
  |.iface t v,.iface u w=>Nat.beq t u&&ep n v w
  |.agg a,.agg b=>js (ep n) a.toList b.toList
  |.tuple a,.tuple b=>js (ep n) a.toList b.toList
  |.func f a b,.func g c d=>aan f g&&js (ep n) a.toList c.toList&&js (ep n) b.toList d.toList
  |_,_=>false
inductive jL where
 |ptr
 |De (len cap:Nat)
 |map
def jL.at (id:Nat):jL->Value
 |.ptr=>.pointer (some ⟨id,0,none⟩)
 |.De l c=>.slice (some ⟨id,0,none⟩) l c
 |.map=>.map (some id)
def r2 (T:aZ Value)(x:Operand):Option Value:=
 Operand.rec (motive:=fun _=>Option Value) (fun t=>T.get t) VN (fun _=>none) (fun f=>some (.func (.func f) #[] #[])) x
def ur (T:aZ Value):List (Nat×Operand)->Option (List (Nat×Value))
 |[]=>some []
 |(i,x)::l=>match r2 T x with
  |some v=>match ur T l with|some r=>some ((i,v)::r)|none=>none
  |none=>none
def BD (elem:TypeId)(v:Value):Option (fP×jL):=
 bif v.cells.toList.all fx then some (.row v.cells.toList elem false 0 0 false,.ptr) else none
def Hm (P:Program)(t:TypeId)(l c:Value):Option (fP×jL):=
 match l,c,P.underlying t with
 |.int _ l,.int _ c,some (.slice elem)=>
  match h2 P elem,wL P elem,e6 P elem with
  |some z,some jR,some sz=>
   match rV c 1000000,rV l 1000000 with
   |some c,some l=>
    bif Nat.ble l c&&Nat.ble jR 1000000&&Nat.beq z.cells.toList.length sz&&z.cells.toList.all fx&&plain z then
     some (.row (fp z.cells.toList c) elem false 0 0 false,.De l c)
    else none
   |_,_=>none
  |_,_,_=>none
 |_,_,_=>none
def Hl (P:Program)(t:TypeId)(len:Nat)(parts:List (Nat×Value)):Option (fP×jL):=
 match P.underlying t with
 |some (.slice elem)=>match e6 P elem,h2 P elem with
  |some sz,some z=>
   bif Nat.ble len 100000&&Nat.ble (len*sz) 100000&&plain z&&Nat.beq z.cells.toList.length sz then
    match oN (fun i=>some (i*sz,sz)) (fp z.cells.toList len) parts with
    |some cells=>bif cells.all fx then some (.row cells elem false 0 0 false,.De len len) else none
    |none=>none
   else none
  |_,_=>none
 |_=>none
def JR (P:Program)(t:TypeId)(r:Operand):Option (fP×jL):=
 match r with
 |.const (.int .i64 (.ofNat 0))=>(match P.underlying t with|some (.map _ _)=>some (fP.dead,jL.map)|_=>none)
 |_=>none
def oG (P:Program)(T:aZ Value):Op->Option (fP×jL)
 |.alloc elem=>(match h2 P elem with|some z=>bif plain z then BD elem z else none|none=>none)
 |.box elem x=>(match r2 T x with|some v=>BD elem v|none=>none)
 |.buildSlice t len parts=>(match ur T parts.toList with|some ps=>Hl P t len ps|none=>none)
 |.makeMap _ none=>some (.map [] 0,.map)
 |.makeMap t (some r)=>JR P t r
 |.makeSlice t l c=>(match r2 T l,r2 T c with|some l,some c=>Hm P t l c|_,_=>none)
 |_=>none
abbrev sd:=aY->aw->Option dP
def qe (k:sd)(H:aw)(S:Option aY):Option dP:=Option.rec (motive:=fun _=>Option dP) none (fun S=>k S H) S
def Du (S:aY)(H:aw)(dst:Option Tmp)(k:sd):Option cY->Option dP
 |some (.val v H')=>bif Nat.beq H'.ao H.ao then qe k H (S.put dst v) else none
 |_=>none
def aha (P:Program)(call:eW)(aO:hX)(S:aY)(H:aw)(o:Oper)(k:sd)(b:Bool):Option dP:=
 Bool.rec (motive:=fun _=>Option dP) (qe k H (S.put o.dst undef)) (Du S H o.dst k (cA P call aO S H o)) b
def mM (P:Program)(call:eW)(aO:hX)(ops:List Oper)(S:aY)(H:aw)(k:sd)(o:Oper):Option dP:=
 Option.rec (motive:=fun _=>Option dP) none (aha P call aO S H o k) (gK ops S.T o)
def QA (S:aY)(dst:Option Tmp)(k:sd)(eK:jL):Option (Nat×aw)->Option dP
 |some (a,H)=>qe k H (S.put dst (eK.at a))
 |none=>none
def Qz (S:aY)(H:aw)(dst:Option Tmp)(k:sd):Option (fP×jL)->Option dP
 |some (b,eK)=>QA S dst k eK (H.new b)
 |none=>none
def Yy (P:Program)(S:aY)(H:aw)(o:Oper)(k:sd)(b:Bool):Option dP:=
 Bool.rec (motive:=fun _=>Option dP) (qe k H (S.put o.dst undef)) (Qz S H o.dst k (oG P S.T o.op)) b
def Hj (P:Program)(ops:List Oper)(S:aY)(H:aw)(k:sd)(o:Oper):Option dP:=
 Option.rec (motive:=fun _=>Option dP) none (Yy P S H o k) (gK ops S.T o)
def aZ.fU {α:Type}:aZ α->(Nat->Bool)->aZ α
 |.leaf,_=>.leaf
 |.node v l r,p=>.node (if p 0 then v else none) (l.fU fun k=>p (2*k+1)) (r.fU fun k=>p (2*k+2))
def aY.only (S:aY)(p:Nat->Bool):aY:=⟨S.T.fU p,S.n,S.ds,S.bQ,S.bg,S.cx⟩
def aY.gone (S:aY)(p:Nat->Bool):aY:=⟨S.T.fU p,0,S.ds,S.bQ,S.bg,S.cx⟩
def xE (ops:List Oper)(t:Nat):Bool:=ops.all fun o=>match o.dst with|some u=>!Nat.beq u t|none=>true
def jS (ops:List Oper)(k:sd):Option dP->Option dP
 |some (.ok S H)=>k S H
 |some (.gN chain S H)=>some (.gN chain (S.gone (xE ops)) H)
 |none=>none
def Rc (ao:Nat)(T:aZ Value)(dst:Option Tmp):Option cY->Bool
 |some (.val v H')=>Nat.beq H'.ao ao&&(match dst with
  |none=>true
  |some d=>(match T.get d with|some u=>ep 8 v u|none=>false))
 |_=>false
def Zj (P:Program)(call:eW)(aO:hX)(ops:List Oper)(S:aY)(H:aw)(o:Oper):Option Bool->Bool
 |some true=>Rc H.ao S.T o.dst (cA P call aO S H o)
 |some false=>true
 |none=>false
def BK (P:Program)(call:eW)(aO:hX)(ops:List Oper)(S:aY)(H:aw)(i:Nat):Bool:=
 match nth ops i with
 |some o=>Zj P call aO ops S H o (gK ops S.T o)
 |none=>false
def jl (ops:List Oper)(i:Nat)(f:Oper->Option dP):Option dP:=Option.rec (motive:=fun _=>Option dP) none f (nth ops i)
def HL (P:Program)(call:eW)(aO:hX)(ops:List Oper)(S:aY)(H:aw)(k:sd)(l:List Nat):Option dP:=
 bif l.all (BK P call aO ops S H) then k S H else none
def Zz (P:Program)(call:eW)(aO:hX)(ops:List Oper)(k:sd)(S:aY)(H:aw)(s:jM):Option dP:=
 jM.rec (motive:=fun _=>Option dP) (fun i=>jl ops i (mM P call aO ops S H k)) (fun i=>jl ops i (Hj P ops S H k)) (fun i=>jl ops i fun o=>jS ops k (one P call aO ops S H o)) (HL P call aO ops S H k) s
def dA (P:Program)(call:eW)(aO:hX)(ops:List Oper)(l:List jM):sd:=
 List.rec (motive:=fun _=>sd) (fun S H=>some (.ok S H)) (fun s _ k S H=>Zz P call aO ops k S H s) l
def Kq (ops:List Oper):List jM:=FQ ops (Ek ops ops 0) (z6 ops 0) (3*ops.length+3) 0 0 0
def yy (P:Program)(call:eW)(aO:hX)(ops:List Oper)(S:aY)(H:aw):Option dP:=
 bif Ex ops then dA P call aO ops (Kq ops) S H else none
def amM (t:Nat):Option Tmp->Bool
 |some u=>Nat.beq u t
 |none=>false
structure Lit where
 t:Nat
 m:Nat
 eE:TypeId
 n:Nat
def adm:List Oper->Option (Nat×TypeId)
 |[]=>none
 |o::l=>match o.op with
  |.insert eE (.tmp t) _ _=>some (t,eE)
  |_=>adm l
def adk (t:Nat):List Oper->Nat->Nat
 |[],i=>i
 |o::l,i=>bif amM t o.dst then i else adk t l (Nat.succ i)
def UZ:List Oper->Nat->Nat->Nat
 |[],_,n=>n
 |o::l,i,n=>match o.op with
  |.insert _ _ _ _=>UZ l (Nat.succ i) (Nat.succ i)
  |_=>UZ l (Nat.succ i) n
def JS (ops:List Oper):Option Lit:=match adm ops with
 |some (t,eE)=>some ⟨t,adk t ops 0,eE,UZ ops 0 0⟩
 |none=>none
def wW (P:Program)(call:eW)(aO:hX)(ops:List Oper)(S:aY)(H:aw):Option dP:=
 Option.rec (motive:=fun _=>Option dP) (yy P call aO ops S H) (fun _=>none) (JS ops)
structure gu where
 code:Code->aY->aw->Option (Exit×aY×aw)
 body:FuncId->List Value->Bool->FrameMode->aw->Option (Ending×FrameMode×aw)
def gu.call (E:gu):eW:=fun f args H=>match E.body f args false .run H with
 |some (e,_,H)=>some (e,H)
 |none=>none
def vR:aZ Value->List Tmp->List Value->Option (aZ Value)
 |T,[],[]=>some T
 |T,t::ts,v::vs=>match T.set Gn t v with|some T=>vR T ts vs|none=>none
 |_,_,_=>none
def wI (n:Nat):List Nat->Bool
 |[]=>true
 |x::l=>Nat.blt x n&&wI n l
def FF:Exit->Option (Option Code)
 |.normal=>some none
 |.ret=>some (some .ret)
 |.exit id=>some (some (.exit id))
 |_=>none
def aBg (j:Option Code):Option aw->Option (Ending×aw)
 |some H=>some (.returned (.bool j.isNone),H)
 |none=>none
def Dy (H:aw)(l:Nat)(j:Option Code):Option (Ending×aw):=
 match H.mem.get l with
 |some (.loop r)=>aBg j (H.upd l (.loop {r with state:=if j.isNone then .ready else .done,pending:=j}))
 |_=>none
def K0 (H:aw):Exit->List Deferred->Option (Ending×aw)
 |.panic chain,[]=>some (.panicked chain,H)
 |_,_=>none
def PO (l:Nat):Option (Exit×aY×aw)->Option (Ending×aw)
 |some (e,S,H)=>(match FF e with
  |some j=>Dy H l j
  |none=>K0 H e S.ds)
 |none=>none
def aBf (E:gu)(l:Nat)(body:Code)(S:aY):Option aw->Option (Ending×aw)
 |some H=>PO l (E.code body S H)
 |none=>none
def KZ (E:gu)(l:Nat)(body:Code)(S:aY)(H:aw):Option (Ending×aw):=
 match H.mem.get l with
 |some (.loop r)=>(match r.state with
  |.ready=>aBf E l body S (H.upd l (.loop {r with state:=.busy}))
  |_=>none)
 |_=>none
def Xg (E:gu)(l:Nat)(body:Code):Option (Exit×aY×aw)->Option (Ending×aw)
 |some (.normal,S,H)=>KZ E l body S H
 |_=>none
def ahQ (E:gu)(l:Nat)(r:qj)(H:aw):Option (aZ Value)->Option (Ending×aw)
 |some T=>Xg E l r.body (E.code r.assign ⟨T,r.n,[],false,.run,some l⟩ H)
 |none=>none
def gu.aO (E:gu):hX:=fun l args H=>
 match H.mem.get l with
 |some (.loop r)=>bif Nat.ble H.bJ l&&wI r.n r.params then ahQ E l r H (vR r.T r.params args) else none
 |_=>none
def r4:Option dP->Option (Exit×aY×aw)
 |some (.ok S H)=>some (.normal,S,H)
 |some (.gN chain S H)=>some (.panic chain,S,H)
 |none=>none
def Kv (S:aY)(H:aw):Option (Nat×List Deferred×aw):=
 match S.cx with
 |some l=>(match H.mem.get l with|some (.loop r)=>some (r.g6,S.ds,H)|_=>none)
 |none=>(match H.new (.g6 (some [])) with|some (r,H)=>some (r,{target:=.collected r,args:=#[]}::S.ds,H)|none=>none)
def V8 (S:aY):Option Code->aw->Option (Exit×aY×aw)
 |none,H=>some (.normal,S,H)
 |some .ret,H=>some (.ret,S,H)
 |some (.exit id),H=>some (.exit id,S,H)
 |some _,_=>none
def Ku (S:aY)(l:Nat)(H:aw):Option (Exit×aY×aw):=
 match H.mem.get l with
 |some (.loop r)=>(match r.state with
  |.busy=>none
  |_=>(match H.upd l (.loop {r with state:=.exhausted}) with
   |none=>none
   |some H=>V8 S r.pending H))
 |_=>none
def O5 (S:aY)(l:Nat):Option (Ending×FrameMode×aw)->Option (Exit×aY×aw)
 |some (.returned _,_,H)=>Ku S l H
 |some (.panicked chain,_,H)=>some (.panic chain,S,H)
 |_=>none
def afk (P:Program)(E:gu)(S:aY)(l:Nat)(H:aw):Option Value->Option (Exit×aY×aw)
 |some (.func fn first captured)=>(match kY P H fn (first.toList++[.func (.yield l) #[] #[]]) captured.toList with
  |none=>none
  |some (g,bP)=>O5 S l (E.body g bP false .run H))
 |_=>none
def EF (P:Program)(E:gu)(f:Operand)(params:Array Tmp)(assign body:Code)(S:aY)(H:aw):Option (Exit×aY×aw):=
 match Kv S H with
 |none=>none
 |some (d,ds,H)=>
  match H.new (.loop {state:=.ready,pending:=none,T:=S.T,n:=S.n,params:=params.toList,assign,body,g6:=d}) with
  |none=>none
  |some (l,H)=>afk P E {S with ds:=ds} l H (a5 S.T H f)
def HH (E:gu)(b:Code):Option (Exit×aY×aw)->Option (Exit×aY×aw)
 |some (.normal,S,H)=>E.code b S H
 |r=>r
def akF (E:gu)(S:aY)(H:aw)(a b:Code):Option (Exit×aY×aw):=HH E b (E.code a S H)
def Me (E:gu)(S:aY)(H:aw)(x y:Code):Option Value->Option (Exit×aY×aw)
 |some (.bool true)=>E.code x S H
 |some (.bool false)=>E.code y S H
 |_=>none
def aky (E:gu)(S:aY)(H:aw)(c:Operand)(x y:Code):Option (Exit×aY×aw):=Me E S H x y (a5 S.T H c)
def Q5 (id:Nat):Option (Exit×aY×aw)->Option (Exit×aY×aw)
 |some (.exit nx,S,H)=>bif Nat.beq nx id then some (.normal,S,H) else some (.exit nx,S,H)
 |r=>r
def akx (E:gu)(S:aY)(H:aw)(id:Nat)(c:Code):Option (Exit×aY×aw):=Q5 id (E.code c S H)
def akA (E:gu)(S:aY)(H:aw)(c:Code):Option (Exit×aY×aw):=HH E (.loop c) (E.code c S H)
def Y':Option (Exit×aY×aw)->Option (Exit×aY×aw)
 |some (.goto _,_,_)=>none
 |r=>r
def akE (E:gu)(S:aY)(H:aw)(c:Code):Option (Exit×aY×aw):=Y' (E.code c S H)
def akD (P:Program)(E:gu)(S:aY)(H:aw)(_:Nat)(ops:Array Oper):Bool->Option (Exit×aY×aw)
 |false=>r4 (EE P E.call E.aO ops.toList ops.toList S H)
 |true=>r4 (wW P E.call E.aO ops.toList S H)
def akC (P:Program)(E:gu)(S:aY)(H:aw)(f:Operand)(params:Array Tmp)(assign body:Code):Option (Exit×aY×aw):=EF P E f params assign body S H
def akz (S:aY)(H:aw)(id:Nat):Option (Exit×aY×aw):=some (.exit id,S,H)
def Y9.{u} {a:Sort u} (_:a):Option (Exit×aY×aw):=none
def akB (S:aY)(H:aw)(_:Nat):Option (Exit×aY×aw):=some (.normal,S,H)
def Mu (P:Program)(E:gu)(c:Code)(S:aY)(H:aw):Option (Exit×aY×aw):=
 Code.casesOn (motive:=fun _=>Option (Exit×aY×aw)) c
  (some (.normal,S,H)) (akD P E S H) (akF E S H) (aky E S H) (akx E S H) (akA E S H) (akC P E S H) (akz S H) (akE E S H) (akB S H) Y9 (some (.ret,S,H)) Y9
def rC (P:Program)(T:aZ Value)(H:aw):List ResultVar->Option (List Value)
 |[]=>some []
 |.tmp t::l=>(match T.get t with
  |some v=>(match rC P T H l with|some r=>some (v::r)|none=>none)
  |none=>none)
 |.cell a t::l=>(match T.get a with
  |some p=>(match BU P H t p with
   |some v=>(match rC P T H l with|some r=>some (v::r)|none=>none)
   |none=>none)
  |none=>none)
def p6:List Value->Value
 |[v]=>v
 |vs=>.tuple vs.toArray
def JK:FrameMode->Bool
 |.run=>true
 |_=>false
def ig (P:Program)(E:gu)(fn:Func)(T:aZ Value):List Deferred->FrameMode->aw->Option (Ending×aw)
 |[],.returning,H=>match rC P T H fn.results.toList with
  |some vs=>some (.returned (p6 vs),H)
  |none=>none
 |[],.panicking chain,H=>some (.panicked chain,H)
 |[],.run,_=>none
 |d::ds,u,H=>bif JK u then none else match d.target with
  |.fn fv cap=>match kY P H fv d.args.toList cap.toList with
   |none=>none
   |some (f,args)=>match E.body f args true u H with
    |some (.returned _,u,H)=>ig P E fn T ds (settle u) H
    |some (.panicked chain,u,H)=>ig P E fn T ds (raised u chain) H
    |_=>none
  |.collected r=>match H.mem.get r with
   |some (.g6 (some []))=>bif Nat.ble H.bJ r then(match H.upd r (.g6 none) with
    |some H=>ig P E fn T ds u H
    |none=>none) else none
   |_=>none
  |_=>none
def R1 (n:Nat):Nat:=Nat.succ (Nat.log2 (Nat.succ n))
def blank (n:Nat):aZ Value:=aZ.full undef (R1 n)
def pg:List Value->Nat->aZ Value->Option (aZ Value)
 |[],_,T=>some T
 |v::l,i,T=>match T.set Gn i v with|some T=>pg l (Nat.succ i) T|none=>none
def aae (e:TypeId)(n:Nat)(H:aw):Option (Ending×aw):=
 match H.pA [] e false with
 |some (id,H)=>some (.returned (.slice (some ⟨id,0,none⟩) n cK),H)
 |none=>none
def RX (P:Program)(fn:Func)(H:aw):List Value->List TypeId->Option (Ending×aw)
 |[.int .i64 (.ofNat n)],[t]=>bif decide (fn.name= "internal/bytealg.MakeNoZero")&&decide (fn.origin= "")&&Nat.ble n 1000000 then
  (match P.underlying t with
  |some (.slice e)=>bif Nat.beq (P.cellsOf e) 1 then aae e n H else none
  |_=>none)
  else none
 |_,_=>none
def RY (P:Program)(fn:Func)(args:List Value)(H:aw):Option Next->Option (Ending×aw)
 |some (.value v)=>bif plain v then some (.returned v,H) else none
 |_=>RX P fn H args fn.resultTypes.toList
def aaf (fn:Func)(H:aw):List Value->Option (Ending×aw)
 |[v]=>bif decide (fn.name= "internal/abi.NoEscape")&&decide (fn.origin= "") then some (.returned v,H) else none
 |_=>none
def BT (P:Program)(fn:Func)(f:FuncId)(args:List Value)(H:aw):Option (Ending×aw):=
 bif args.all plain then RY P fn args H (fw P (callFunc f args.toArray)) else aaf fn H args
def rq (bg:FrameMode):Option (Ending×aw)->Option (Ending×FrameMode×aw)
 |some (e,H)=>some (e,bg,H)
 |none=>none
def yk (P:Program)(E:gu)(fn:Func):Option (Exit×aY×aw)->Option (Ending×FrameMode×aw)
 |some (.normal,S,H)=>rq S.bg (ig P E fn S.T S.ds .returning H)
 |some (.ret,S,H)=>rq S.bg (ig P E fn S.T S.ds .returning H)
 |some (.panic chain,S,H)=>rq S.bg (ig P E fn S.T S.ds (.panicking chain) H)
 |_=>none
def Hv (P:Program)(E:gu)(fn:Func)(c:Code)(bQ:Bool)(bg:FrameMode)(H:aw):Option (aZ Value)->Option (Ending×FrameMode×aw)
 |some T=>yk P E fn (E.code c ⟨T,fn.ntmps,[],bQ,bg,none⟩ H)
 |none=>none
def Hu (P:Program)(E:gu)(f:FuncId)(fn:Func)(args:List Value)(bQ:Bool)(bg:FrameMode)(H:aw):Option Code->Option (Ending×FrameMode×aw)
 |some c=>Hv P E fn c bQ bg H (pg args 0 (blank fn.ntmps))
 |none=>bif bQ then none else rq bg (BT P fn f args H)
def tA (P:Program)(fR:aZ Func)(E:gu)(f:FuncId)(args:List Value)(bQ:Bool)(bg:FrameMode)(H:aw):Option (Ending×FrameMode×aw):=
 match fR.get f with
 |none=>none
 |some fn=>Hu P E f fn args bQ bg H fn.body
def wX (P:Program)(fR:aZ Func)(n:Nat):gu:=
 Nat.rec (motive:=fun _=>gu) ⟨fun _ _ _=>none,fun _ _ _ _ _=>none⟩ (fun _ E=>⟨Mu P E,tA P fR E⟩) n
def zE {α:Type}:List α->Nat->aZ α->Option (aZ α)
 |[],_,T=>some T
 |v::l,i,T=>match T.set Gn i v with|some T=>zE l (Nat.succ i) T|none=>none
open Go.RowKit
def aZ.aaA{α:Type}(n:Nat):(aZ.leaf:aZ α).get n=none:=rfl
def aZ.Iq{α:Type}(v:Option α)(l r:aZ α):(aZ.node v l r).get 0=v:=rfl
def aZ.sB{α:Type}(v:Option α)(l r:aZ α)(m:Nat):(aZ.node v l r).get (m+1)=if m % 2=0 then l.get (m / 2) else r.get (m / 2):=by
 show Bool.rec (motive:=fun _=>Option α) (r.get (m / 2)) (l.get (m / 2)) (Nat.beq (m % 2) 0)=_;by_cases h:m % 2=0
 ·rw[aP h];simp[h]
 ·rw[aG h];have:Nat.beq (m % 2) 0=false:=by
   cases ak:Nat.beq (m % 2) 0
   ·rfl
   ·exact absurd (eM ak) h
  rw[this]
def aZ.axd{α:Type}(a:α):aZ.put a .leaf 0=some (.node (some a) .leaf .leaf):=rfl
def aZ.axc{α:Type}(a:α)(m:Nat):aZ.put a .leaf (m+1)=none:=rfl
def aZ.axh{α:Type}(a:α)(v:Option α)(l r:aZ α):aZ.put a (.node v l r) 0=some (.node (some a) l r):=rfl
def aZ.OW{α:Type}(a:α)(v:Option α)(l r:aZ α)(m:Nat):
 aZ.put a (.node v l r) (m+1)=if m % 2=0 then aZ.left v r (aZ.put a l (m / 2)) else aZ.right v l (aZ.put a r (m / 2)):=by
 show Bool.rec (motive:=fun _=>Option (aZ α)) (aZ.right v l (aZ.put a r (m / 2))) (aZ.left v r (aZ.put a l (m / 2))) (Nat.beq (m % 2) 0)=_;by_cases h:m % 2=0
 ·rw[aP h];simp[h]
 ·rw[aG h];have:Nat.beq (m % 2) 0=false:=by
   cases ak:Nat.beq (m % 2) 0
   ·rfl
   ·exact absurd (eM ak) h
  rw[this]
def aZ.get_put{α:Type}{a:α}{t j0:aZ α}{n:Nat}(h:aZ.put a t n=some j0)(m:Nat):j0.get m=if m=n then some a else t.get m:=by
 induction t generalizing j0 n m with
 |leaf=>
  cases n with
  |zero=>
   rw[aZ.axd] at h;injection h with h;subst h
   cases m with
   |zero=>simp[aZ.Iq]
   |succ m=>rw[aZ.sB];simp[aZ.aaA]
  |succ n=>rw[aZ.axc] at h;cases h
 |node v l r y' za=>
  cases n with
  |zero=>
   rw[aZ.axh] at h;injection h with h;subst h
   cases m with
   |zero=>simp[aZ.Iq]
   |succ m=>rw[aZ.sB,aZ.sB];simp
  |succ n=>
   rw[aZ.OW] at h;by_cases aA:n % 2=0
   ·rw[aP aA] at h;cases aj:aZ.put a l (n / 2) with
    |none=>rw[aj] at h;cases h
    |some a9=>
     rw[aj] at h;injection h with h;subst h
     cases m with
     |zero=>simp[aZ.Iq]
     |succ m=>
      rw[aZ.sB,aZ.sB,y' aj];by_cases hm:m % 2=0
      ·rw[aP hm,aP hm];have:(m / 2=n / 2)↔(m+1=n+1):=by omega
       simp[this]
      ·rw[aG hm,aG hm];have:¬(m+1=n+1):=by omega
       rw[aG this]
   ·rw[aG aA] at h;cases ar:aZ.put a r (n / 2) with
    |none=>rw[ar] at h;cases h
    |some cu=>
     rw[ar] at h;injection h with h;subst h
     cases m with
     |zero=>simp[aZ.Iq]
     |succ m=>
      rw[aZ.sB,aZ.sB,za ar];by_cases hm:m % 2=0
      ·rw[aP hm,aP hm];have:¬(m+1=n+1):=by omega
       rw[aG this]
      ·rw[aG hm,aG hm];have:(m / 2=n / 2)↔(m+1=n+1):=by omega
       simp[this]
def aZ.Sc{α:Type}{a:α}{t j0:aZ α}{d n:Nat}(h:aZ.set d t n a=some j0)(m:Nat):j0.get m=if m=n then some a else t.get m:=aZ.get_put h m
def lQ{α:Type}(l:List α)(n:Nat):nth l n=l[n]?:=by
 induction l generalizing n with
 |nil=>rfl
 |cons a l aC=>cases n with
  |zero=>rfl
  |succ n=>exact aC n
def wS{α:Type}(n:Nat)(l:List α):qH n l=l.drop n:=by
 induction l generalizing n with
 |nil=>simp[qH]
 |cons a l aC=>cases n with
  |zero=>rfl
  |succ n=>exact aC n
def Gm{α:Type}{n:Nat}{l r:List α}(h:takeN n l=some r):r=l.take n/\r.length=n/\n<=l.length:=by
 induction n generalizing l r with
 |zero=>simp[takeN] at h;subst h;simp
 |succ n aC=>
  cases l with
  |nil=>simp[takeN] at h
  |cons a l=>
   simp only[takeN] at h;cases aM:takeN n l with
   |none=>rw[aM] at h;cases h
   |some cu=>
    rw[aM] at h;injection h with h;subst h
    obtain⟨aF,aV,cj⟩:=aC aM;refine⟨by rw[aF,G1],by simp[aV],by simp;omega⟩
def Wv{α:Type}{n:Nat}{l vs r:List α}(h:gO n l vs=some r):
 r.length=l.length/\n+vs.length<=l.length/\∀i,r[i]?=if n<=i/\i<n+vs.length then vs[i -n]? else l[i]?:=by
 induction n generalizing l r with
 |zero=>
  induction vs generalizing l r with
  |nil=>simp[gO] at h;subst h;exact⟨I,by simp,fun i=>by simp⟩
  |cons v vs aC=>
   cases l with
   |nil=>simp[gO] at h
   |cons a l=>
    simp only[gO] at h;cases hs:gO 0 l vs with
    |none=>rw[hs] at h;cases h
    |some cu=>
     rw[hs] at h;injection h with h;subst h
     obtain⟨aF,aV,cj⟩:=aC hs;refine⟨by simp[aF],by simp at*;omega,fun i=>?_⟩;cases i with
     |zero=>simp
     |succ i=>
      have:=cj i;simp only[Ln,this];simp
 |succ n aC=>
  cases l with
  |nil=>simp[gO] at h
  |cons a l=>
   simp only[gO] at h;cases hs:gO n l vs with
   |none=>rw[hs] at h;cases h
   |some cu=>
    rw[hs] at h;injection h with h;subst h
    obtain⟨aF,aV,cj⟩:=aC hs;refine⟨by simp[aF],by simp;omega,fun i=>?_⟩;cases i with
    |zero=>simp
    |succ i=>
     have:=cj i;simp only[Ln,this];have ax:(n+1<=i+1/\i+1<n+1+vs.length)↔(n<=i/\i<n+vs.length):=by omega
     simp only[ax];split
     ·rw[show i+1 -(n+1)=i -n from by omega]
     ·rfl
structure Loc where
 r:Nat
 N:Nat
 sz:Nat
abbrev bU:=Nat->Option Loc
def isAtom:Value->Bool
 |.bool _|.int _ _|.float _ _|.string _|.nilFunc|.nilIface|.pointer none|.slice none _ _|.map none=>true
 |_=>false
inductive bk (μ:bU):Value->Value->Prop
 |atom (v:Value):isAtom v=true->bk μ v v
 |ptr (id off:Nat) (L:Loc):μ id=some L->bk μ (.pointer (some ⟨id,off,none⟩)) (.pointer (some ⟨L.r,off,none⟩))
 |o5 (id off len cap:Nat) (L:Loc):μ id=some L->cap<cK->bk μ (.slice (some ⟨id,off,none⟩) len cap) (.slice (some ⟨L.r,off,none⟩) len cap)
 |q9 (id off len cap:Nat) (L:Loc):μ id=some L->len<=cap->off+cap*L.sz<=L.N->bk μ (.slice (some ⟨id,off,none⟩) len cK) (.slice (some ⟨L.r,off,none⟩) len cap)
 |xR (id off gM:Nat) (L:Loc):μ id=some L->bk μ (.slice (some ⟨id,off,none⟩) 0 cK) (.slice (some ⟨L.r,gM,none⟩) 0 0)
 |zA (a:Addr):bk μ (.slice (some ⟨0,0,some 0⟩) 0 0) (.slice (some a) 0 0)
 |map (id:Nat) (L:Loc):μ id=some L->bk μ (.map (some id)) (.map (some L.r))
 |zI (v:Value):fx v=true->bk μ (.chan none) v
 |func (fn:Fn) (a b bD b':Array Value):zm fn=true->a.size=bD.size->b.size=b'.size->
  (∀(i:Nat) v v',a[i]?=some v->bD[i]?=some v'->bk μ v v')->(∀(i:Nat) v v',b[i]?=some v->b'[i]?=some v'->bk μ v v')->bk μ (.func fn a b) (.func fn bD b')
 |yield (l:Nat) (L:Loc):μ l=some L->bk μ (.func (.yield l) #[] #[]) (.func (.yield L.r) #[] #[])
 |iface (t:TypeId) (v v':Value):bk μ v v'->bk μ (.iface t v) (.iface t v')
 |agg (a bD:Array Value):a.size=bD.size->(∀(i:Nat) v v',a[i]?=some v->bD[i]?=some v'->bk μ v v')->bk μ (.agg a) (.agg bD)
 |tuple (a bD:Array Value):a.size=bD.size->(∀(i:Nat) v v',a[i]?=some v->bD[i]?=some v'->bk μ v v')->bk μ (.tuple a) (.tuple bD)
def bW(μ:bU)(l a9:List Value):Prop:=l.length=a9.length/\∀(i:Nat) v v',l[i]?=some v->a9[i]?=some v'->bk μ v v'
def Ext(μ bh:bU):Prop:=∀id L,μ id=some L->bh id=some L
def Ext.refl(μ:bU):Ext μ μ:=fun _ _ h=>h
def Ext.trans{a b c:bU}(h:Ext a b)(k:Ext b c):Ext a c:=fun id L x=>k id L (h id L x)
def bk.mono{μ bh:bU}{v v':Value}(h:bk μ v v')(e:Ext μ bh):bk bh v v':=by
 induction h with
 |atom v h=>exact .atom v h
 |ptr id off L h=>exact .ptr id off L (e _ _ h)
 |o5 id off len cap L h ax=>exact .o5 id off len cap L (e _ _ h) ax
 |q9 id off len cap L h ax aA=>exact .q9 id off len cap L (e _ _ h) ax aA
 |xR id off gM L h=>exact .xR id off gM L (e _ _ h)
 |zA a=>exact .zA a
 |map id L h=>exact .map id L (e _ _ h)
 |zI v h=>exact .zI v h
 |func fn a b bD b' an aI ak _ _ asS asT=>exact .func fn a b bD b' an aI ak asS asT
 |yield l L h=>exact .yield l L (e _ _ h)
 |iface t v v' _ aC=>exact .iface t v v' aC
 |agg a bD hs _ aC=>exact .agg a bD hs aC
 |tuple a bD hs _ aC=>exact .tuple a bD hs aC
def bW.mono{μ bh:bU}{l a9:List Value}(h:bW μ l a9)(e:Ext μ bh):bW bh l a9:=⟨h.1,fun i v v' a b=>(h.2 i v v' a b).mono e⟩
def bW.nil(μ:bU):bW μ [] []:=⟨I,fun i v v' h=>by simp at h⟩
def bW.cons{μ:bU}{v v':Value}{l a9:List Value}(h:bk μ v v')(t:bW μ l a9):bW μ (v::l) (v'::a9):=by
 refine⟨by simp[t.1],fun i a b aI ak=>?_⟩;cases i with
 |zero=>simp at aI ak;subst aI;subst ak;exact h
 |succ i=>simp at aI ak;exact t.2 i a b aI ak
def bW.kg{μ:bU}{v:Value}{l m:List Value}(h:bW μ (v::l) m):∃v' a9,m=v'::a9/\bk μ v v'/\bW μ l a9:=by
 cases m with
 |nil=>have:=h.1;simp at this
 |cons v' a9=>
  refine⟨v',a9,I,h.2 0 v v' I I,by have:=h.1;simpa using this,fun i a b aI ak=>h.2 (i+1) a b (by simpa using aI) (by simpa using ak)⟩
def bW.mf{μ:bU}{m:List Value}(h:bW μ [] m):m=[]:=by
 have:=h.1;exact zV.1 (by simpa using this.symm)
def bW.append{μ:bU}{l a9 m m':List Value}(h:bW μ l a9)(k:bW μ m m'):bW μ (l++m) (a9++m'):=by
 refine⟨by simp[h.1,k.1],fun i a b aI ak=>?_⟩;rw[XR] at aI ak;rw[<-h.1] at ak;split at aI
 ·rename_i hi;rw[aP hi] at ak;exact h.2 i a b aI ak
 ·rename_i hi;rw[aG hi] at ak;exact k.2 _ a b aI ak
def bW.take{μ:bU}{l a9:List Value}(h:bW μ l a9)(n:Nat):bW μ (l.take n) (a9.take n):=by
 refine⟨by simp[h.1],fun i a b aI ak=>?_⟩;rw[iY] at aI ak;split at aI
 ·rename_i hi;rw[aP hi] at ak;exact h.2 i a b aI ak
 ·cases aI
def bW.drop{μ:bU}{l a9:List Value}(h:bW μ l a9)(n:Nat):bW μ (l.drop n) (a9.drop n):=by
 refine⟨by simp[h.1],fun i a b aI ak=>?_⟩;rw[n2] at aI ak;exact h.2 _ a b aI ak
def bW.get{μ:bU}{l a9:List Value}(h:bW μ l a9){i:Nat}{v:Value}(az:l[i]?=some v):∃v',a9[i]?=some v'/\bk μ v v':=by
 have hi:i<l.length:=by
  rcases ha i l.length with x|x
  ·exact x
  ·rw[jq x] at az;cases az
 have kF:i<a9.length:=h.1▸hi;exact⟨a9[i],cU kF,h.2 i v _ az (cU kF)⟩
def bk.LO{μ:bU}{l a9:List Value}(h:bW μ l a9):bk μ (.agg l.toArray) (.agg a9.toArray):=
 .agg _ _ (by simp[h.1]) fun i v v' a b=>h.2 i v v' (by simpa using a) (by simpa using b)
def bk.WL{μ:bU}{l a9:List Value}(h:bW μ l a9):bk μ (.tuple l.toArray) (.tuple a9.toArray):=
 .tuple _ _ (by simp[h.1]) fun i v v' a b=>h.2 i v v' (by simpa using a) (by simpa using b)
def bk.Yx{μ:bU}{a:Array Value}{v:Value}(h:bk μ (.agg a) v):∃bD,v=.agg bD/\bW μ a.toList bD.toList:=by
 cases h with
 |atom _ h=>simp[isAtom] at h
 |agg _ bD hs ar=>exact⟨bD,I,by simpa using hs,fun i v v' x y=>ar i v v' (by simpa using x) (by simpa using y)⟩
def bk.azW{μ:bU}{a:Array Value}{v:Value}(h:bk μ (.tuple a) v):∃bD,v=.tuple bD/\bW μ a.toList bD.toList:=by
 cases h with
 |atom _ h=>simp[isAtom] at h
 |tuple _ bD hs ar=>exact⟨bD,I,by simpa using hs,fun i v v' x y=>ar i v v' (by simpa using x) (by simpa using y)⟩
def bk.undef(μ:bU):bk μ undef undef:=.tuple _ _ I fun i v v' h=>by simp at h
def bk.avu{μ:bU}:∀{n:Nat} {v:Value},jz n v=true->bk μ v v:=by
 intro n;induction n with
 |zero=>intro v h;simp[jz] at h
 |succ n aC=>
  intro v h;cases v with
  |bool b=>exact .atom _ I
  |int k n=>exact .atom _ I
  |float k b=>exact .atom _ I
  |complex k a b=>simp[jz] at h
  |string s=>exact .atom _ I
  |pointer a=>cases a with
   |none=>exact .atom _ I
   |some a=>simp[jz] at h
  |slice a l c=>cases a with
   |none=>exact .atom _ I
   |some a=>simp[jz] at h
  |map r=>cases r with
   |none=>exact .atom _ I
   |some a=>simp[jz] at h
  |chan r=>simp[jz] at h
  |func fn a b=>
   cases fn with
   |func f=>
    simp[jz] at h;obtain⟨rfl,rfl⟩:=h;exact .func _ _ _ _ _ I I I (fun i v v' h=>by simp at h) (fun i v v' h=>by simp at h)
   |_=>simp[jz] at h
  |nilFunc=>exact .atom _ I
  |iface t v=>simp only[jz] at h;exact .iface _ _ _ (aC h)
  |nilIface=>exact .atom _ I
  |agg cs=>
   simp only[jz,sf] at h;exact .agg _ _ I fun i v v' a b=>by
    rw[a] at b;injection b with b;subst b
    exact aC (h v (GI.2 (K6 a)))
  |tuple cs=>
   simp only[jz,sf] at h;exact .tuple _ _ I fun i v v' a b=>by
    rw[a] at b;injection b with b;subst b
    exact aC (h v (GI.2 (K6 a)))
def YF{a b:Array Value}(hs:a.size=b.size)(h:∀(i:Nat) v v',a[i]?=some v->b[i]?=some v'->v'=v):b=a:=by
 apply Array.ext hs.symm
 intro i ae ag;exact h i a[i] b[i] (DD ag) (DD ae)
def bk.OS{μ:bU}:∀{n:Nat} {v v':Value},jz n v=true->bk μ v v'->v'=v:=by
 intro n;induction n with
 |zero=>intro v v' h;simp[jz] at h
 |succ n aC=>
  intro v v' h ar;cases ar with
  |atom _ _=>rfl
  |ptr=>simp[jz] at h
  |o5=>simp[jz] at h
  |q9=>simp[jz] at h
  |xR=>simp[jz] at h
  |zA=>simp[jz] at h
  |map=>simp[jz] at h
  |zI=>simp[jz] at h
  |func fn a b bD b' an aI ak Nz rO=>
   cases fn with
   |func f=>
    simp[jz] at h;obtain⟨rfl,rfl⟩:=h;have aF:bD=#[]:=ahY (by simpa using aI.symm);have aV:b'=#[]:=ahY (by simpa using ak.symm);rw[aF,aV]
   |_=>simp[jz] at h
  |yield=>simp[jz] at h
  |iface t v v' az=>simp only[jz] at h;rw[aC h az]
  |agg a bD hs az=>
   simp only[jz,sf] at h;rw[YF hs fun i v v' x y=>aC (h v (GI.2 (K6 x))) (az i v v' x y)]
  |tuple a bD hs az=>
   simp only[jz,sf] at h;rw[YF hs fun i v v' x y=>aC (h v (GI.2 (K6 x))) (az i v v' x y)]
def bk.cells{μ:bU}{v v':Value}(h:bk μ v v'):bW μ v.cells.toList v'.cells.toList:=by
 cases h with
 |agg a bD hs az=>exact⟨by simpa[Value.cells] using hs,fun i v v' x y=>az i v v' (by simpa[Value.cells] using x) (by simpa[Value.cells] using y)⟩
 |atom v h=>cases v<;>first|(simp[isAtom] at h;done)|exact bW.cons (.atom _ h) (bW.nil _)
 |ptr id off L h=>exact bW.cons (.ptr id off L h) (bW.nil _)
 |o5 id off len cap L h ax=>exact bW.cons (.o5 id off len cap L h ax) (bW.nil _)
 |q9 id off len cap L h ax aA=>exact bW.cons (.q9 id off len cap L h ax aA) (bW.nil _)
 |xR id off gM L h=>exact bW.cons (.xR id off gM L h) (bW.nil _)
 |zA a=>exact bW.cons (.zA a) (bW.nil _)
 |map id L h=>exact bW.cons (.map id L h) (bW.nil _)
 |zI _ h=>cases v'<;>first|(simp[fx] at h;done)|exact bW.cons (.zI _ h) (bW.nil _)
 |func fn a b bD b' an aI ak Nz rO=>exact bW.cons (.func fn a b bD b' an aI ak Nz rO) (bW.nil _)
 |yield l L h=>exact bW.cons (.yield l L h) (bW.nil _)
 |iface t v v' az=>exact bW.cons (.iface t v v' az) (bW.nil _)
 |tuple a bD hs az=>exact bW.cons (.tuple a bD hs az) (bW.nil _)
def bk.fx{μ:bU}{v v':Value}(h:bk μ v v'):fx v'=fx v:=by
 cases h<;>first|rfl|assumption
end
end Go.Cre
