/- A part of the proof of TableRounds. -/
import GoSem.Step
import Derived.Calls
import Derived.Defers
import Derived.Recover
set_option linter.unusedVariables false
set_option linter.unusedSimpArgs false
set_option linter.defProp false
namespace Go
noncomputable section
def aaY:=@Array.all_eq_true_iff_forall_mem
def aaZ:=@Array.eq_empty_of_size_eq_zero
def rS:=@Array.ext'
def El:=@Array.ext_getElem?
def Sz:=@Array.getElem?_append
def aa0:=@Array.getElem?_append_left
def zA:=@Array.getElem?_eq_getElem
def s5:=@Array.getElem?_eq_none
def L3:=@Array.getElem?_eq_some_iff
def aa1:=@Array.getElem?_modify
def zB:=@Array.getElem?_setIfInBounds
def SA:=@Array.getElem?_setIfInBounds_ne
def aa2:=@Array.mapM_eq_mapM_toList
def Iq:=@Array.mem_of_getElem?
def Em:=@Array.mem_toList_iff
def SB:=@Array.size_push
def Ir:=@Array.size_setIfInBounds
def aa3:=@Array.toArray_toList
def SC:=@Array.toList_inj
def gI:=@Bool.and_eq_true
def x5:=@Bool.and_self
def It:=@Bool.and_true
def s6:=@Bool.eq_iff_iff
def En:=@Bool.false_and
def Eo:=@Bool.false_eq_true
def s7:=@Bool.not_eq_true'
def SD:=@Bool.not_false
def ov:=@Bool.not_true
def x6:=@Bool.or_eq_true
def SE:=@Bool.true_and
def jh:=@Classical.byContradiction
def SF:=@Classical.choose_spec
def qQ:=@Int.add_mul
def L5:=@Int.dvd_add
def o4:=@Int.dvd_mul_of_dvd_right
def L6:=@Int.dvd_sub
def Er:=@Int.eq_of_mul_eq_mul_right
def uy:=@Int.le_of_lt
def SK:=@Int.le_refl
def vX:=@Int.lt_or_le
def nj:=@Int.mul_add
def jR:=@Int.mul_assoc
def kC:=@Int.mul_comm
def vY:=@Int.mul_le_mul_of_nonneg_left
def L7:=@Int.mul_le_mul_of_nonneg_right
def o5:=@Int.mul_left_comm
def SL:=@Int.mul_ne_zero
def Ix:=@Int.mul_neg
def BX:=@Int.mul_neg_of_neg_of_pos
def SM:=@Int.mul_neg_of_pos_of_neg
def kT:=@Int.mul_nonneg
def Iy:=@Int.mul_one
def BY:=@Int.mul_pos
def aba:=@Int.mul_pos_of_neg_of_neg
def L8:=@Int.mul_right_comm
def BZ:=@Int.mul_sub
def SN:=@Int.mul_zero
def ox:=@Int.natAbs_eq_zero
def lc:=@Int.natAbs_mul
def hP:=@Int.natAbs_natCast
def B0:=@Int.natAbs_ne_zero
def vZ:=@Int.natAbs_neg
def SO:=@Int.natAbs_zero
def uz:=@Int.natCast_add
def uA:=@Int.natCast_dvd_natCast
def gM:=@Int.natCast_mul
def o6:=@Int.natCast_nonneg
def nL:=@Int.neg_mul
def L9:=@Int.neg_neg
def rU:=@Int.ofNat_dvd_left
def B1:=@Int.ofNat_tdiv
def Iz:=@Int.ofNat_tmod
def rV:=@Int.one_mul
def abb:=@Int.pos_of_mul_pos_left
def IA:=@Int.sub_eq_add_neg
def nk:=@Int.sub_mul
def abc:=@Int.tmod_eq_emod_of_nonneg
def jy:=@Int.toNat_natCast
def L':=@Int.zero_add
def x8:=@Int.zero_mul
def bx:=@List.Sublist.refl
def B4:=@List.all_cons
def uE:=@List.all_eq_true
def SR:=@List.all_nil
def nM:=@List.append_assoc
def iU:=@List.append_nil
def ID:=@List.cons.inj
def SS:=@List.cons_append
def abk:=@List.dropLast_concat_getLast
def Mb:=@List.drop_append
def abl:=@List.drop_append_of_le_length
def Et:=@List.drop_drop
def IE:=@List.drop_eq_getElem_cons
def tb:=@List.drop_eq_nil_of_le
def SU:=@List.drop_length
def oy:=@List.drop_of_length_le
def B5:=@List.drop_set_of_lt
def SV:=@List.drop_succ_cons
def IF:=@List.drop_take
def hi:=@List.drop_zero
def kU:=@List.eq_nil_of_length_eq_zero
def SW:=@List.eq_of_mem_replicate
def IG:=@List.ext_getElem?
def IH:=@List.foldl_cons
def g5:=@List.getD_eq_getElem?_getD
def SX:=@List.getElem?_append
def B6:=@List.getElem?_append_left
def Eu:=@List.getElem?_append_right
def SY:=@List.getElem?_cons_succ
def p5:=@List.getElem?_drop
def eE:=@List.getElem?_eq_getElem
def qT:=@List.getElem?_eq_none
def gS:=@List.getElem?_eq_some_iff
def ko:=@List.getElem?_map
def Mc:=@List.getElem?_of_mem
def SZ:=@List.getElem?_range
def Md:=@List.getElem?_replicate
def mS:=@List.getElem?_set
def abm:=@List.getElem?_set_ne
def ji:=@List.getElem?_take
def Ev:=@List.getElem?_take_of_lt
def abn:=@List.getElem?_toArray
def II:=@List.getLast?_append
def Me:=@List.getLast?_cons_cons
def qU:=@List.getLast?_eq_getElem?
def abo:=@List.getLast?_eq_some_getLast
def Mf:=@List.getLast?_singleton
def eS:=@List.length_append
def lP:=@List.length_cons
def lQ:=@List.length_drop
def abp:=@List.length_eq_one_iff
def zH:=@List.length_eq_zero_iff
def g6:=@List.length_map
def B7:=@List.length_nil
def S0:=@List.length_ofFn
def mT:=@List.length_replicate
def hr:=@List.length_set
def x9:=@List.length_singleton
def dY:=@List.length_take
def S1:=@List.mapM_cons
def Mg:=@List.map_append
def uF:=@List.map_cons
def S2:=@List.map_drop
def S3:=@List.map_map
def IJ:=@List.map_set
def zI:=@List.map_take
def qV:=@List.mem_append
def nN:=@List.mem_append_left
def eF:=@List.mem_append_right
def gb:=@List.mem_cons
def abq:=@List.mem_cons_of_mem
def zJ:=@List.mem_iff_getElem?
def rW:=@List.mem_map
def iV:=@List.mem_map_of_mem
def jS:=@List.mem_of_getElem?
def abr:=@List.mem_of_mem_drop
def x':=@List.mem_of_mem_take
def S4:=@List.mem_or_eq_of_mem_set
def S5:=@List.mem_range
def zK:=@List.mem_singleton
def kp:=@List.nil_append
def br:=@List.nil_sublist
def IK:=@List.nodup_append
def uG:=@List.nodup_cons
def IL:=@List.not_mem_nil
def abt:=@List.pairwise_singleton
def IM:=@List.perm_append_comm
def zL:=@List.perm_append_singleton
def S6:=@List.perm_middle
def abu:=@List.range_eq_range'
def S7:=@List.replicate_succ
def S8:=@List.set_append_left
def IN:=@List.set_append_right
def Mh:=@List.set_cons_zero
def abv:=@List.set_eq_take_append_cons_drop
def abw:=@List.singleton_append
def S9:=@List.size_toArray
def zM:=@List.sublist_append_left
def Ew:=@List.sublist_append_right
def p6:=@List.sum_cons
def S':=@List.sum_nil
def oz:=@List.take_add_one
def Ex:=@List.take_append_drop
def uH:=@List.take_length
def dd:=@List.take_of_length_le
def IP:=@List.take_set_of_le
def IQ:=@List.take_sublist
def Mi:=@List.take_succ_cons
def rX:=@List.take_take
def fh:=@List.take_zero
def abA:=@Nat.Coprime.coprime_dvd_left
def Mj:=@Nat.Coprime.coprime_dvd_right
def abB:=@Nat.Coprime.dvd_of_dvd_mul_left
def B8:=@Nat.add_assoc
def Ta:=@Nat.add_comm
def c3:=@Nat.add_mul
def Tb:=@Nat.add_mul_div_left
def ld:=@Nat.add_sub_cancel
def Mk:=@Nat.add_sub_cancel_left
def iI:=@Nat.add_zero
def hY:=@Nat.beq_refl
def mU:=@Nat.ble_eq_true_of_le
def IS:=@Nat.coprime_div_gcd_div_gcd
def Ml:=@Nat.coprime_one_right
def lR:=@Nat.div_add_mod
def abC:=@Nat.div_div_eq_div_mul
def rY:=@Nat.div_eq_of_lt
def Tc:=@Nat.div_le_div_right
def abD:=@Nat.div_le_iff_le_mul_add_pred
def rZ:=@Nat.div_le_self
def mV:=@Nat.div_lt_iff_lt_mul
def Mm:=@Nat.div_pos
def Mn:=@Nat.dvd_antisymm
def Ey:=@Nat.dvd_gcd
def Td:=@Nat.dvd_iff_mod_eq_zero
def abE:=@Nat.dvd_of_mod_eq_zero
def IT:=@Nat.dvd_trans
def eC:=@Nat.eq_of_beq_eq_true
def abF:=@Nat.eq_of_testBit_eq
def jj:=@Nat.eq_zero_or_pos
def oA:=@Nat.gcd_comm
def lf:=@Nat.gcd_dvd_left
def nl:=@Nat.gcd_dvd_right
def Te:=@Nat.gcd_le_right
def Ez:=@Nat.gcd_one_left
def EA:=@Nat.gcd_one_right
def abG:=@Nat.gcd_pos_of_pos_left
def ya:=@Nat.gcd_pos_of_pos_right
def zO:=@Nat.gcd_rec
def abH:=@Nat.gcd_sub_self_right
def Mo:=@Nat.gcd_zero_left
def zP:=@Nat.gcd_zero_right
def Mp:=@Nat.le_add_right
def Tf:=@Nat.le_antisymm
def IU:=@Nat.le_div_iff_mul_le
def abI:=@Nat.le_mul_of_pos_left
def hZ:=@Nat.le_of_ble_eq_true
def IV:=@Nat.le_of_dvd
def EB:=@Nat.le_of_eq
def r0:=@Nat.le_of_lt
def qW:=@Nat.le_of_not_lt
def bX:=@Nat.le_refl
def cY:=@Nat.le_trans
def zQ:=@Nat.lt_irrefl
def p7:=@Nat.lt_of_le_of_lt
def iJ:=@Nat.lt_of_lt_of_le
def Mq:=@Nat.lt_of_mul_lt_mul_left
def EC:=@Nat.lt_of_mul_lt_mul_right
def IW:=@Nat.lt_of_not_le
def iK:=@Nat.lt_or_ge
def zR:=@Nat.lt_trans
def Tg:=@Nat.lt_trichotomy
def gn:=@Nat.min_eq_left
def yb:=@Nat.mod_add_div
def nO:=@Nat.mod_eq_of_lt
def fJ:=@Nat.mod_lt
def Mr:=@Nat.mod_two_eq_zero_or_one
def cS:=@Nat.mul_add
def Th:=@Nat.mul_add_div
def fi:=@Nat.mul_assoc
def dz:=@Nat.mul_comm
def tc:=@Nat.mul_div_cancel
def v7:=@Nat.mul_div_cancel_left
def IX:=@Nat.mul_div_mul_right
def r1:=@Nat.mul_le_mul
def hs:=@Nat.mul_le_mul_left
def e0:=@Nat.mul_le_mul_right
def qX:=@Nat.mul_left_comm
def Ms:=@Nat.mul_lt_mul''
def abJ:=@Nat.mul_lt_mul_of_lt_of_le
def Mt:=@Nat.mul_lt_mul_of_pos_left
def B9:=@Nat.mul_lt_mul_of_pos_right
def abK:=@Nat.mul_lt_mul_right
def Ti:=@Nat.mul_mod_mul_right
def gT:=@Nat.mul_one
def iW:=@Nat.mul_pos
def jk:=@Nat.mul_zero
def jl:=@Nat.ne_of_gt
def ED:=@Nat.ne_of_lt
def EE:=@Nat.not_lt_zero
def iL:=@Nat.one_mul
def Mu:=@Nat.or_lt_two_pow
def r2:=@Nat.pos_of_ne_zero
def oB:=@Nat.pow_add
def Mv:=@Nat.pow_le_pow_left
def my:=@Nat.pow_le_pow_right
def EF:=@Nat.pow_mul
def B':=@Nat.pow_one
def uI:=@Nat.pow_pos
def fC:=@Nat.pow_succ
def yc:=@Nat.pow_zero
def Tj:=@Nat.shiftLeft_eq
def yd:=@Nat.sub_add_cancel
def Tk:=@Nat.sub_mul
def uJ:=@Nat.sub_self
def v8:=@Nat.succ_le_iff
def EG:=@Nat.succ_le_of_lt
def o9:=@Nat.succ_mul
def Tl:=@Nat.testBit_succ
def lS:=@Nat.two_pow_pos
def j7:=@Nat.zero_add
def Mw:=@Nat.zero_div
def ep:=@Nat.zero_le
def j8:=@Nat.zero_mul
def abM:=@Option.bind_eq_some_iff
def Tm:=@Option.bind_some
def Tn:=@Option.getD_some
def qY:=@Option.map_eq_some_iff
def IY:=@Option.map_some
def v9:=@Option.some.inj
def cD:=@Option.some.injEq
def To:=@Option.toList_some
def dK:=@Prod.mk.injEq
def MP:=@beq_false
def dB:=@cond_false
def cv:=@cond_true
def aa:=@congrArg
def m1:=@decide_eq_decide
def fx:=@decide_eq_false
def ie:=@decide_eq_true
def Jt:=@decide_eq_true_eq
def Dl:=@if_false
def bd:=@if_neg
def bj:=@if_pos
def Kz:=@if_true
def Hr:=@of_decide_eq_true
end
end Go
namespace Go.Cre
noncomputable section
inductive a4 (α:Type) where
 |leaf
 |node (v:Option α) (l r:a4 α)
def a4.get {α:Type}(t:a4 α):Nat->Option α:=
 a4.rec (motive:=fun _=>Nat->Option α) (fun _=>none)
  (fun v _ _ l r n=>Nat.rec (motive:=fun _=>Option α) v (fun m _=>Bool.rec (motive:=fun _=>Option α) (r (Nat.div m 2)) (l (Nat.div m 2)) (Nat.beq (Nat.mod m 2) 0)) n) t
def a4.left {α:Type}(v:Option α)(r:a4 α)(l:Option (a4 α)):Option (a4 α):=Option.rec (motive:=fun _=>Option (a4 α)) none (fun l=>some (.node v l r)) l
def a4.right {α:Type}(v:Option α)(l:a4 α)(r:Option (a4 α)):Option (a4 α):=Option.rec (motive:=fun _=>Option (a4 α)) none (fun r=>some (.node v l r)) r
def a4.put {α:Type}(a:α)(t:a4 α):Nat->Option (a4 α):=
 a4.rec (motive:=fun _=>Nat->Option (a4 α))
  (fun n=>Nat.rec (motive:=fun _=>Option (a4 α)) (some (.node (some a) .leaf .leaf)) (fun _ _=>none) n)
  (fun v l r pl xI n=>Nat.rec (motive:=fun _=>Option (a4 α)) (some (.node (some a) l r))
   (fun m _=>Bool.rec (motive:=fun _=>Option (a4 α)) (a4.right v l (xI (Nat.div m 2))) (a4.left v r (pl (Nat.div m 2))) (Nat.beq (Nat.mod m 2) 0)) n) t
def a4.set {α:Type}(_:Nat)(t:a4 α)(n:Nat)(a:α):Option (a4 α):=a4.put a t n
def a4.full {α:Type}(a:α)(d:Nat):a4 α:=Nat.rec (motive:=fun _=>a4 α) .leaf (fun _ t=>.node (some a) t t) d
def D6:Nat:=64
structure Ek where
 state:LoopState
 pending:Option Code
 T:a4 Value
 n:Nat
 params:List Tmp
 assign:Code
 body:Code
 hR:Nat
inductive fs where
 |row (cells:List Value) (elem:TypeId) (opn:Bool) (bP:Nat) (ey:Nat) (sh:Bool)
 |map (es:List MapEntry) (clock:Nat)
 |loop (l:Ek)
 |hR (ds:Option (List Deferred))
 |dead
structure aw where
 mem:a4 fs
 aG:Nat
 bP:a4 (List Nat)
 cF:Nat
 bU:Nat
structure a5 where
 T:a4 Value
 n:Nat
 ds:List Deferred
 cb:Bool
 bE:FrameMode
 cP:Option Nat
def cQ:Nat:=1208925819614629174706176
def tr:Nat:=1208925819614629174706176
def aw.aai (aG:Nat)(bP:a4 (List Nat))(cF bU:Nat):Option (a4 fs)->Option aw
 |some m=>some ⟨m,aG,bP,cF,bU⟩
 |none=>none
def aw.upd (H:aw)(id:Nat)(b:fs):Option aw:=
 match H with
 |⟨mem,aG,bP,cF,bU⟩=>aw.aai aG bP cF bU (a4.put b mem id)
def aw.Yb (aG:Nat)(bP:a4 (List Nat))(cF bU:Nat)(m:a4 fs):Nat->Option (Nat×aw)
 |0=>none
 |n+1=>some (aG,⟨m,n+1,bP,cF,bU⟩)
def aw.QX (aG:Nat)(bP:a4 (List Nat))(cF bU:Nat):Option (a4 fs)->Option (Nat×aw)
 |some m=>aw.Yb aG bP cF bU m (Nat.succ aG)
 |none=>none
def aw.new (H:aw)(b:fs):Option (Nat×aw):=
 match H with
 |⟨mem,aG,bP,cF,bU⟩=>aw.QX aG bP cF bU (a4.put b mem aG)
def aw.Zy (mem:a4 fs)(aG cF bU:Nat):Option (a4 (List Nat))->Option aw
 |some f=>some ⟨mem,aG,f,cF,bU⟩
 |none=>none
def aw.rF (H:aw)(f:Nat)(l:List Nat):Option aw:=
 match H with
 |⟨mem,aG,bP,cF,bU⟩=>aw.Zy mem aG cF bU (a4.put l bP f)
def aw.Yc (mem:a4 fs)(aG:Nat)(bP:a4 (List Nat))(cF bU:Nat):Nat->Option (Nat×aw)
 |0=>none
 |n+1=>some (cF,⟨mem,aG,bP,n+1,bU⟩)
def aw.QY (mem:a4 fs)(aG cF bU:Nat):Option (a4 (List Nat))->Option (Nat×aw)
 |some f=>aw.Yc mem aG f cF bU (Nat.succ cF)
 |none=>none
def aw.vE (H:aw):Option (Nat×aw):=
 match H with
 |⟨mem,aG,bP,cF,bU⟩=>aw.QY mem aG cF bU (a4.put [aG] bP cF)
def aw.oj (H:aw)(cells:List Value)(elem:TypeId)(sh:Bool):Option (Nat×aw):=
 match H.vE with
 |some (f,H)=>H.new (.row cells elem true f 0 sh)
 |none=>none
def jd:Nat->Value->Bool
 |0,_=>false
 |n+1,v=>
  match v with
  |.bool _|.int _ _|.float _ _|.string _|.nilFunc|.nilIface=>true
  |.pointer none|.slice none _ _|.map none=>true
  |.iface _ v=>jd n v
  |.agg cs=>cs.toList.all (jd n)
  |.tuple cs=>cs.toList.all (jd n)
  |.func (.func _) a b=>a.isEmpty&&b.isEmpty
  |_=>false
def plain (v:Value):Bool:=jd 8 v
def nth {α:Type}(l:List α):Nat->Option α:=
 List.rec (motive:=fun _=>Nat->Option α) (fun _=>none) (fun a _ r n=>Nat.rec (motive:=fun _=>Option α) (some a) (fun m _=>r m) n) l
def nY {α:Type}(n:Nat)(l:List α):List α:=
 List.rec (motive:=fun _=>Nat->List α) (fun _=>[]) (fun a t r n=>Nat.rec (motive:=fun _=>List α) (a::t) (fun m _=>r m) n) l n
def takeN {α:Type}:Nat->List α->Option (List α)
 |0,_=>some []
 |_+1,[]=>none
 |n+1,a::l=>match takeN n l with|some r=>some (a::r)|none=>none
def gw {α:Type}:Nat->List α->List α->Option (List α)
 |0,l,[]=>some l
 |0,[],_::_=>none
 |0,_::l,v::vs=>match gw 0 l vs with|some r=>some (v::r)|none=>none
 |_+1,[],_=>none
 |n+1,a::l,vs=>match gw n l vs with|some r=>some (a::r)|none=>none
def ff:Value->Bool
 |.agg _=>false
 |.tuple _=>false
 |_=>true
def fc {α:Type}(P:Program):Sem α->Option α
 |.pure a=>some a
 |.program k=>fc P (k P)
 |.mark _ k=>fc P k
 |_=>none
def DU (H:aw)(g:Nat):Option Value:=
 bif Nat.blt g H.bU then(match H.mem.get g with|some (.row _ _ _ _ _ _)=>some (.pointer (some ⟨g,0,none⟩))|_=>none) else none
def Rg (v:Value):Option Value:=bif plain v then some v else none
def ba (T:a4 Value)(H:aw)(x:Operand):Option Value:=
 Operand.rec (motive:=fun _=>Option Value) (fun t=>T.get t) Rg (DU H) (fun f=>some (.func (.func f) #[] #[])) x
def fz (T:a4 Value)(H:aw):List Operand->Option (List Value)
 |[]=>some []
 |x::l=>match ba T H x with
  |some v=>match fz T H l with|some vs=>some (v::vs)|none=>none
  |none=>none
def r6 (P:Program)(t:TypeId):Option (Option Nat):=
 match P.info? t with
 |none=>none
 |some i=>match P.underlying t with
  |some (.struct _)=>some (some i.size)
  |some (.array _ _)=>some (some i.size)
  |some _=>some none
  |none=>none
def eV (P:Program)(t:TypeId):Option Nat:=match P.info? t with|some i=>some i.size|none=>none
def gR (P:Program)(t:TypeId):Option Value:=match P.info? t with|some i=>i.zero|none=>none
def uQ (P:Program)(t:TypeId):Option Nat:=match P.info? t with|some i=>some i.bytes|none=>none
def m3 (P:Program)(t:TypeId)(cs:List Value)(off:Nat):Option Value:=
 match r6 P t with
 |some (some n)=>match takeN n (nY off cs) with|some l=>some (.agg l.toArray)|none=>none
 |some none=>nth cs off
 |none=>none
def Cw (P:Program)(H:aw)(t:TypeId)(a:Addr):Option Value:=
 match a.spot with
 |some _=>none
 |none=>match H.mem.get a.block with
  |some (.row cells _ _ _ _ _)=>m3 P t cells a.off
  |_=>none
def Ad (P:Program)(H:aw)(t:TypeId):Value->Option Value
 |.pointer (some a)=>Cw P H t a
 |_=>none
def sG (H:aw)(pG:Nat):List Nat->Option aw
 |[]=>some H
 |x::l=>bif Nat.beq x pG then sG H pG l else
  match H.upd x .dead with|some H=>sG H pG l|none=>none
def y0 (H:aw)(id bP:Nat):Option aw:=
 match H.bP.get bP with
 |none=>none
 |some l=>
  match sG H id l with
  |none=>none
  |some H=>H.rF bP [id]
def se (H:aw)(id off:Nat)(vs:List Value):Option aw:=
 match vs with
 |[]=>some H
 |_=>bif Nat.blt id H.bU then none else
  match H.mem.get id with
  |some (.row cells elem opn bP ey sh)=>
   bif Nat.ble ey off&&vs.all ff then
    match gw off cells vs with
    |none=>none
    |some cells=>
     match H.upd id (.row cells elem opn bP ey sh) with
     |none=>none
     |some H=>bif opn then y0 H id bP else some H
   else none
  |_=>none
def Ae (P:Program)(H:aw)(t:TypeId)(p v:Value):Option aw:=
 match p with
 |.pointer (some a)=>match a.spot with
  |some _=>none
  |none=>match eV P t with
   |some n=>bif Nat.beq v.cells.toList.length n then se H a.block a.off v.cells.toList else none
   |none=>none
 |_=>none
def tY (H:aw)(elem:TypeId)(cells:List Value):Option (Nat×aw):=H.new (.row cells elem false 0 0 false)
def wA (H:aw)(elem:TypeId)(v:Value):Option (Value×aw):=
 bif v.cells.toList.all ff then
  match tY H elem v.cells.toList with
  |some (id,H)=>some (.pointer (some ⟨id,0,none⟩),H)
  |none=>none
 else none
def Fx (P:Program)(s:TypeId)(p:Value)(field:Nat):Option Value:=
 match p with
 |.pointer (some a)=>match a.spot with
  |some _=>none
  |none=>match P.underlying s with
   |some (.struct fields)=>match fields[field]? with
    |some f=>match eV P f.type with
     |some (_+1)=>some (.pointer (some ⟨a.block,a.off+f.offset,none⟩))
     |_=>none
    |none=>none
   |_=>none
 |_=>none
def tQ (i:Int)(len:Nat):Option Nat:=
 match i with
 |.ofNat n=>bif Nat.blt n len then some n else none
 |.negSucc _=>none
def qz (i:Int)(len:Nat):Option Nat:=
 match i with
 |.ofNat n=>bif Nat.ble n len then some n else none
 |.negSucc _=>none
def wC (P:Program)(t:TypeId)(x bh:Value):Option Value:=
 match bh with
 |.int _ i=>
  match P.underlying t,x with
  |some (.array len elem),.pointer (some a)=>match a.spot with
   |some _=>none
   |none=>match tQ i len,eV P elem with
    |some n,some sz=>some (.pointer (some ⟨a.block,a.off+n*sz,none⟩))
    |_,_=>none
  |some (.slice elem),.slice (some a) len _=>match a.spot with
   |some _=>none
   |none=>match tQ i len,eV P elem with
    |some n,some sz=>some (.pointer (some ⟨a.block,a.off+n*sz,none⟩))
    |_,_=>none
  |_,_=>none
 |_=>none
def ks (d:Nat)(top:Nat):Option Value->Option Nat
 |none=>some d
 |some (.int _ i)=>qz i top
 |some _=>none
def kt (P:Program)(H:aw)(t:TypeId)(x:Value)(lo ar:Option Value):Option Value:=
 match P.underlying t,x with
 |some (.array n elem),.pointer (some a)=>match a.spot with
  |some _=>none
  |none=>match eV P elem with
   |none=>none
   |some sz=>bif !Nat.blt n cQ then none else match ks n n ar with
    |none=>none
    |some h=>match ks 0 h lo with
     |none=>none
     |some l=>some (.slice (some (bif Nat.beq n l then a else⟨a.block,a.off+l*sz,none⟩)) (Nat.sub h l) (Nat.sub n l))
 |some (.slice elem),.slice (some a) len cap=>match a.spot with
  |some _=>none
  |none=>match eV P elem with
   |none=>none
   |some sz=>
    bif Nat.beq cap cQ then
     match H.mem.get a.block with
     |some (.row _ el _ _ _ _)=>bif !Nat.beq el elem then none else
      (match ks len len ar with
      |none=>none
      |some h=>match ks 0 h lo with
       |none=>none
       |some l=>some (.slice (some ⟨a.block,a.off+l*sz,none⟩) (Nat.sub h l) cQ))
     |_=>none
    else
     match ks len cap ar with
     |none=>none
     |some h=>match ks 0 h lo with
      |none=>none
      |some l=>some (.slice (some (bif Nat.beq cap l then a else⟨a.block,a.off+l*sz,none⟩)) (Nat.sub h l) (Nat.sub cap l))
 |_,_=>none
def Sv (v:Value)(n:Nat):List Value:=Nat.rec (motive:=fun _=>List Value) [] (fun _ aZ=>v::aZ) n
def aqP (z:List Value)(n:Nat):List Value:=Nat.rec (motive:=fun _=>List Value) [] (fun _ aZ=>z++aZ) n
def fM (z:List Value)(n:Nat):List Value:=
 match z with
 |[]=>[]
 |[v]=>Sv v n
 |a::b::z=>aqP (a::b::z) n
def Fy (P:Program)(H:aw)(t:TypeId)(l c:Value):Option (Value×aw):=
 match l,c,P.underlying t with
 |.int _ l,.int _ c,some (.slice elem)=>
  match gR P elem,uQ P elem,eV P elem with
  |some z,some jm,some sz=>
   match qz c 1000000,qz l 1000000 with
   |some c,some l=>
    bif Nat.ble l c&&Nat.ble jm 1000000&&Nat.beq z.cells.toList.length sz&&z.cells.toList.all ff&&plain z then
     match tY H elem (fM z.cells.toList c) with
     |some (id,H)=>some (.slice (some ⟨id,0,none⟩) l c,H)
     |none=>none
    else none
   |_,_=>none
  |_,_,_=>none
 |_,_,_=>none
def jV (H:aw)(sz n:Nat):Value->Option (List Value)
 |.slice (some a) _ _=>match n with
  |0=>some []
  |_=>match a.spot with
   |some _=>none
   |none=>match H.mem.get a.block with
    |some (.row cells _ _ _ _ _)=>takeN (n*sz) (nY a.off cells)
    |_=>none
 |.slice none _ _=>match n with|0=>some []|_=>none
 |.string s=>match takeN n s.data.toList with
  |some l=>some (l.map fun b=>.int .u8 b.toNat)
  |none=>none
 |_=>none
def rq:Value->Option Nat
 |.slice _ n _=>some n
 |.string s=>some s.data.toList.length
 |_=>none
def yt (H:aw)(id:Nat):List Nat->Option (List Nat×aw)
 |[]=>none
 |x::l=>bif Nat.beq x id then some (x::l,H) else
  match H.upd x .dead with|some H=>yt H id l|none=>none
def Fi (H:aw)(l:List Nat)(same:Bool):Option (List Nat×aw):=
 bif same then some (l,H) else(match sG H H.aG l with|some H=>some ([],H)|none=>none)
def fresh (H:aw)(elem:TypeId)(cells:List Value)(len:Nat):Option (Value×aw):=
 match H.oj cells elem false with
 |some (id,H)=>some (.slice (some ⟨id,0,none⟩) len cQ,H)
 |none=>none
def y1:Option Addr->Bool
 |some a=>(match a.spot with|none=>true|some _=>false)
 |none=>true
def qg (P:Program)(H:aw)(gF:TypeId)(s x:Value):Option (Value×aw):=
 match P.underlying gF,s with
 |some (.slice elem),.slice base da iE=>
  match eV P elem,uQ P elem,gR P elem,rq x with
  |some sz,some jm,some z,some n=>
   bif !(Nat.ble (da+n) 1000000&&Nat.ble jm 1000000&&Nat.beq z.cells.toList.length sz) then none else
   match jV H sz n x with
   |none=>none
   |some new=>
    bif !(new.all ff&&Nat.beq new.length (n*sz)) then none else
    bif Nat.beq iE cQ then
     match base with
     |some a=>match a.spot with
      |some _=>none
      |none=>match H.mem.get a.block with
       |some (.row cells el true bP ey sh)=>
        bif !(Nat.beq el elem&&!Nat.blt a.block H.bU&&Nat.ble ey (a.off+da*sz)) then none else
        bif Nat.beq n 0 then some (s,H) else
        bif !(Nat.beq a.off 0) then none else
        match takeN (da*sz) cells with
        |none=>none
        |some eb=>
         match H.bP.get bP with
         |none=>none
         |some l=>
          match yt H a.block l with
          |none=>none
          |some (l,H)=>
           match Fi H l (Nat.beq cells.length (da*sz)) with
           |none=>none
           |some (l,H)=>
            match H.rF bP (H.aG::l) with
            |none=>none
            |some H=>match H.new (.row (eb++new) elem true bP ey sh) with
             |some (id,H)=>some (.slice (some ⟨id,0,none⟩) (da+n) cQ,H)
             |none=>none
       |_=>none
     |none=>none
    else
     bif Nat.ble (da+n) iE then
      match base with
      |none=>bif Nat.beq n 0 then some (s,H) else none
      |some a=>match a.spot with
       |some _=>none
       |none=>match se H a.block (a.off+da*sz) new with
        |some H=>some (.slice base (da+n) iE,H)
        |none=>none
     else
      bif y1 base then
       match jV H sz da s with
       |none=>none
       |some eb=>bif Nat.beq eb.length (da*sz) then fresh H elem (eb++new) (da+n) else none
      else none
  |_,_,_,_=>none
 |_,_=>none
def NG (P:Program)(H:aw)(rI:TypeId)(d s:Value):Option (Value×aw):=
 match P.underlying rI,d,rq s with
 |some (.slice elem),.slice base uU _,some da=>
  match eV P elem with
  |none=>none
  |some sz=>
   let n:=bif Nat.ble da uU then da else uU
   match jV H sz n s with
   |none=>none
   |some cells=>match base with
    |none=>some (.int .i64 n,H)
    |some a=>match a.spot with
     |some _=>none
     |none=>bif !(cells.all ff) then none else match se H a.block a.off cells with
      |some H=>some (.int .i64 n,H)
      |none=>none
 |_,_,_=>none
def NE (P:Program)(H:aw)(t:TypeId)(x:Value):Option (Value×aw):=
 match P.underlying t,x with
 |some _,.slice none _ _=>some (.tuple #[],H)
 |some _,.slice (some _) 0 _=>some (.tuple #[],H)
 |some (.slice elem),.slice (some a) (n+1) _=>(match a.spot,gR P elem with
  |none,some z=>bif plain z then(match se H a.block a.off (fM z.cells.toList (n+1)) with
   |some H=>some (.tuple #[],H)
   |none=>none) else none
  |_,_=>none)
 |_,_=>none
def places (P:Program):List Field->Option (List (Nat×Nat))
 |[]=>some []
 |f::l=>match eV P f.type,places P l with
  |some n,some r=>some ((f.offset,n)::r)
  |_,_=>none
def nr (place:Nat->Option (Nat×Nat)):List Value->List (Nat×Value)->Option (List Value)
 |cells,[]=>some cells
 |cells,(i,v)::rest=>match place i with
  |none=>none
  |some (off,size)=>bif Nat.beq v.cells.toList.length size then
   (match gw off cells v.cells.toList with
    |some cells=>nr place cells rest
    |none=>none)
   else none
def Fu (P:Program)(t:TypeId)(parts:List (Nat×Value)):Option Value:=
 match gR P t,P.underlying t with
 |some z,some (.struct fields)=>bif plain z then
  match places P fields.toList with
  |some ps=>match nr (nth ps) z.cells.toList parts with
   |some cells=>some (.agg cells.toArray)
   |none=>none
  |none=>none
  else none
 |some z,some (.array _ elem)=>bif plain z then
  match eV P elem with
  |some sz=>match nr (fun i=>some (i*sz,sz)) z.cells.toList parts with
   |some cells=>some (.agg cells.toArray)
   |none=>none
  |none=>none
  else none
 |_,_=>none
def Fv (P:Program)(H:aw)(t:TypeId)(len:Nat)(parts:List (Nat×Value)):Option (Value×aw):=
 match P.underlying t with
 |some (.slice elem)=>match eV P elem,gR P elem with
  |some sz,some z=>
   bif Nat.ble len 100000&&Nat.ble (len*sz) 100000&&plain z&&Nat.beq z.cells.toList.length sz then
    match nr (fun i=>some (i*sz,sz)) (fM z.cells.toList len) parts with
    |some cells=>bif cells.all ff then
     (match tY H elem cells with
      |some (id,H)=>some (.slice (some ⟨id,0,none⟩) len len,H)
      |none=>none)
     else none
    |none=>none
   else none
  |_,_=>none
 |_=>none
def lI (T:a4 Value)(H:aw):List (Nat×Operand)->Option (List (Nat×Value))
 |[]=>some []
 |(i,x)::l=>match ba T H x with
  |some v=>match lI T H l with|some r=>some ((i,v)::r)|none=>none
  |none=>none
def Cz (P:Program)(x:Value)(asserted:TypeId)(ok:Bool):Option Value:=
 let JC:Option Value:=bif ok then(match gR P asserted with|some z=>bif plain z then some (.tuple #[z,.bool false]) else none|none=>none) else none
 match P.underlying asserted,x with
 |some (.interface _),.nilIface=>JC
 |some (.interface want),.iface t _=>match P.info? t with
  |some i=>match Instr.missingMethod want i.methods with
   |none=>some (bif ok then .tuple #[x,.bool true] else x)
   |some _=>JC
  |none=>none
 |some _,.nilIface=>JC
 |some _,.iface t v=>bif Nat.beq t asserted then some (bif ok then .tuple #[v,.bool true] else v) else JC
 |_,_=>none
def NF (P:Program)(H:aw)(src dst:TypeId)(x:Value):Option Value:=
 match P.underlying src,P.underlying dst,x with
 |some (.pointer t),some .unsafePointer,.pointer (some a)=>(match a.spot,eV P t,H.mem.get a.block with
  |none,some (_+1),some (.row cells _ _ _ _ _)=>bif Nat.blt a.off cells.length then some x else none
  |_,_,_=>none)
 |some .unsafePointer,some (.pointer u),.pointer (some a)=>(match a.spot,eV P u,H.mem.get a.block with
  |none,some (_+1),some (.row cells e false _ _ _)=>bif liesAt P P.depth e (cells.length / P.cellsOf e) a.off u 1 then some x else none
  |_,_,_=>none)
 |_,_,_=>none
def qd:List Value->Option (List UInt8)
 |[]=>some []
 |.int .u8 (.ofNat n)::l=>bif Nat.blt n 256 then(match qd l with|some r=>some (UInt8.ofNat n::r)|none=>none) else none
 |_::_=>none
def Cy (P:Program)(H:aw)(src dst:TypeId)(x:Value):Option Value:=
 match P.underlying src,P.underlying dst,x with
 |some (.slice e),some .string,.slice (some a) len _=>bif !(y1 (some a)) then none else(match P.underlying e with
  |some (.int .u8)=>(match jV H 1 len (.slice (some a) len 0) with
   |some cells=>(match qd cells with
    |some lk=>some (.string ⟨lk.toArray⟩)
    |none=>none)
   |none=>none)
  |_=>none)
 |some (.slice e),some .string,.slice none _ _=>(match P.underlying e with
  |some (.int .u8)=>some (.string .empty)
  |_=>none)
 |_,_,_=>none
def isByte (v:Value):Bool:=match v with
 |.int .u8 (.ofNat n)=>Nat.blt n 256
 |_=>false
def byteOf (v:Value):UInt8:=match v with
 |.int .u8 (.ofNat n)=>UInt8.ofNat n
 |_=>0
def alM (l:List Value):Option (List Value):=List.rec (motive:=fun _=>Option (List Value)) none (fun v t _=>Bool.rec (motive:=fun _=>Option (List Value)) none (some t) (isByte v)) l
def wv (k:Nat):List Value->Option (List Value):=
 Nat.rec (motive:=fun _=>List Value->Option (List Value)) alM (fun _ aZ l=>Option.rec (motive:=fun _=>Option (List Value)) none aZ (aZ l)) k
def z7 (k:Nat):Nat->List Value->Bool:=
 Nat.rec (motive:=fun _=>Nat->List Value->Bool) (fun n _=>Nat.beq n 0)
  (fun k aZ n l=>Bool.rec (motive:=fun _=>Bool) (Option.rec (motive:=fun _=>Bool) false (fun r=>aZ (Nat.sub n (Nat.pow 2 k)) r) (wv k l)) (aZ n l) (Nat.blt n (Nat.pow 2 k))) k
def Z2 (n:Nat)(l:List Value):List UInt8:=
 List.rec (motive:=fun _=>Nat->List UInt8) (fun _=>[]) (fun v _ aZ n=>Nat.rec (motive:=fun _=>List UInt8) [] (fun m _=>byteOf v::aZ m) n) l n
def Z7 (len:Nat)(cells:List Value):Option Value:=bif z7 21 len cells then some (.string ⟨(Z2 len cells).toArray⟩) else none
def NJ (P:Program)(H:aw)(src dst:TypeId)(x:Value):Option Value:=
 match P.underlying src,P.underlying dst,x with
 |some (.slice e),some .string,.slice (some a) len _=>(match P.underlying e,a.spot,H.mem.get a.block with
  |some (.int .u8),none,some (.row cells _ _ _ _ _)=>Z7 len (nY a.off cells)
  |_,_,_=>none)
 |_,_,_=>none
def Qu (x:Value):Bool:=match x with
 |.slice _ len _=>Nat.blt 256 len
 |_=>false
def NI (P:Program)(H:aw)(src dst:TypeId)(x:Value):Option Value:=
 bif Qu x then NJ P H src dst x else Cy P H src dst x
def isNil {α:Type}(l:List α):Bool:=List.rec (motive:=fun _=>Bool) true (fun _ _ _=>false) l
def ae3 {α:Type}(l:List α):Option (List α):=List.rec (motive:=fun _=>Option (List α)) none (fun _ t _=>some t) l
def wu {α:Type}(k:Nat):List α->Option (List α):=
 Nat.rec (motive:=fun _=>List α->Option (List α)) ae3 (fun _ aZ l=>Option.rec (motive:=fun _=>Option (List α)) none aZ (aZ l)) k
def z8 {α:Type}(k:Nat):Nat->List α->Option Nat:=
 Nat.rec (motive:=fun _=>Nat->List α->Option Nat) (fun n l=>Bool.rec (motive:=fun _=>Option Nat) none (some n) (isNil l))
  (fun k aZ n l=>Option.rec (motive:=fun _=>Option Nat) (aZ n l) (fun r=>aZ (Nat.add n (Nat.pow 2 k)) r) (wu k l)) k
def A3 {α:Type}(l:List α):Option Nat:=bif isNil (nY 256 l) then some l.length else
 match z8 17 0 l with
 |some n=>some n
 |none=>match z8 21 0 l with
  |some n=>some n
  |none=>some l.length
def strCells (l:List UInt8):List Value:=List.rec (motive:=fun _=>List Value) [] (fun b _ r=>Value.int .u8 (.ofNat b.toNat)::r) l
def afJ (n:Nat):Option (Nat×aw)->Option (Value×aw)
 |some (id,H)=>some (.slice (some ⟨id,0,none⟩) n cQ,H)
 |none=>none
def wD (P:Program)(H:aw)(src dst:TypeId)(s:ByteArray):Option (Value×aw):=
 match P.underlying src,P.underlying dst with
 |some .string,some (.slice e)=>(match P.underlying e with
  |some (.int .u8)=>bif Nat.beq (P.cellsOf e) 1 then afJ s.data.toList.length (H.oj (strCells s.data.toList) e true) else none
  |_=>none)
 |_,_=>none
def NK (P:Program)(H:aw)(sO:TypeId)(p n:Value):Option (Value×aw):=
 match p,n with
 |.pointer (some a),.int .i64 (.ofNat 0)=>(match a.spot with|none=>some (.string .empty,H)|some _=>none)
 |.pointer none,.int .i64 (.ofNat 0)=>some (.string .empty,H)
 |.pointer (some a),.int .i64 (.ofNat (n+1))=>(match a.spot,P.underlying sO,H.mem.get a.block with
  |none,some (.pointer u),some (.row cells e opn bP ey sh)=>
   bif !(Nat.beq e u&&Nat.beq (P.cellsOf e) 1&&Nat.ble (n+1) 1000000&&!Nat.blt a.block H.bU&&Nat.beq a.off 0&&!sh) then none else
   (match takeN (n+1) cells with
   |none=>none
   |some l=>(match qd l with
    |none=>none
    |some lk=>
     match H.upd a.block (.row cells e opn bP (bif sh then tr else Nat.max ey (n+1)) sh) with
     |some H=>(match(bif opn then y0 H a.block bP else some H) with
      |some H=>some (.string ⟨lk.toArray⟩,H)
      |none=>none)
     |none=>none))
  |_,_,_=>none)
 |_,_=>none
def wB (P:Program)(t:TypeId)(x y:Value):Option Bool:=
 match P.underlying t,x,y with
 |some (.pointer _),.pointer none,.pointer b=>some b.isNone
 |some (.pointer _),.pointer (some _),.pointer none=>some false
 |some (.pointer elem),.pointer (some a),.pointer (some b)=>(match eV P elem with
  |some (_+1)=>bif Nat.beq a.block b.block then some (a==b) else none
  |_=>none)
 |some (.slice _),.slice none _ _,.slice b _ _=>some b.isNone
 |some (.slice _),.slice (some _) _ _,.slice none _ _=>some false
 |some (.map _ _),.map none,.map b=>some b.isNone
 |some (.map _ _),.map (some _),.map none=>some false
 |some (.func _ _ _),.nilFunc,.func _ _ _=>some false
 |some (.func _ _ _),.func _ _ _,.nilFunc=>some false
 |some (.interface _),.nilIface,.iface _ _=>some false
 |some (.interface _),.iface _ _,.nilIface=>some false
 |_,_,_=>none
end
end Go.Cre
namespace Go.Cre
noncomputable section
inductive cT where
 |val (v:Value) (H:aw)
 |skip (H:aw)
 |hR (d:Deferred)
 |jc (chain:List PanicEntry) (H:aw)
 |Bu
def g3 (v:Option Value)(H:aw):Option cT:=Option.rec (motive:=fun _=>Option cT) none (fun v=>some (.val v H)) v
def nd:Option (Value×aw)->Option cT
 |some (v,H)=>some (.val v H)
 |none=>none
def JO:Option aw->Option cT
 |some H=>some (.skip H)
 |none=>none
def pL (T:a4 Value)(H:aw)(x:Operand):Value:=match ba T H x with|some v=>v|none=>undef
def fk (P:Program)(T:a4 Value)(H:aw)(o:Oper):Option cT:=
 match fz T H o.op.operands.toList with
 |none=>none
 |some vs=>bif vs.all plain then
  match fc P (execOp (pL T H) o) with
  |some (.value v)=>bif plain v then some (.val v H) else none
  |some .skip=>some (.skip H)
  |_=>none
  else none
def orElse (a b:Option cT):Option cT:=match a with|some x=>some x|none=>b
abbrev eZ:=FuncId->List Value->aw->Option (Ending×aw)
abbrev hd:=Nat->List Value->aw->Option (Ending×aw)
def yA (P:Program)(H:aw)(recv:Value)(name:String)(rest:List Value):Option (FuncId×List Value):=
 match recv with
 |.iface t v=>match P.info? t with
  |none=>none
  |some i=>match i.methods.find? (·.name==name) with
   |none=>none
   |some m=>bif !m.path.isEmpty then none else
    match m.func with
    |none=>none
    |some (f,xI)=>match P.underlying t,xI with
     |some (.pointer _),true=>some (f,v::rest)
     |some (.pointer _),false=>none
     |some _,false=>some (f,v::rest)
     |_,_=>none
 |_=>none
def kY (P:Program)(H:aw)(fn:Fn)(args captured:List Value):Option (FuncId×List Value):=
 match fn with
 |.func f=>some (f,args++captured)
 |.method name=>match args with|r::rest=>yA P H r name rest|[]=>none
 |.methodOf t name=>match args with
  |r::rest=>match P.underlying t with
   |some (.interface _)=>yA P H r name rest
   |some _=>yA P H (.iface t r) name rest
   |none=>none
  |[]=>none
 |_=>none
def pk:Option (Ending×aw)->Option cT
 |some (.returned v,H)=>some (.val v H)
 |some (.panicked chain,H)=>some (.jc chain H)
 |_=>none
def Ij:Option (Ending×aw)->Option cT
 |some (.returned v,H)=>some (.val v H)
 |_=>none
def n0 (P:Program)(call:eZ)(aQ:hd)(T:a4 Value)(H:aw)(c:Call):Option cT:=
 match fz T H c.args.toList with
 |none=>none
 |some args=>match c.callee with
  |.value f=>match ba T H f with
   |some (.func (.yield l) first captured)=>bif first.isEmpty&&captured.isEmpty then Ij (aQ l args H) else none
   |some (.func fn first captured)=>match kY P H fn (first.toList++args) captured.toList with
    |some (f,b2)=>pk (call f b2 H)
    |none=>none
   |_=>none
  |.invoke recv name=>match ba T H recv with
   |some r=>match yA P H r name args with
    |some (f,b2)=>pk (call f b2 H)
    |none=>none
   |none=>none
  |.builtin _=>none
def q5 {α:Type}(n:Int)(k:Int->α):α:=
 match n with
 |.ofNat 0=>k (.ofNat 0)
 |.ofNat (m+1)=>k (.ofNat (m+1))
 |.negSucc 0=>k (.negSucc 0)
 |.negSucc (m+1)=>k (.negSucc (m+1))
def pP (H:aw)(k:IntKind)(n:Int):Option cT:=some (.val (.int k n) H)
def qh (P:Program)(S:a5)(H:aw)(o:Oper)(b:Builtin)(c:Call):Option cT:=
 match fz S.T H c.args.toList with
 |none=>none
 |some args=>match b,args,c.argTypes.toList with
  |.len,[.slice _ n _],[t]=>(match P.underlying t with
   |some (.slice _)=>some (.val (.int .i64 n) H)
   |_=>none)
  |.len,[.map (some r)],[t]=>(match P.underlying t with
   |some (.map _ _)=>(match H.mem.get r with
    |some (.map es _)=>some (.val (.int .i64 es.length) H)
    |_=>none)
   |_=>none)
  |.len,[.string s],[t]=>(match P.underlying t with
   |some .string=>(match A3 s.data.toList with|some n=>q5 (.ofNat n) (pP H .i64)|none=>none)
   |_=>none)
  |.append,[s,x],[gF,hM]=>(match P.underlying hM with
   |some (.int _)=>none
   |some _=>nd (qg P H gF s x)
   |none=>none)
  |.cap,[.slice (some _) _ c],[t]=>(match P.underlying t with
   |some (.slice _)=>bif Nat.beq c cQ then none else some (.val (.int .i64 c) H)
   |_=>none)
  |.unsafeSliceData,[.slice (some a) len c],_=>bif Nat.beq c cQ&&Nat.beq len 0 then none else bif Nat.beq c 0 then none else some (.val (.pointer (some a)) H)
  |.unsafeString,[p,n],[sO,_]=>nd (NK P H sO p n)
  |.copy,[d,s],[rI,_]=>nd (NG P H rI d s)
  |.clear,[x],[t]=>nd (NE P H t x)
  |.panic,[.iface t v],_=>some (.jc [{v:=.iface t v,recovered:=false}] H)
  |.recover,[],_=>some .Bu
  |_,_,_=>fk P S.T H o
def xv:Fn->Bool
 |.yield _=>false
 |_=>true
def Fw (aq6:Program)(T:a4 Value)(H:aw)(c:Call):Option cT:=
 match fz T H c.args.toList with
 |none=>none
 |some args=>match c.callee with
  |.value f=>match ba T H f with
   |some (.func fn first captured)=>bif xv fn then some (.hR {target:=.fn fn captured,args:=(first.toList++args).toArray}) else none
   |_=>none
  |.invoke recv name=>match ba T H recv with
   |some r=>some (.hR {target:=.fn (.method name) #[],args:=(r::args).toArray})
   |none=>none
  |.builtin _=>none
def hH (T:a4 Value)(H:aw):Option Operand->Option (Option Value)
 |none=>some none
 |some x=>match ba T H x with|some v=>some (some v)|none=>none
structure eo where
 call:eZ
 aQ:hd
 S:a5
 H:aw
 o:Oper
def eo.ba (X:eo)(x:Operand):Option Value:=Cre.ba X.S.T X.H x
def eo.om (P:Program)(X:eo):Option cT:=fk P X.S.T X.H X.o
def Yw (P:Program)(X:eo)(x:Operand):Option cT:=g3 (X.ba x) X.H
def y' (P:Program)(X:eo)(a b:Operand):Option Value->Option cT
 |some (.bool true)=>g3 (X.ba a) X.H
 |some (.bool false)=>g3 (X.ba b) X.H
 |_=>none
def amd (P:Program)(X:eo)(c a b:Operand):Option cT:=y' P X a b (X.ba c)
def Re (P:Program)(X:eo)(elem:TypeId):Option Value->Option cT
 |some z=>bif plain z then nd (wA X.H elem z) else none
 |none=>none
def alW (P:Program)(X:eo)(elem:TypeId):Option cT:=Re P X elem (gR P elem)
def HB (P:Program)(X:eo)(elem:TypeId):Option Value->Option cT
 |some v=>nd (wA X.H elem v)
 |none=>none
def alY (P:Program)(X:eo)(elem:TypeId)(x:Operand):Option cT:=HB P X elem (X.ba x)
def Bj (P:Program)(X:eo)(t:TypeId):Option (List (Nat×Value))->Option cT
 |some ps=>g3 (Fu P t ps) X.H
 |none=>none
def alZ (P:Program)(X:eo)(t:TypeId)(parts:Array (Nat×Operand)):Option cT:=Bj P X t (lI X.S.T X.H parts.toList)
def HC (P:Program)(X:eo)(t:TypeId)(len:Nat):Option (List (Nat×Value))->Option cT
 |some ps=>nd (Fv P X.H t len ps)
 |none=>none
def al0 (P:Program)(X:eo)(t:TypeId)(len:Nat)(parts:Array (Nat×Operand)):Option cT:=HC P X t len (lI X.S.T X.H parts.toList)
def Bm (P:Program)(X:eo)(t:TypeId):Option Value->Option cT
 |some p=>g3 (Ad P X.H t p) X.H
 |none=>none
def al7 (P:Program)(X:eo)(t:TypeId)(a:Operand):Option cT:=Bm P X t (X.ba a)
def DT (P:Program)(X:eo)(t:TypeId):Option Value->Option Value->Option cT
 |some p,some v=>JO (Ae P X.H t p v)
 |_,_=>none
def amf (P:Program)(X:eo)(t:TypeId)(a x:Operand):Option cT:=DT P X t (X.ba a) (X.ba x)
def Bp (P:Program)(X:eo):Option Value->Option cT
 |some (.pointer (some a))=>some (.val (.pointer (some a)) X.H)
 |some (.func (.func f) a b)=>some (.val (.func (.func f) a b) X.H)
 |some (.iface t v)=>some (.val (.iface t v) X.H)
 |_=>none
def ama (P:Program)(X:eo)(x:Operand):Option cT:=Bp P X (X.ba x)
def tS:IntKind->Nat
 |.i8=>0|.i16=>0|.i32=>2147483648|.i64=>9223372036854775808
 |.u8=>256|.u16=>65536|.u32=>4294967296|.u64=>18446744073709551616
def zz (k:IntKind)(n:Int):Int:=
 match n with
 |.ofNat m=>bif Nat.blt m (tS k) then .ofNat m else k.wrap (.ofNat m)
 |.negSucc m=>bif k.signed&&Nat.blt m (tS k) then .negSucc m else k.wrap (.negSucc m)
def qy:Int->Int->Bool
 |.ofNat a,.ofNat b=>Nat.blt a b
 |.negSucc _,.ofNat _=>true
 |.ofNat _,.negSucc _=>false
 |.negSucc a,.negSucc b=>Nat.blt b a
def qx:Int->Int->Bool
 |.ofNat a,.ofNat b=>Nat.beq a b
 |.negSucc a,.negSucc b=>Nat.beq a b
 |_,_=>false
def xM (H:aw):Bool->Option cT
 |true=>some (.val (.bool true) H)
 |false=>some (.val (.bool false) H)
def jG (H:aw)(k:IntKind)(a b:Int)(zp:Option cT):BinOp->Option cT
 |.add=>q5 (zz k (a+b)) (pP H k)
 |.sub=>q5 (zz k (a -b)) (pP H k)
 |.mul=>q5 (zz k (a*b)) (pP H k)
 |.eql=>xM H (qx a b)
 |.neq=>xM H (!qx a b)
 |.lss=>xM H (qy a b)
 |.leq=>xM H (!qy b a)
 |.gtr=>xM H (qy b a)
 |.geq=>xM H (!qy a b)
 |_=>zp
def vG (P:Program)(X:eo)(t:TypeId)(a b:Value):BinOp->Option cT
 |.eql=>(match wB P t a b with|some r=>some (.val (.bool r) X.H)|none=>none)
 |.neq=>(match wB P t a b with|some r=>some (.val (.bool (!r)) X.H)|none=>none)
 |_=>none
def t' (P:Program)(X:eo)(op:BinOp)(t:TypeId)(a b:Value):Option cT:=orElse (eo.om P X) (vG P X t a b op)
def mi:IntKind->IntKind->Bool
 |.i8,.i8=>true|.i16,.i16=>true|.i32,.i32=>true|.i64,.i64=>true|.u8,.u8=>true|.u16,.u16=>true|.u32,.u32=>true|.u64,.u64=>true
 |_,_=>false
def Rf (P:Program)(X:eo)(op:BinOp)(t:TypeId)(k:IntKind)(a:Int)(l:IntKind)(b:Int):Option cT:=
 bif mi k l then jG X.H k a b (eo.om P X) op else t' P X op t (.int k a) (.int l b)
def l6 (P:Program)(X:eo)(op:BinOp)(t:TypeId):Option Value->Option Value->Option cT
 |some (.int k a),some (.int l b)=>Rf P X op t k a l b
 |some a,some b=>t' P X op t a b
 |_,_=>none
def alX (P:Program)(X:eo)(op:BinOp)(t:TypeId)(x y:Operand)(_:TypeId):Option cT:=l6 P X op t (X.ba x) (X.ba y)
def xD (P:Program)(X:eo)(src dst:TypeId):Option Value->Option cT
 |none=>none
 |some (.string s)=>orElse (nd (wD P X.H src dst s)) (eo.om P X)
 |some (.pointer (some a))=>g3 (NF P X.H src dst (.pointer (some a))) X.H
 |some (.slice b l c)=>g3 (NI P X.H src dst (.slice b l c)) X.H
 |some (.int _ n)=>(match P.underlying src,P.underlying dst with
  |some _,some (.int k)=>q5 (zz k n) (pP X.H k)
  |_,_=>(eo.om P X))
 |some _=>(eo.om P X)
def al1 (P:Program)(X:eo)(src dst:TypeId)(x:Operand):Option cT:=xD P X src dst (X.ba x)
def Bo (P:Program)(X:eo)(t:TypeId):Option Value->Option TypeDesc->Option cT
 |some _,some (.interface _)=>none
 |some v,some _=>some (.val (.iface t v) X.H)
 |_,_=>none
def al9 (P:Program)(X:eo)(t:TypeId)(x:Operand):Option cT:=Bo P X t (X.ba x) (P.underlying t)
def Bn (P:Program)(X:eo)(fn:Fn):Option (List Value)->Option (List Value)->Option cT
 |some a,some b=>(match fn with
  |.yield _=>none
  |fn=>some (.val (.func fn a.toArray b.toArray) X.H))
 |_,_=>none
def al8 (P:Program)(X:eo)(fn:Fn)(first captured:Array Operand):Option cT:=Bn P X fn (fz X.S.T X.H first.toList) (fz X.S.T X.H captured.toList)
def HD (P:Program)(X:eo)(t:TypeId):Option Value->Option Value->Option cT
 |some l,some c=>nd (Fy P X.H t l c)
 |_,_=>none
def al' (P:Program)(X:eo)(t:TypeId)(l c:Operand):Option cT:=HD P X t (X.ba l) (X.ba c)
def mn (P:Program)(X:eo)(t:TypeId):Option Value->Option (Option Value)->Option (Option Value)->Option cT
 |some v,some lo,some ar=>orElse (g3 (kt P X.H t v lo ar) X.H) (eo.om P X)
 |_,_,_=>none
def ame (P:Program)(X:eo)(t:TypeId)(x:Operand)(lo ar:Option Operand):Option Operand->Option cT
 |none=>mn P X t (X.ba x) (hH X.S.T X.H lo) (hH X.S.T X.H ar)
 |some _=>none
def Bl (P:Program)(X:eo)(s:TypeId)(f:Nat):Option Value->Option cT
 |some p=>g3 (Fx P s p f) X.H
 |none=>none
def al4 (P:Program)(X:eo)(s:TypeId)(x:Operand)(f:Nat):Option cT:=Bl P X s f (X.ba x)
def DS (P:Program)(X:eo)(f:Nat):Option Value->Option TypeDesc->Option cT
 |some (.agg cs),some (.struct fields)=>(match fields[f]? with
  |some f=>g3 (m3 P f.type cs.toList f.offset) X.H
  |none=>none)
 |_,_=>none
def al3 (P:Program)(X:eo)(t:TypeId)(x:Operand)(f:Nat):Option cT:=DS P X f (X.ba x) (P.underlying t)
def xE (P:Program)(X:eo)(t:TypeId):Option Value->Option Value->Option cT
 |some x,some bh=>g3 (wC P t x bh) X.H
 |_,_=>none
def al6 (P:Program)(X:eo)(t:TypeId)(x bh:Operand):Option cT:=xE P X t (X.ba x) (X.ba bh)
def y9 (P:Program)(X:eo):Option Value->Option Value->Option TypeDesc->Option cT
 |some (.agg cs),some (.int _ i),some (.array len elem)=>(match tQ i len,eV P elem with
  |some n,some sz=>g3 (m3 P elem cs.toList (n*sz)) X.H
  |_,_=>none)
 |some (.string s),some (.int _ i),some .string=>(match i with
  |.ofNat n=>(match nth s.data.toList n with
   |some b=>q5 (.ofNat b.toNat) (pP X.H .u8)
   |none=>none)
  |.negSucc _=>none)
 |_,_,_=>none
def al5 (P:Program)(X:eo)(t:TypeId)(x bh:Operand):Option cT:=y9 P X (X.ba x) (X.ba bh) (P.underlying t)
def Bq (P:Program)(X:eo)(asserted:TypeId)(ok:Bool):Option Value->Option cT
 |some v=>g3 (Cz P v asserted ok) X.H
 |none=>none
def amg (P:Program)(X:eo)(x:Operand)(_ asserted:TypeId)(ok:Bool):Option cT:=Bq P X asserted ok (X.ba x)
def Bk (P:Program)(X:eo)(bh:Nat):Option Value->Option cT
 |some (.tuple vs)=>g3 (nth vs.toList bh) X.H
 |_=>none
def al2 (P:Program)(X:eo)(t:Operand)(bh:Nat):Option cT:=Bk P X bh (X.ba t)
def k9 (P:Program)(X:eo)(c:Call):Option cT:=
 match c.callee with
 |.builtin b=>qh P X.S X.H X.o b c
 |_=>n0 P X.call X.aQ X.S.T X.H c
def vH (P:Program)(X:eo)(c:Call):Option cT:=
 match X.S.cP with
 |none=>Fw P X.S.T X.H c
 |some _=>none
def HE (P:Program)(X:eo):Option Value->Option cT
 |some (.iface t v)=>some (.jc [{v:=.iface t v,recovered:=false}] X.H)
 |_=>none
def amc (P:Program)(X:eo)(x:Operand):Option cT:=HE P X (X.ba x)
def K4.{u} {a:Sort u} (_:a):Option cT:=none
def Be.{u,v} {a:Sort u} {b:Sort v} (_:a) (_:b):Option cT:=none
def Yf.{u,v,w} {a:Sort u} {b:Sort v} {c:Sort w} (_:a) (_:b) (_:c):Option cT:=none
def K5.{u,v,w,x} {a:Sort u} {b:Sort v} {c:Sort w} {d:Sort x} (_:a) (_:b) (_:c) (_:d):Option cT:=none
def amh (P:Program)(X:eo)(_:UnOp)(_:TypeId)(_:Operand):Option cT:=(eo.om P X)
def e3 (P:Program)(X:eo):Option cT:=
 Op.rec (motive:=fun _=>Option cT)
  (Yw P X) (Yw P X) (amd P X) (alW P X) (alY P X) (alZ P X) (al0 P X) K5 (al7 P X) (amf P X)
  K4 K4 (ama P X) (alX P X) (amh P X) (al1 P X) Be (al9 P X) (al8 P X) Be Be (al' P X)
  (ame P X) (al4 P X) (al3 P X) (al6 P X) (al5 P X) K5 K5 Yf K5 Be Be K4 (amg P X) (al2 P X)
  (k9 P X) K4 (vH P X) (amc P X) Be Yf Be X.o.op
def cL (P:Program)(call:eZ)(aQ:hd)(S:a5)(H:aw)(o:Oper):Option cT:=e3 P ⟨call,aQ,S,H,o⟩
def a5.qG (n:Nat)(ds:List Deferred)(cb:Bool)(bE:FrameMode)(cP:Option Nat)(T:Option (a4 Value)):Option a5:=
 Option.rec (motive:=fun _=>Option a5) none (fun T=>some ⟨T,n,ds,cb,bE,cP⟩) T
def a5.amX (v:Value)(S:a5)(d:Tmp):Option a5:=
 a5.rec (motive:=fun _=>Option a5) (fun T n ds cb bE cP=>Bool.rec (motive:=fun _=>Option a5) none (a5.qG n ds cb bE cP (a4.put v T d)) (Nat.ble (Nat.succ d) n)) S
def a5.put (S:a5)(dst:Option Tmp)(v:Value):Option a5:=Option.rec (motive:=fun _=>Option a5) (some S) (a5.amX v S) dst
def a5.Ef (d:Deferred):a5->a5
 |⟨T,n,ds,cb,bE,cP⟩=>⟨T,n,d::ds,cb,bE,cP⟩
def a5.x1 (bE:FrameMode):a5->a5
 |⟨T,n,ds,cb,_,cP⟩=>⟨T,n,ds,cb,bE,cP⟩
def u3 (ops:List Oper)(T:a4 Value):Nat×Bool->Option Bool
 |(j,want)=>match nth ops j with
  |some p=>match p.dst with
   |some d=>match T.get d with
    |some (.bool b)=>some (b==want)
    |some (.chan _)=>none
    |some _=>some false
    |none=>none
   |none=>some false
  |none=>some false
def gp (ops:List Oper)(T:a4 Value)(o:Oper):Option Bool:=Option.rec (motive:=fun _=>Option Bool) (some true) (u3 ops T) o.guard
inductive dI where
 |ok (S:a5) (H:aw)
 |jc (chain:List PanicEntry) (S:a5) (H:aw)
def ot (H:aw)(S:Option a5):Option dI:=Option.rec (motive:=fun _=>Option dI) none (fun S=>some (.ok S H)) S
def mr (S:a5)(dst:Option Tmp)(v:Value)(H:aw):Option dI:=ot H (S.put dst v)
def rE (S:a5):Option (Value×FrameMode):=
 match S.cP with
 |some _=>none
 |none=>bif S.cb then(match S.bE with
  |.panicking ({v,recovered:=false,goexit:=false}::Lf)=>some (v,.panicking ({v,recovered:=true}::Lf))
  |m=>some (.nilIface,m))
  else some (.nilIface,S.bE)
def Hx (S:a5)(H:aw)(dst:Option Tmp):Option (Value×FrameMode)->Option dI
 |some (v,bE)=>mr (S.x1 bE) dst v H
 |none=>none
def Bi (S:a5)(H:aw)(dst:Option Tmp)(d:Deferred):Option dI:=
 match S.cP with
 |none=>mr (S.Ef d) dst undef H
 |some _=>none
def Yv (S:a5)(H:aw)(dst:Option Tmp)(r:cT):Option dI:=
 cT.rec (motive:=fun _=>Option dI) (mr S dst) (mr S dst undef) (Bi S H dst) (fun chain H=>some (.jc chain S H)) (Hx S H dst (rE S)) r
def qE (S:a5)(H:aw)(dst:Option Tmp)(r:Option cT):Option dI:=Option.rec (motive:=fun _=>Option dI) none (Yv S H dst) r
def alS (P:Program)(call:eZ)(aQ:hd)(S:a5)(H:aw)(o:Oper)(b:Bool):Option dI:=
 Bool.rec (motive:=fun _=>Option dI) (mr S o.dst undef H) (qE S H o.dst (cL P call aQ S H o)) b
def one (P:Program)(call:eZ)(aQ:hd)(ops:List Oper)(S:a5)(H:aw)(o:Oper):Option dI:=
 Option.rec (motive:=fun _=>Option dI) none (alS P call aQ S H o) (gp ops S.T o)
def ano (k:a5->aw->Option dI)(r:dI):Option dI:=dI.rec (motive:=fun _=>Option dI) k (fun chain S H=>some (.jc chain S H)) r
def UR (k:a5->aw->Option dI)(r:Option dI):Option dI:=Option.rec (motive:=fun _=>Option dI) none (ano k) r
def Cx (P:Program)(call:eZ)(aQ:hd)(ops:List Oper)(l:List Oper):a5->aw->Option dI:=
 List.rec (motive:=fun _=>a5->aw->Option dI) (fun S H=>some (.ok S H)) (fun o _ rest S H=>UR rest (one P call aQ ops S H o)) l
end
end Go.Cre
