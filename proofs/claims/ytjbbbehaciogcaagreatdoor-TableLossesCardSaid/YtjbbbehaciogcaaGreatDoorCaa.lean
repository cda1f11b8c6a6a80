/- A part of the proof of TableLosses. -/
import GoSem.Step
import Derived.Calls
import Derived.Defers
import Derived.Recover
set_option linter.unusedVariables false
set_option linter.unusedSimpArgs false
set_option linter.defProp false
namespace Go
noncomputable section
def afk:=@Array.all_eq_true_iff_forall_mem
def afl:=@Array.eq_empty_of_size_eq_zero
def rv:=@Array.ext'
def Gh:=@Array.ext_getElem?
def VF:=@Array.getElem?_append
def afm:=@Array.getElem?_append_left
def AT:=@Array.getElem?_eq_getElem
def tw:=@Array.getElem?_eq_none
def Oy:=@Array.getElem?_eq_some_iff
def afn:=@Array.getElem?_modify
def AU:=@Array.getElem?_setIfInBounds
def VG:=@Array.getElem?_setIfInBounds_ne
def afo:=@Array.mapM_eq_mapM_toList
def Ku:=@Array.mem_of_getElem?
def Gi:=@Array.mem_toList_iff
def VH:=@Array.size_push
def Kv:=@Array.size_setIfInBounds
def afp:=@Array.toArray_toList
def VI:=@Array.toList_inj
def gr:=@Bool.and_eq_true
def w4:=@Bool.and_self
def Kx:=@Bool.and_true
def qG:=@Bool.eq_iff_iff
def Gj:=@Bool.false_and
def ze:=@Bool.false_eq_true
def sm:=@Bool.not_eq_true'
def VJ:=@Bool.not_false
def nM:=@Bool.not_true
def zf:=@Bool.or_eq_true
def VK:=@Bool.true_and
def jD:=@Classical.byContradiction
def VL:=@Classical.choose_spec
def zg:=@Classical.not_not
def ry:=@Int.add_mul
def OC:=@Int.dvd_add
def pF:=@Int.dvd_mul_of_dvd_right
def OD:=@Int.dvd_sub
def Gk:=@Int.eq_of_mul_eq_mul_right
def vg:=@Int.le_of_lt
def VR:=@Int.le_refl
def vh:=@Int.lt_or_le
def nO:=@Int.mul_add
def kC:=@Int.mul_assoc
def k8:=@Int.mul_comm
def VS:=@Int.mul_eq_zero
def w7:=@Int.mul_le_mul_of_nonneg_left
def OE:=@Int.mul_le_mul_of_nonneg_right
def pG:=@Int.mul_left_comm
def VT:=@Int.mul_ne_zero
def KD:=@Int.mul_neg
def Dx:=@Int.mul_neg_of_neg_of_pos
def VU:=@Int.mul_neg_of_pos_of_neg
def k9:=@Int.mul_nonneg
def OF:=@Int.mul_one
def OG:=@Int.mul_pos
def afx:=@Int.mul_pos_of_neg_of_neg
def Dy:=@Int.mul_sub
def VV:=@Int.mul_zero
def pH:=@Int.natAbs_eq_zero
def mR:=@Int.natAbs_mul
def iC:=@Int.natAbs_natCast
def Dz:=@Int.natAbs_ne_zero
def AX:=@Int.natAbs_neg
def VW:=@Int.natAbs_zero
def so:=@Int.natCast_add
def vi:=@Int.natCast_dvd_natCast
def gY:=@Int.natCast_mul
def pI:=@Int.natCast_nonneg
def oY:=@Int.neg_mul
def sq:=@Int.ofNat_dvd_left
def DC:=@Int.ofNat_tdiv
def KE:=@Int.ofNat_tmod
def sr:=@Int.one_mul
def KF:=@Int.sub_eq_add_neg
def oZ:=@Int.sub_mul
def afy:=@Int.tmod_eq_emod_of_nonneg
def gG:=@Int.toNat_natCast
def OH:=@Int.zero_add
def AY:=@Int.zero_mul
def afG:=@List.Sublist.append_left
def iZ:=@List.Sublist.refl
def DD:=@List.all_cons
def rA:=@List.all_eq_true
def V0:=@List.all_nil
def lB:=@List.append_assoc
def hi:=@List.append_nil
def KI:=@List.cons.inj
def Gm:=@List.cons_append
def afH:=@List.dropLast_concat_getLast
def KJ:=@List.drop_append
def afI:=@List.drop_append_of_le_length
def zk:=@List.drop_drop
def AZ:=@List.drop_eq_getElem_cons
def rB:=@List.drop_eq_nil_of_le
def V1:=@List.drop_length
def oi:=@List.drop_of_length_le
def DE:=@List.drop_set_of_lt
def V2:=@List.drop_succ_cons
def KK:=@List.drop_take
def gO:=@List.drop_zero
def oj:=@List.eq_nil_of_length_eq_zero
def OK:=@List.eq_of_mem_replicate
def afJ:=@List.exists_mem_of_length_pos
def ss:=@List.ext_getElem?
def nP:=@List.getD_eq_getElem?_getD
def V3:=@List.getElem?_append
def DF:=@List.getElem?_append_left
def A0:=@List.getElem?_append_right
def OL:=@List.getElem?_cons_succ
def o0:=@List.getElem?_drop
def ey:=@List.getElem?_eq_getElem
def jX:=@List.getElem?_eq_none
def ff:=@List.getElem?_eq_some_iff
def lC:=@List.getElem?_map
def afK:=@List.getElem?_of_mem
def Gn:=@List.getElem?_range
def vm:=@List.getElem?_replicate
def mS:=@List.getElem?_set
def OM:=@List.getElem?_set_ne
def V4:=@List.getElem?_set_self
def jY:=@List.getElem?_take
def V5:=@List.getElem?_take_of_lt
def afL:=@List.getElem?_toArray
def KL:=@List.getLast?_append
def ON:=@List.getLast?_cons_cons
def rC:=@List.getLast?_eq_getElem?
def afM:=@List.getLast?_eq_some_getLast
def OO:=@List.getLast?_singleton
def eX:=@List.length_append
def kR:=@List.length_cons
def jZ:=@List.length_drop
def afN:=@List.length_eq_one_iff
def w':=@List.length_eq_zero_iff
def j0:=@List.length_map
def DG:=@List.length_nil
def V6:=@List.length_ofFn
def V7:=@List.length_pos_iff
def kE:=@List.length_replicate
def im:=@List.length_set
def zl:=@List.length_singleton
def eA:=@List.length_take
def V8:=@List.mapM_cons
def KM:=@List.map_append
def V9:=@List.map_congr_left
def rD:=@List.map_cons
def V':=@List.map_drop
def OP:=@List.map_map
def DH:=@List.map_take
def nh:=@List.mem_append
def om:=@List.mem_append_left
def ki:=@List.mem_append_right
def gj:=@List.mem_cons
def Wa:=@List.mem_cons_of_mem
def xa:=@List.mem_iff_getElem?
def A1:=@List.mem_map
def et:=@List.mem_of_getElem?
def afO:=@List.mem_of_mem_drop
def OQ:=@List.mem_of_mem_take
def Wb:=@List.mem_or_eq_of_mem_set
def A2:=@List.mem_singleton
def kj:=@List.nil_append
def i':=@List.nil_sublist
def KN:=@List.nodup_append
def vn:=@List.nodup_cons
def OR:=@List.not_mem_nil
def afP:=@List.pairwise_singleton
def DI:=@List.perm_append_comm
def zm:=@List.perm_append_singleton
def Wc:=@List.perm_middle
def afQ:=@List.range_eq_range'
def afR:=@List.set_append_left
def Wd:=@List.set_append_right
def OS:=@List.set_eq_take_append_cons_drop
def afS:=@List.singleton_append
def We:=@List.size_toArray
def st:=@List.sublist_append_left
def DJ:=@List.sublist_append_right
def vo:=@List.sum_cons
def Wf:=@List.sum_nil
def lD:=@List.take_add_one
def Gp:=@List.take_append_drop
def afT:=@List.take_append_of_le_length
def Wg:=@List.take_left
def pM:=@List.take_length
def cU:=@List.take_of_length_le
def KO:=@List.take_set_of_le
def DK:=@List.take_succ_cons
def su:=@List.take_take
def fO:=@List.take_zero
def afW:=@Nat.Coprime.coprime_dvd_left
def OT:=@Nat.Coprime.coprime_dvd_right
def afX:=@Nat.Coprime.dvd_of_dvd_mul_left
def DL:=@Nat.add_assoc
def Gq:=@Nat.add_comm
def c6:=@Nat.add_mul
def Wj:=@Nat.add_mul_div_left
def oo:=@Nat.add_sub_cancel
def OU:=@Nat.add_sub_cancel_left
def iD:=@Nat.add_zero
def hT:=@Nat.beq_refl
def mo:=@Nat.ble_eq_true_of_le
def KQ:=@Nat.coprime_div_gcd_div_gcd
def afY:=@Nat.coprime_one_right
def mT:=@Nat.div_add_mod
def afZ:=@Nat.div_div_eq_div_mul
def A6:=@Nat.div_eq_of_lt
def Wk:=@Nat.div_le_div_right
def tC:=@Nat.div_le_self
def ni:=@Nat.div_lt_iff_lt_mul
def OV:=@Nat.div_pos
def OW:=@Nat.dvd_antisymm
def Gr:=@Nat.dvd_gcd
def Wl:=@Nat.dvd_iff_mod_eq_zero
def af0:=@Nat.dvd_of_mod_eq_zero
def KR:=@Nat.dvd_trans
def ez:=@Nat.eq_of_beq_eq_true
def af1:=@Nat.eq_of_testBit_eq
def OX:=@Nat.eq_or_lt_of_le
def jq:=@Nat.eq_zero_or_pos
def pO:=@Nat.gcd_comm
def lE:=@Nat.gcd_dvd_left
def nQ:=@Nat.gcd_dvd_right
def OY:=@Nat.gcd_le_right
def af2:=@Nat.gcd_pos_of_pos_left
def xb:=@Nat.gcd_pos_of_pos_right
def DM:=@Nat.gcd_rec
def af3:=@Nat.gcd_sub_self_right
def OZ:=@Nat.gcd_zero_left
def Gs:=@Nat.gcd_zero_right
def O0:=@Nat.le_add_right
def Wm:=@Nat.le_antisymm
def KS:=@Nat.le_div_iff_mul_le
def af4:=@Nat.le_mul_of_pos_left
def h3:=@Nat.le_of_ble_eq_true
def KT:=@Nat.le_of_dvd
def DN:=@Nat.le_of_eq
def vq:=@Nat.le_of_lt
def sv:=@Nat.le_of_not_lt
def bU:=@Nat.le_refl
def cX:=@Nat.le_trans
def A7:=@Nat.lt_irrefl
def mU:=@Nat.lt_of_le_of_lt
def iM:=@Nat.lt_of_lt_of_le
def O1:=@Nat.lt_of_mul_lt_mul_left
def O2:=@Nat.lt_of_mul_lt_mul_right
def O3:=@Nat.lt_of_not_le
def hH:=@Nat.lt_or_ge
def A8:=@Nat.lt_trans
def g6:=@Nat.min_eq_left
def zn:=@Nat.mod_add_div
def sw:=@Nat.mod_eq_of_lt
def gA:=@Nat.mod_lt
def O4:=@Nat.mod_two_eq_zero_or_one
def cL:=@Nat.mul_add
def Wn:=@Nat.mul_add_div
def fy:=@Nat.mul_assoc
def dP:=@Nat.mul_comm
def tD:=@Nat.mul_div_cancel
def xc:=@Nat.mul_div_cancel_left
def KU:=@Nat.mul_div_mul_right
def sx:=@Nat.mul_le_mul
def hI:=@Nat.mul_le_mul_left
def fq:=@Nat.mul_le_mul_right
def rE:=@Nat.mul_left_comm
def O5:=@Nat.mul_lt_mul''
def af5:=@Nat.mul_lt_mul_of_lt_of_le
def O6:=@Nat.mul_lt_mul_of_pos_left
def DO:=@Nat.mul_lt_mul_of_pos_right
def Wo:=@Nat.mul_mod_mul_right
def ha:=@Nat.mul_one
def jr:=@Nat.mul_pos
def js:=@Nat.mul_zero
def j1:=@Nat.ne_of_gt
def Gt:=@Nat.ne_of_lt
def O7:=@Nat.not_lt
def Gu:=@Nat.not_lt_zero
def jb:=@Nat.one_mul
def O8:=@Nat.or_lt_two_pow
def tE:=@Nat.pos_of_ne_zero
def o1:=@Nat.pow_add
def O9:=@Nat.pow_le_pow_left
def mV:=@Nat.pow_le_pow_right
def Gv:=@Nat.pow_mul
def DP:=@Nat.pow_one
def vr:=@Nat.pow_pos
def fP:=@Nat.pow_succ
def zo:=@Nat.pow_zero
def Wp:=@Nat.shiftLeft_eq
def zp:=@Nat.sub_add_cancel
def zq:=@Nat.sub_self
def xd:=@Nat.succ_le_iff
def O':=@Nat.succ_le_of_lt
def o2:=@Nat.succ_mul
def Wq:=@Nat.testBit_succ
def l3:=@Nat.two_pow_pos
def j2:=@Nat.zero_add
def Pa:=@Nat.zero_div
def c5:=@Nat.zero_le
def jE:=@Nat.zero_mul
def af6:=@Option.bind_eq_some_iff
def Wr:=@Option.bind_some
def Ws:=@Option.getD_some
def xe:=@Option.map_eq_some_iff
def KV:=@Option.map_some
def DQ:=@Option.some.inj
def cn:=@Option.some.injEq
def Wt:=@Option.toList_some
def dr:=@Prod.mk.injEq
def PM:=@beq_false
def dK:=@cond_false
def cd:=@cond_true
def cC:=@congrArg
def pX:=@decide_eq_decide
def fW:=@decide_eq_false
def ai1:=@decide_eq_false_iff_not
def jx:=@decide_eq_true
def LB:=@decide_eq_true_eq
def Hd:=@decide_eq_true_iff
def yp:=@if_false
def aQ:=@if_neg
def aV:=@if_pos
def MQ:=@if_true
def CP:=@of_decide_eq_true
end
end Go
namespace Go.Cre
noncomputable section
inductive a0 (α:Type) where
 |leaf
 |node (v:Option α) (l r:a0 α)
def a0.get {α:Type}(t:a0 α):Nat->Option α:=
 a0.rec (motive:=fun _=>Nat->Option α) (fun _=>none)
  (fun v _ _ l r n=>Nat.rec (motive:=fun _=>Option α) v (fun m _=>Bool.rec (motive:=fun _=>Option α) (r (Nat.div m 2)) (l (Nat.div m 2)) (Nat.beq (Nat.mod m 2) 0)) n) t
def a0.left {α:Type}(v:Option α)(r:a0 α)(l:Option (a0 α)):Option (a0 α):=Option.rec (motive:=fun _=>Option (a0 α)) none (fun l=>some (.node v l r)) l
def a0.right {α:Type}(v:Option α)(l:a0 α)(r:Option (a0 α)):Option (a0 α):=Option.rec (motive:=fun _=>Option (a0 α)) none (fun r=>some (.node v l r)) r
def a0.put {α:Type}(a:α)(t:a0 α):Nat->Option (a0 α):=
 a0.rec (motive:=fun _=>Nat->Option (a0 α))
  (fun n=>Nat.rec (motive:=fun _=>Option (a0 α)) (some (.node (some a) .leaf .leaf)) (fun _ _=>none) n)
  (fun v l r pl yT n=>Nat.rec (motive:=fun _=>Option (a0 α)) (some (.node (some a) l r))
   (fun m _=>Bool.rec (motive:=fun _=>Option (a0 α)) (a0.right v l (yT (Nat.div m 2))) (a0.left v r (pl (Nat.div m 2))) (Nat.beq (Nat.mod m 2) 0)) n) t
def a0.set {α:Type}(_:Nat)(t:a0 α)(n:Nat)(a:α):Option (a0 α):=a0.put a t n
def a0.full {α:Type}(a:α)(d:Nat):a0 α:=Nat.rec (motive:=fun _=>a0 α) .leaf (fun _ t=>.node (some a) t t) d
def F1:Nat:=64
structure pB where
 state:LoopState
 pending:Option Code
 T:a0 Value
 n:Nat
 params:List Tmp
 assign:Code
 body:Code
 gP:Nat
inductive fB where
 |row (cells:List Value) (elem:TypeId) (opn:Bool) (bF:Nat) (d':Nat) (sh:Bool)
 |map (es:List MapEntry) (clock:Nat)
 |loop (l:pB)
 |gP (ds:Option (List Deferred))
 |dead
structure ar where
 mem:a0 fB
 an:Nat
 bF:a0 (List Nat)
 cy:Nat
 bL:Nat
structure aZ where
 T:a0 Value
 n:Nat
 ds:List Deferred
 bR:Bool
 bg:FrameMode
 cr:Option Nat
def cO:Nat:=1208925819614629174706176
def tZ:Nat:=1208925819614629174706176
def ar.aey (an:Nat)(bF:a0 (List Nat))(cy bL:Nat):Option (a0 fB)->Option ar
 |some m=>some ⟨m,an,bF,cy,bL⟩
 |none=>none
def ar.upd (H:ar)(id:Nat)(b:fB):Option ar:=
 match H with
 |⟨mem,an,bF,cy,bL⟩=>ar.aey an bF cy bL (a0.put b mem id)
def ar.abU (an:Nat)(bF:a0 (List Nat))(cy bL:Nat)(m:a0 fB):Nat->Option (Nat×ar)
 |0=>none
 |n+1=>some (an,⟨m,n+1,bF,cy,bL⟩)
def ar.TU (an:Nat)(bF:a0 (List Nat))(cy bL:Nat):Option (a0 fB)->Option (Nat×ar)
 |some m=>ar.abU an bF cy bL m (Nat.succ an)
 |none=>none
def ar.new (H:ar)(b:fB):Option (Nat×ar):=
 match H with
 |⟨mem,an,bF,cy,bL⟩=>ar.TU an bF cy bL (a0.put b mem an)
def ar.adv (mem:a0 fB)(an cy bL:Nat):Option (a0 (List Nat))->Option ar
 |some f=>some ⟨mem,an,f,cy,bL⟩
 |none=>none
def ar.se (H:ar)(f:Nat)(l:List Nat):Option ar:=
 match H with
 |⟨mem,an,bF,cy,bL⟩=>ar.adv mem an cy bL (a0.put l bF f)
def ar.abV (mem:a0 fB)(an:Nat)(bF:a0 (List Nat))(cy bL:Nat):Nat->Option (Nat×ar)
 |0=>none
 |n+1=>some (cy,⟨mem,an,bF,n+1,bL⟩)
def ar.TV (mem:a0 fB)(an cy bL:Nat):Option (a0 (List Nat))->Option (Nat×ar)
 |some f=>ar.abV mem an f cy bL (Nat.succ cy)
 |none=>none
def ar.wH (H:ar):Option (Nat×ar):=
 match H with
 |⟨mem,an,bF,cy,bL⟩=>ar.TV mem an cy bL (a0.put [an] bF cy)
def ar.oO (H:ar)(cells:List Value)(elem:TypeId)(sh:Bool):Option (Nat×ar):=
 match H.wH with
 |some (f,H)=>H.new (.row cells elem true f 0 sh)
 |none=>none
def iV:Nat->Value->Bool
 |0,_=>false
 |n+1,v=>
  match v with
  |.bool _|.int _ _|.float _ _|.string _|.nilFunc|.nilIface=>true
  |.pointer none|.slice none _ _|.map none=>true
  |.iface _ v=>iV n v
  |.agg cs=>cs.toList.all (iV n)
  |.tuple cs=>cs.toList.all (iV n)
  |.func (.func _) a b=>a.isEmpty&&b.isEmpty
  |_=>false
def plain (v:Value):Bool:=iV 8 v
def nth {α:Type}(l:List α):Nat->Option α:=
 List.rec (motive:=fun _=>Nat->Option α) (fun _=>none) (fun a _ r n=>Nat.rec (motive:=fun _=>Option α) (some a) (fun m _=>r m) n) l
def pY {α:Type}(n:Nat)(l:List α):List α:=
 List.rec (motive:=fun _=>Nat->List α) (fun _=>[]) (fun a t r n=>Nat.rec (motive:=fun _=>List α) (a::t) (fun m _=>r m) n) l n
def takeN {α:Type}:Nat->List α->Option (List α)
 |0,_=>some []
 |_+1,[]=>none
 |n+1,a::l=>match takeN n l with|some r=>some (a::r)|none=>none
def gS {α:Type}:Nat->List α->List α->Option (List α)
 |0,l,[]=>some l
 |0,[],_::_=>none
 |0,_::l,v::vs=>match gS 0 l vs with|some r=>some (v::r)|none=>none
 |_+1,[],_=>none
 |n+1,a::l,vs=>match gS n l vs with|some r=>some (a::r)|none=>none
def fh:Value->Bool
 |.agg _=>false
 |.tuple _=>false
 |_=>true
def eR {α:Type}(P:Program):Sem α->Option α
 |.pure a=>some a
 |.program k=>eR P (k P)
 |.mark _ k=>eR P k
 |_=>none
def FL (H:ar)(g:Nat):Option Value:=
 bif Nat.blt g H.bL then(match H.mem.get g with|some (.row _ _ _ _ _ _)=>some (.pointer (some ⟨g,0,none⟩))|_=>none) else none
def Ue (v:Value):Option Value:=bif plain v then some v else none
def a3 (T:a0 Value)(H:ar)(x:Operand):Option Value:=
 Operand.rec (motive:=fun _=>Option Value) (fun t=>T.get t) Ue (FL H) (fun f=>some (.func (.func f) #[] #[])) x
def fL (T:a0 Value)(H:ar):List Operand->Option (List Value)
 |[]=>some []
 |x::l=>match a3 T H x with
  |some v=>match fL T H l with|some vs=>some (v::vs)|none=>none
  |none=>none
def sB (P:Program)(t:TypeId):Option (Option Nat):=
 match P.info? t with
 |none=>none
 |some i=>match P.underlying t with
  |some (.struct _)=>some (some i.size)
  |some (.array _ _)=>some (some i.size)
  |some _=>some none
  |none=>none
def eV (P:Program)(t:TypeId):Option Nat:=match P.info? t with|some i=>some i.size|none=>none
def hA (P:Program)(t:TypeId):Option Value:=match P.info? t with|some i=>i.zero|none=>none
def vF (P:Program)(t:TypeId):Option Nat:=match P.info? t with|some i=>some i.bytes|none=>none
def nn (P:Program)(t:TypeId)(cs:List Value)(off:Nat):Option Value:=
 match sB P t with
 |some (some n)=>match takeN n (pY off cs) with|some l=>some (.agg l.toArray)|none=>none
 |some none=>nth cs off
 |none=>none
def Ek (P:Program)(H:ar)(t:TypeId)(a:Addr):Option Value:=
 match a.spot with
 |some _=>none
 |none=>match H.mem.get a.block with
  |some (.row cells _ _ _ _ _)=>nn P t cells a.off
  |_=>none
def Bw (P:Program)(H:ar)(t:TypeId):Value->Option Value
 |.pointer (some a)=>Ek P H t a
 |_=>none
def ta (H:ar)(qm:Nat):List Nat->Option ar
 |[]=>some H
 |x::l=>bif Nat.beq x qm then ta H qm l else
  match H.upd x .dead with|some H=>ta H qm l|none=>none
def Ai (H:ar)(id bF:Nat):Option ar:=
 match H.bF.get bF with
 |none=>none
 |some l=>
  match ta H id l with
  |none=>none
  |some H=>H.se bF [id]
def sN (H:ar)(id off:Nat)(vs:List Value):Option ar:=
 match vs with
 |[]=>some H
 |_=>bif Nat.blt id H.bL then none else
  match H.mem.get id with
  |some (.row cells elem opn bF d' sh)=>
   bif Nat.ble d' off&&vs.all fh then
    match gS off cells vs with
    |none=>none
    |some cells=>
     match H.upd id (.row cells elem opn bF d' sh) with
     |none=>none
     |some H=>bif opn then Ai H id bF else some H
   else none
  |_=>none
def By (P:Program)(H:ar)(t:TypeId)(p v:Value):Option ar:=
 match p with
 |.pointer (some a)=>match a.spot with
  |some _=>none
  |none=>match eV P t with
   |some n=>bif Nat.beq v.cells.toList.length n then sN H a.block a.off v.cells.toList else none
   |none=>none
 |_=>none
def uN (H:ar)(elem:TypeId)(cells:List Value):Option (Nat×ar):=H.new (.row cells elem false 0 0 false)
def xR (H:ar)(elem:TypeId)(v:Value):Option (Value×ar):=
 bif v.cells.toList.all fh then
  match uN H elem v.cells.toList with
  |some (id,H)=>some (.pointer (some ⟨id,0,none⟩),H)
  |none=>none
 else none
def Ht (P:Program)(s:TypeId)(p:Value)(field:Nat):Option Value:=
 match p with
 |.pointer (some a)=>match a.spot with
  |some _=>none
  |none=>match P.underlying s with
   |some (.struct fields)=>match fields[field]? with
    |some f=>match eV P f.type with
     |some (_+1)=>some (.pointer (some ⟨a.block,a.off+f.offset,none⟩))
     |_=>none
    |none=>none
   |_=>none
 |_=>none
def uI (i:Int)(len:Nat):Option Nat:=
 match i with
 |.ofNat n=>bif Nat.blt n len then some n else none
 |.negSucc _=>none
def ra (i:Int)(len:Nat):Option Nat:=
 match i with
 |.ofNat n=>bif Nat.ble n len then some n else none
 |.negSucc _=>none
def xU (P:Program)(t:TypeId)(x dz:Value):Option Value:=
 match dz with
 |.int _ i=>
  match P.underlying t,x with
  |some (.array len elem),.pointer (some a)=>match a.spot with
   |some _=>none
   |none=>match uI i len,eV P elem with
    |some n,some sz=>some (.pointer (some ⟨a.block,a.off+n*sz,none⟩))
    |_,_=>none
  |some (.slice elem),.slice (some a) len _=>match a.spot with
   |some _=>none
   |none=>match uI i len,eV P elem with
    |some n,some sz=>some (.pointer (some ⟨a.block,a.off+n*sz,none⟩))
    |_,_=>none
  |_,_=>none
 |_=>none
def kU (d:Nat)(top:Nat):Option Value->Option Nat
 |none=>some d
 |some (.int _ i)=>ra i top
 |some _=>none
def lc (P:Program)(H:ar)(t:TypeId)(x:Value)(lo ak:Option Value):Option Value:=
 match P.underlying t,x with
 |some (.array n elem),.pointer (some a)=>match a.spot with
  |some _=>none
  |none=>match eV P elem with
   |none=>none
   |some sz=>bif !Nat.blt n cO then none else match kU n n ak with
    |none=>none
    |some h=>match kU 0 h lo with
     |none=>none
     |some l=>some (.slice (some (bif Nat.beq n l then a else⟨a.block,a.off+l*sz,none⟩)) (Nat.sub h l) (Nat.sub n l))
 |some (.slice elem),.slice (some a) len cap=>match a.spot with
  |some _=>none
  |none=>match eV P elem with
   |none=>none
   |some sz=>
    bif Nat.beq cap cO then
     match H.mem.get a.block with
     |some (.row _ el _ _ _ _)=>bif !Nat.beq el elem then none else
      (match kU len len ak with
      |none=>none
      |some h=>match kU 0 h lo with
       |none=>none
       |some l=>some (.slice (some ⟨a.block,a.off+l*sz,none⟩) (Nat.sub h l) cO))
     |_=>none
    else
     match kU len cap ak with
     |none=>none
     |some h=>match kU 0 h lo with
      |none=>none
      |some l=>some (.slice (some (bif Nat.beq cap l then a else⟨a.block,a.off+l*sz,none⟩)) (Nat.sub h l) (Nat.sub cap l))
 |_,_=>none
def VA (v:Value)(n:Nat):List Value:=Nat.rec (motive:=fun _=>List Value) [] (fun _ aP=>v::aP) n
def axu (z:List Value)(n:Nat):List Value:=Nat.rec (motive:=fun _=>List Value) [] (fun _ aP=>z++aP) n
def fM (z:List Value)(n:Nat):List Value:=
 match z with
 |[]=>[]
 |[v]=>VA v n
 |a::b::z=>axu (a::b::z) n
def Hu (P:Program)(H:ar)(t:TypeId)(l c:Value):Option (Value×ar):=
 match l,c,P.underlying t with
 |.int _ l,.int _ c,some (.slice elem)=>
  match hA P elem,vF P elem,eV P elem with
  |some z,some ju,some sz=>
   match ra c 1000000,ra l 1000000 with
   |some c,some l=>
    bif Nat.ble l c&&Nat.ble ju 1000000&&Nat.beq z.cells.toList.length sz&&z.cells.toList.all fh&&plain z then
     match uN H elem (fM z.cells.toList c) with
     |some (id,H)=>some (.slice (some ⟨id,0,none⟩) l c,H)
     |none=>none
    else none
   |_,_=>none
  |_,_,_=>none
 |_,_,_=>none
def j4 (H:ar)(sz n:Nat):Value->Option (List Value)
 |.slice (some a) _ _=>match n with
  |0=>some []
  |_=>match a.spot with
   |some _=>none
   |none=>match H.mem.get a.block with
    |some (.row cells _ _ _ _ _)=>takeN (n*sz) (pY a.off cells)
    |_=>none
 |.slice none _ _=>match n with|0=>some []|_=>none
 |.string s=>match takeN n s.data.toList with
  |some l=>some (l.map fun b=>.int .u8 b.toNat)
  |none=>none
 |_=>none
def r5:Value->Option Nat
 |.slice _ n _=>some n
 |.string s=>some s.data.toList.length
 |_=>none
def zH (H:ar)(id:Nat):List Nat->Option (List Nat×ar)
 |[]=>none
 |x::l=>bif Nat.beq x id then some (x::l,H) else
  match H.upd x .dead with|some H=>zH H id l|none=>none
def Ha (H:ar)(l:List Nat)(same:Bool):Option (List Nat×ar):=
 bif same then some (l,H) else(match ta H H.an l with|some H=>some ([],H)|none=>none)
def fresh (H:ar)(elem:TypeId)(cells:List Value)(len:Nat):Option (Value×ar):=
 match H.oO cells elem false with
 |some (id,H)=>some (.slice (some ⟨id,0,none⟩) len cO,H)
 |none=>none
def Am:Option Addr->Bool
 |some a=>(match a.spot with|none=>true|some _=>false)
 |none=>true
def qR (P:Program)(H:ar)(ts:TypeId)(s x:Value):Option (Value×ar):=
 match P.underlying ts,s with
 |some (.slice elem),.slice base dd iI=>
  match eV P elem,vF P elem,hA P elem,r5 x with
  |some sz,some ju,some z,some n=>
   bif !(Nat.ble (dd+n) 1000000&&Nat.ble ju 1000000&&Nat.beq z.cells.toList.length sz) then none else
   match j4 H sz n x with
   |none=>none
   |some new=>
    bif !(new.all fh&&Nat.beq new.length (n*sz)) then none else
    bif Nat.beq iI cO then
     match base with
     |some a=>match a.spot with
      |some _=>none
      |none=>match H.mem.get a.block with
       |some (.row cells el true bF d' sh)=>
        bif !(Nat.beq el elem&&!Nat.blt a.block H.bL&&Nat.ble d' (a.off+dd*sz)) then none else
        bif Nat.beq n 0 then some (s,H) else
        bif !(Nat.beq a.off 0) then none else
        match takeN (dd*sz) cells with
        |none=>none
        |some ed=>
         match H.bF.get bF with
         |none=>none
         |some l=>
          match zH H a.block l with
          |none=>none
          |some (l,H)=>
           match Ha H l (Nat.beq cells.length (dd*sz)) with
           |none=>none
           |some (l,H)=>
            match H.se bF (H.an::l) with
            |none=>none
            |some H=>match H.new (.row (ed++new) elem true bF d' sh) with
             |some (id,H)=>some (.slice (some ⟨id,0,none⟩) (dd+n) cO,H)
             |none=>none
       |_=>none
     |none=>none
    else
     bif Nat.ble (dd+n) iI then
      match base with
      |none=>bif Nat.beq n 0 then some (s,H) else none
      |some a=>match a.spot with
       |some _=>none
       |none=>match sN H a.block (a.off+dd*sz) new with
        |some H=>some (.slice base (dd+n) iI,H)
        |none=>none
     else
      bif Am base then
       match j4 H sz dd s with
       |none=>none
       |some ed=>bif Nat.beq ed.length (dd*sz) then fresh H elem (ed++new) (dd+n) else none
      else none
  |_,_,_,_=>none
 |_,_=>none
def QI (P:Program)(H:ar)(sg:TypeId)(d s:Value):Option (Value×ar):=
 match P.underlying sg,d,r5 s with
 |some (.slice elem),.slice base vN _,some dd=>
  match eV P elem with
  |none=>none
  |some sz=>
   let n:=bif Nat.ble dd vN then dd else vN
   match j4 H sz n s with
   |none=>none
   |some cells=>match base with
    |none=>some (.int .i64 n,H)
    |some a=>match a.spot with
     |some _=>none
     |none=>bif !(cells.all fh) then none else match sN H a.block a.off cells with
      |some H=>some (.int .i64 n,H)
      |none=>none
 |_,_,_=>none
def QG (P:Program)(H:ar)(t:TypeId)(x:Value):Option (Value×ar):=
 match P.underlying t,x with
 |some _,.slice none _ _=>some (.tuple #[],H)
 |some _,.slice (some _) 0 _=>some (.tuple #[],H)
 |some (.slice elem),.slice (some a) (n+1) _=>(match a.spot,hA P elem with
  |none,some z=>bif plain z then(match sN H a.block a.off (fM z.cells.toList (n+1)) with
   |some H=>some (.tuple #[],H)
   |none=>none) else none
  |_,_=>none)
 |_,_=>none
def places (P:Program):List Field->Option (List (Nat×Nat))
 |[]=>some []
 |f::l=>match eV P f.type,places P l with
  |some n,some r=>some ((f.offset,n)::r)
  |_,_=>none
def nX (place:Nat->Option (Nat×Nat)):List Value->List (Nat×Value)->Option (List Value)
 |cells,[]=>some cells
 |cells,(i,v)::rest=>match place i with
  |none=>none
  |some (off,size)=>bif Nat.beq v.cells.toList.length size then
   (match gS off cells v.cells.toList with
    |some cells=>nX place cells rest
    |none=>none)
   else none
def Hq (P:Program)(t:TypeId)(parts:List (Nat×Value)):Option Value:=
 match hA P t,P.underlying t with
 |some z,some (.struct fields)=>bif plain z then
  match places P fields.toList with
  |some ps=>match nX (nth ps) z.cells.toList parts with
   |some cells=>some (.agg cells.toArray)
   |none=>none
  |none=>none
  else none
 |some z,some (.array _ elem)=>bif plain z then
  match eV P elem with
  |some sz=>match nX (fun i=>some (i*sz,sz)) z.cells.toList parts with
   |some cells=>some (.agg cells.toArray)
   |none=>none
  |none=>none
  else none
 |_,_=>none
def Hr (P:Program)(H:ar)(t:TypeId)(len:Nat)(parts:List (Nat×Value)):Option (Value×ar):=
 match P.underlying t with
 |some (.slice elem)=>match eV P elem,hA P elem with
  |some sz,some z=>
   bif Nat.ble len 100000&&Nat.ble (len*sz) 100000&&plain z&&Nat.beq z.cells.toList.length sz then
    match nX (fun i=>some (i*sz,sz)) (fM z.cells.toList len) parts with
    |some cells=>bif cells.all fh then
     (match uN H elem cells with
      |some (id,H)=>some (.slice (some ⟨id,0,none⟩) len len,H)
      |none=>none)
     else none
    |none=>none
   else none
  |_,_=>none
 |_=>none
def lV (T:a0 Value)(H:ar):List (Nat×Operand)->Option (List (Nat×Value))
 |[]=>some []
 |(i,x)::l=>match a3 T H x with
  |some v=>match lV T H l with|some r=>some ((i,v)::r)|none=>none
  |none=>none
def Eo (P:Program)(x:Value)(asserted:TypeId)(ok:Bool):Option Value:=
 let LI:Option Value:=bif ok then(match hA P asserted with|some z=>bif plain z then some (.tuple #[z,.bool false]) else none|none=>none) else none
 match P.underlying asserted,x with
 |some (.interface _),.nilIface=>LI
 |some (.interface want),.iface t _=>match P.info? t with
  |some i=>match Instr.missingMethod want i.methods with
   |none=>some (bif ok then .tuple #[x,.bool true] else x)
   |some _=>LI
  |none=>none
 |some _,.nilIface=>LI
 |some _,.iface t v=>bif Nat.beq t asserted then some (bif ok then .tuple #[v,.bool true] else v) else LI
 |_,_=>none
def QH (P:Program)(H:ar)(src dst:TypeId)(x:Value):Option Value:=
 match P.underlying src,P.underlying dst,x with
 |some (.pointer t),some .unsafePointer,.pointer (some a)=>(match a.spot,eV P t,H.mem.get a.block with
  |none,some (_+1),some (.row cells _ _ _ _ _)=>bif Nat.blt a.off cells.length then some x else none
  |_,_,_=>none)
 |some .unsafePointer,some (.pointer u),.pointer (some a)=>(match a.spot,eV P u,H.mem.get a.block with
  |none,some (_+1),some (.row cells e false _ _ _)=>bif liesAt P P.depth e (cells.length / P.cellsOf e) a.off u 1 then some x else none
  |_,_,_=>none)
 |_,_,_=>none
def qN:List Value->Option (List UInt8)
 |[]=>some []
 |.int .u8 (.ofNat n)::l=>bif Nat.blt n 256 then(match qN l with|some r=>some (UInt8.ofNat n::r)|none=>none) else none
 |_::_=>none
def En (P:Program)(H:ar)(src dst:TypeId)(x:Value):Option Value:=
 match P.underlying src,P.underlying dst,x with
 |some (.slice e),some .string,.slice (some a) len _=>bif !(Am (some a)) then none else(match P.underlying e with
  |some (.int .u8)=>(match j4 H 1 len (.slice (some a) len 0) with
   |some cells=>(match qN cells with
    |some bs=>some (.string ⟨bs.toArray⟩)
    |none=>none)
   |none=>none)
  |_=>none)
 |some (.slice e),some .string,.slice none _ _=>(match P.underlying e with
  |some (.int .u8)=>some (.string .empty)
  |_=>none)
 |_,_,_=>none
def isByte (v:Value):Bool:=match v with
 |.int .u8 (.ofNat n)=>Nat.blt n 256
 |_=>false
def byteOf (v:Value):UInt8:=match v with
 |.int .u8 (.ofNat n)=>UInt8.ofNat n
 |_=>0
def arV (l:List Value):Option (List Value):=List.rec (motive:=fun _=>Option (List Value)) none (fun v t _=>Bool.rec (motive:=fun _=>Option (List Value)) none (some t) (isByte v)) l
def xK (k:Nat):List Value->Option (List Value):=
 Nat.rec (motive:=fun _=>List Value->Option (List Value)) arV (fun _ aP l=>Option.rec (motive:=fun _=>Option (List Value)) none aP (aP l)) k
def Bn (k:Nat):Nat->List Value->Bool:=
 Nat.rec (motive:=fun _=>Nat->List Value->Bool) (fun n _=>Nat.beq n 0)
  (fun k aP n l=>Bool.rec (motive:=fun _=>Bool) (Option.rec (motive:=fun _=>Bool) false (fun r=>aP (Nat.sub n (Nat.pow 2 k)) r) (xK k l)) (aP n l) (Nat.blt n (Nat.pow 2 k))) k
def aeb (n:Nat)(l:List Value):List UInt8:=
 List.rec (motive:=fun _=>Nat->List UInt8) (fun _=>[]) (fun v _ aP n=>Nat.rec (motive:=fun _=>List UInt8) [] (fun m _=>byteOf v::aP m) n) l n
def aeg (len:Nat)(cells:List Value):Option Value:=bif Bn 21 len cells then some (.string ⟨(aeb len cells).toArray⟩) else none
def QL (P:Program)(H:ar)(src dst:TypeId)(x:Value):Option Value:=
 match P.underlying src,P.underlying dst,x with
 |some (.slice e),some .string,.slice (some a) len _=>(match P.underlying e,a.spot,H.mem.get a.block with
  |some (.int .u8),none,some (.row cells _ _ _ _ _)=>aeg len (pY a.off cells)
  |_,_,_=>none)
 |_,_,_=>none
def TA (x:Value):Bool:=match x with
 |.slice _ len _=>Nat.blt 256 len
 |_=>false
def QK (P:Program)(H:ar)(src dst:TypeId)(x:Value):Option Value:=
 bif TA x then QL P H src dst x else En P H src dst x
def isNil {α:Type}(l:List α):Bool:=List.rec (motive:=fun _=>Bool) true (fun _ _ _=>false) l
def ajM {α:Type}(l:List α):Option (List α):=List.rec (motive:=fun _=>Option (List α)) none (fun _ t _=>some t) l
def xJ {α:Type}(k:Nat):List α->Option (List α):=
 Nat.rec (motive:=fun _=>List α->Option (List α)) ajM (fun _ aP l=>Option.rec (motive:=fun _=>Option (List α)) none aP (aP l)) k
def Bo {α:Type}(k:Nat):Nat->List α->Option Nat:=
 Nat.rec (motive:=fun _=>Nat->List α->Option Nat) (fun n l=>Bool.rec (motive:=fun _=>Option Nat) none (some n) (isNil l))
  (fun k aP n l=>Option.rec (motive:=fun _=>Option Nat) (aP n l) (fun r=>aP (Nat.add n (Nat.pow 2 k)) r) (xJ k l)) k
def Cy {α:Type}(l:List α):Option Nat:=bif isNil (pY 256 l) then some l.length else
 match Bo 17 0 l with
 |some n=>some n
 |none=>match Bo 21 0 l with
  |some n=>some n
  |none=>some l.length
def strCells (l:List UInt8):List Value:=List.rec (motive:=fun _=>List Value) [] (fun b _ r=>Value.int .u8 (.ofNat b.toNat)::r) l
def akw (n:Nat):Option (Nat×ar)->Option (Value×ar)
 |some (id,H)=>some (.slice (some ⟨id,0,none⟩) n cO,H)
 |none=>none
def xV (P:Program)(H:ar)(src dst:TypeId)(s:ByteArray):Option (Value×ar):=
 match P.underlying src,P.underlying dst with
 |some .string,some (.slice e)=>(match P.underlying e with
  |some (.int .u8)=>bif Nat.beq (P.cellsOf e) 1 then akw s.data.toList.length (H.oO (strCells s.data.toList) e true) else none
  |_=>none)
 |_,_=>none
def QM (P:Program)(H:ar)(tj:TypeId)(p n:Value):Option (Value×ar):=
 match p,n with
 |.pointer (some a),.int .i64 (.ofNat 0)=>(match a.spot with|none=>some (.string .empty,H)|some _=>none)
 |.pointer none,.int .i64 (.ofNat 0)=>some (.string .empty,H)
 |.pointer (some a),.int .i64 (.ofNat (n+1))=>(match a.spot,P.underlying tj,H.mem.get a.block with
  |none,some (.pointer u),some (.row cells e opn bF d' sh)=>
   bif !(Nat.beq e u&&Nat.beq (P.cellsOf e) 1&&Nat.ble (n+1) 1000000&&!Nat.blt a.block H.bL&&Nat.beq a.off 0&&!sh) then none else
   (match takeN (n+1) cells with
   |none=>none
   |some l=>(match qN l with
    |none=>none
    |some bs=>
     match H.upd a.block (.row cells e opn bF (bif sh then tZ else Nat.max d' (n+1)) sh) with
     |some H=>(match(bif opn then Ai H a.block bF else some H) with
      |some H=>some (.string ⟨bs.toArray⟩,H)
      |none=>none)
     |none=>none))
  |_,_,_=>none)
 |_,_=>none
def xT (P:Program)(t:TypeId)(x y:Value):Option Bool:=
 match P.underlying t,x,y with
 |some (.pointer _),.pointer none,.pointer b=>some b.isNone
 |some (.pointer _),.pointer (some _),.pointer none=>some false
 |some (.pointer elem),.pointer (some a),.pointer (some b)=>(match eV P elem with
  |some (_+1)=>bif Nat.beq a.block b.block then some (a==b) else none
  |_=>none)
 |some (.slice _),.slice none _ _,.slice b _ _=>some b.isNone
 |some (.slice _),.slice (some _) _ _,.slice none _ _=>some false
 |some (.map _ _),.map none,.map b=>some b.isNone
 |some (.map _ _),.map (some _),.map none=>some false
 |some (.func _ _ _),.nilFunc,.func _ _ _=>some false
 |some (.func _ _ _),.func _ _ _,.nilFunc=>some false
 |some (.interface _),.nilIface,.iface _ _=>some false
 |some (.interface _),.iface _ _,.nilIface=>some false
 |_,_,_=>none
end
end Go.Cre
namespace Go.Cre
noncomputable section
inductive cP where
 |val (v:Value) (H:ar)
 |skip (H:ar)
 |gP (d:Deferred)
 |gx (chain:List PanicEntry) (H:ar)
 |Av
def g9 (v:Option Value)(H:ar):Option cP:=Option.rec (motive:=fun _=>Option cP) none (fun v=>some (.val v H)) v
def nJ:Option (Value×ar)->Option cP
 |some (v,H)=>some (.val v H)
 |none=>none
def L4:Option ar->Option cP
 |some H=>some (.skip H)
 |none=>none
def qs (T:a0 Value)(H:ar)(x:Operand):Value:=match a3 T H x with|some v=>v|none=>undef
def fl (P:Program)(T:a0 Value)(H:ar)(o:Oper):Option cP:=
 match fL T H o.op.operands.toList with
 |none=>none
 |some vs=>bif vs.all plain then
  match eR P (execOp (qs T H) o) with
  |some (.value v)=>bif plain v then some (.val v H) else none
  |some .skip=>some (.skip H)
  |_=>none
  else none
def orElse (a b:Option cP):Option cP:=match a with|some x=>some x|none=>b
abbrev eI:=FuncId->List Value->ar->Option (Ending×ar)
abbrev hl:=Nat->List Value->ar->Option (Ending×ar)
def zL (P:Program)(H:ar)(recv:Value)(name:String)(rest:List Value):Option (FuncId×List Value):=
 match recv with
 |.iface t v=>match P.info? t with
  |none=>none
  |some i=>match i.methods.find? (·.name==name) with
   |none=>none
   |some m=>bif !m.path.isEmpty then none else
    match m.func with
    |none=>none
    |some (f,yT)=>match P.underlying t,yT with
     |some (.pointer _),true=>some (f,v::rest)
     |some (.pointer _),false=>none
     |some _,false=>some (f,v::rest)
     |_,_=>none
 |_=>none
def kY (P:Program)(H:ar)(fn:Fn)(args captured:List Value):Option (FuncId×List Value):=
 match fn with
 |.func f=>some (f,args++captured)
 |.method name=>match args with|r::rest=>zL P H r name rest|[]=>none
 |.methodOf t name=>match args with
  |r::rest=>match P.underlying t with
   |some (.interface _)=>zL P H r name rest
   |some _=>zL P H (.iface t r) name rest
   |none=>none
  |[]=>none
 |_=>none
def oA:Option (Ending×ar)->Option cP
 |some (.returned v,H)=>some (.val v H)
 |some (.panicked chain,H)=>some (.gx chain H)
 |_=>none
def Gc:Option (Ending×ar)->Option cP
 |some (.returned v,H)=>some (.val v H)
 |some (.panicked chain,H)=>some (.gx chain H)
 |_=>none
def nm (P:Program)(call:eI)(aJ:hl)(T:a0 Value)(H:ar)(c:Call):Option cP:=
 match fL T H c.args.toList with
 |none=>none
 |some args=>match c.callee with
  |.value f=>match a3 T H f with
   |some (.func (.yield l) first captured)=>bif first.isEmpty&&captured.isEmpty then Gc (aJ l args H) else none
   |some (.func fn first captured)=>match kY P H fn (first.toList++args) captured.toList with
    |some (f,bO)=>oA (call f bO H)
    |none=>none
   |_=>none
  |.invoke recv name=>match a3 T H recv with
   |some r=>match zL P H r name args with
    |some (f,bO)=>oA (call f bO H)
    |none=>none
   |none=>none
  |.builtin _=>none
def rN {α:Type}(n:Int)(k:Int->α):α:=
 match n with
 |.ofNat 0=>k (.ofNat 0)
 |.ofNat (m+1)=>k (.ofNat (m+1))
 |.negSucc 0=>k (.negSucc 0)
 |.negSucc (m+1)=>k (.negSucc (m+1))
def qy (H:ar)(k:IntKind)(n:Int):Option cP:=some (.val (.int k n) H)
def qS (P:Program)(S:aZ)(H:ar)(o:Oper)(b:Builtin)(c:Call):Option cP:=
 match fL S.T H c.args.toList with
 |none=>none
 |some args=>match b,args,c.argTypes.toList with
  |.len,[.slice _ n _],[t]=>(match P.underlying t with
   |some (.slice _)=>some (.val (.int .i64 n) H)
   |_=>none)
  |.len,[.map (some r)],[t]=>(match P.underlying t with
   |some (.map _ _)=>(match H.mem.get r with
    |some (.map es _)=>some (.val (.int .i64 es.length) H)
    |_=>none)
   |_=>none)
  |.len,[.string s],[t]=>(match P.underlying t with
   |some .string=>(match Cy s.data.toList with|some n=>rN (.ofNat n) (qy H .i64)|none=>none)
   |_=>none)
  |.append,[s,x],[ts,h1]=>(match P.underlying h1 with
   |some (.int _)=>none
   |some _=>nJ (qR P H ts s x)
   |none=>none)
  |.cap,[.slice (some _) _ c],[t]=>(match P.underlying t with
   |some (.slice _)=>bif Nat.beq c cO then none else some (.val (.int .i64 c) H)
   |_=>none)
  |.unsafeSliceData,[.slice (some a) len c],_=>bif Nat.beq c cO&&Nat.beq len 0 then none else bif Nat.beq c 0 then none else some (.val (.pointer (some a)) H)
  |.unsafeString,[p,n],[tj,_]=>nJ (QM P H tj p n)
  |.copy,[d,s],[sg,_]=>nJ (QI P H sg d s)
  |.clear,[x],[t]=>nJ (QG P H t x)
  |.panic,[.iface t v],_=>some (.gx [{v:=.iface t v,recovered:=false}] H)
  |.recover,[],_=>some .Av
  |_,_,_=>fl P S.T H o
def yH:Fn->Bool
 |.yield _=>false
 |_=>true
def Hs (axL:Program)(T:a0 Value)(H:ar)(c:Call):Option cP:=
 match fL T H c.args.toList with
 |none=>none
 |some args=>match c.callee with
  |.value f=>match a3 T H f with
   |some (.func fn first captured)=>bif yH fn then some (.gP {target:=.fn fn captured,args:=(first.toList++args).toArray}) else none
   |_=>none
  |.invoke recv name=>match a3 T H recv with
   |some r=>some (.gP {target:=.fn (.method name) #[],args:=(r::args).toArray})
   |none=>none
  |.builtin _=>none
def iy (T:a0 Value)(H:ar):Option Operand->Option (Option Value)
 |none=>some none
 |some x=>match a3 T H x with|some v=>some (some v)|none=>none
structure ev where
 call:eI
 aJ:hl
 S:aZ
 H:ar
 o:Oper
def ev.a3 (X:ev)(x:Operand):Option Value:=Cre.a3 X.S.T X.H x
def ev.oQ (P:Program)(X:ev):Option cP:=fl P X.S.T X.H X.o
def acn (P:Program)(X:ev)(x:Operand):Option cP:=g9 (X.a3 x) X.H
def At (P:Program)(X:ev)(a b:Operand):Option Value->Option cP
 |some (.bool true)=>g9 (X.a3 a) X.H
 |some (.bool false)=>g9 (X.a3 b) X.H
 |_=>none
def asp (P:Program)(X:ev)(c a b:Operand):Option cP:=At P X a b (X.a3 c)
def Uc (P:Program)(X:ev)(elem:TypeId):Option Value->Option cP
 |some z=>bif plain z then nJ (xR X.H elem z) else none
 |none=>none
def ar7 (P:Program)(X:ev)(elem:TypeId):Option cP:=Uc P X elem (hA P elem)
def JB (P:Program)(X:ev)(elem:TypeId):Option Value->Option cP
 |some v=>nJ (xR X.H elem v)
 |none=>none
def ar9 (P:Program)(X:ev)(elem:TypeId)(x:Operand):Option cP:=JB P X elem (X.a3 x)
def CU (P:Program)(X:ev)(t:TypeId):Option (List (Nat×Value))->Option cP
 |some ps=>g9 (Hq P t ps) X.H
 |none=>none
def ar' (P:Program)(X:ev)(t:TypeId)(parts:Array (Nat×Operand)):Option cP:=CU P X t (lV X.S.T X.H parts.toList)
def JC (P:Program)(X:ev)(t:TypeId)(len:Nat):Option (List (Nat×Value))->Option cP
 |some ps=>nJ (Hr P X.H t len ps)
 |none=>none
def asa (P:Program)(X:ev)(t:TypeId)(len:Nat)(parts:Array (Nat×Operand)):Option cP:=JC P X t len (lV X.S.T X.H parts.toList)
def CX (P:Program)(X:ev)(t:TypeId):Option Value->Option cP
 |some p=>g9 (Bw P X.H t p) X.H
 |none=>none
def ash (P:Program)(X:ev)(t:TypeId)(a:Operand):Option cP:=CX P X t (X.a3 a)
def FK (P:Program)(X:ev)(t:TypeId):Option Value->Option Value->Option cP
 |some p,some v=>L4 (By P X.H t p v)
 |_,_=>none
def asr (P:Program)(X:ev)(t:TypeId)(a x:Operand):Option cP:=FK P X t (X.a3 a) (X.a3 x)
def C0 (P:Program)(X:ev):Option Value->Option cP
 |some (.pointer (some a))=>some (.val (.pointer (some a)) X.H)
 |some (.func (.func f) a b)=>some (.val (.func (.func f) a b) X.H)
 |some (.iface t v)=>some (.val (.iface t v) X.H)
 |_=>none
def asm (P:Program)(X:ev)(x:Operand):Option cP:=C0 P X (X.a3 x)
def uJ:IntKind->Nat
 |.i8=>0|.i16=>0|.i32=>2147483648|.i64=>9223372036854775808
 |.u8=>256|.u16=>65536|.u32=>4294967296|.u64=>18446744073709551616
def AO (k:IntKind)(n:Int):Int:=
 match n with
 |.ofNat m=>bif Nat.blt m (uJ k) then .ofNat m else k.wrap (.ofNat m)
 |.negSucc m=>bif k.signed&&Nat.blt m (uJ k) then .negSucc m else k.wrap (.negSucc m)
def q':Int->Int->Bool
 |.ofNat a,.ofNat b=>Nat.blt a b
 |.negSucc _,.ofNat _=>true
 |.ofNat _,.negSucc _=>false
 |.negSucc a,.negSucc b=>Nat.blt b a
def q9:Int->Int->Bool
 |.ofNat a,.ofNat b=>Nat.beq a b
 |.negSucc a,.negSucc b=>Nat.beq a b
 |_,_=>false
def yX (H:ar):Bool->Option cP
 |true=>some (.val (.bool true) H)
 |false=>some (.val (.bool false) H)
def jJ (H:ar)(k:IntKind)(a b:Int)(AF:Option cP):BinOp->Option cP
 |.add=>rN (AO k (a+b)) (qy H k)
 |.sub=>rN (AO k (a -b)) (qy H k)
 |.mul=>rN (AO k (a*b)) (qy H k)
 |.eql=>yX H (q9 a b)
 |.neq=>yX H (!q9 a b)
 |.lss=>yX H (q' a b)
 |.leq=>yX H (!q' b a)
 |.gtr=>yX H (q' b a)
 |.geq=>yX H (!q' a b)
 |_=>AF
def wN (P:Program)(X:ev)(t:TypeId)(a b:Value):BinOp->Option cP
 |.eql=>(match xT P t a b with|some r=>some (.val (.bool r) X.H)|none=>none)
 |.neq=>(match xT P t a b with|some r=>some (.val (.bool (!r)) X.H)|none=>none)
 |_=>none
def uO (P:Program)(X:ev)(op:BinOp)(t:TypeId)(a b:Value):Option cP:=orElse (ev.oQ P X) (wN P X t a b op)
def mD:IntKind->IntKind->Bool
 |.i8,.i8=>true|.i16,.i16=>true|.i32,.i32=>true|.i64,.i64=>true|.u8,.u8=>true|.u16,.u16=>true|.u32,.u32=>true|.u64,.u64=>true
 |_,_=>false
def Ud (P:Program)(X:ev)(op:BinOp)(t:TypeId)(k:IntKind)(a:Int)(l:IntKind)(b:Int):Option cP:=
 bif mD k l then jJ X.H k a b (ev.oQ P X) op else uO P X op t (.int k a) (.int l b)
def lU (P:Program)(X:ev)(op:BinOp)(t:TypeId):Option Value->Option Value->Option cP
 |some (.int k a),some (.int l b)=>Ud P X op t k a l b
 |some a,some b=>uO P X op t a b
 |_,_=>none
def ar8 (P:Program)(X:ev)(op:BinOp)(t:TypeId)(x y:Operand)(_:TypeId):Option cP:=lU P X op t (X.a3 x) (X.a3 y)
def yN (P:Program)(X:ev)(src dst:TypeId):Option Value->Option cP
 |none=>none
 |some (.string s)=>orElse (nJ (xV P X.H src dst s)) (ev.oQ P X)
 |some (.pointer (some a))=>g9 (QH P X.H src dst (.pointer (some a))) X.H
 |some (.slice b l c)=>g9 (QK P X.H src dst (.slice b l c)) X.H
 |some (.int _ n)=>(match P.underlying src,P.underlying dst with
  |some _,some (.int k)=>rN (AO k n) (qy X.H k)
  |_,_=>(ev.oQ P X))
 |some _=>(ev.oQ P X)
def asb (P:Program)(X:ev)(src dst:TypeId)(x:Operand):Option cP:=yN P X src dst (X.a3 x)
def CZ (P:Program)(X:ev)(t:TypeId):Option Value->Option TypeDesc->Option cP
 |some _,some (.interface _)=>none
 |some v,some _=>some (.val (.iface t v) X.H)
 |_,_=>none
def asj (P:Program)(X:ev)(t:TypeId)(x:Operand):Option cP:=CZ P X t (X.a3 x) (P.underlying t)
def CY (P:Program)(X:ev)(fn:Fn):Option (List Value)->Option (List Value)->Option cP
 |some a,some b=>(match fn with
  |.yield _=>none
  |fn=>some (.val (.func fn a.toArray b.toArray) X.H))
 |_,_=>none
def asi (P:Program)(X:ev)(fn:Fn)(first captured:Array Operand):Option cP:=CY P X fn (fL X.S.T X.H first.toList) (fL X.S.T X.H captured.toList)
def JD (P:Program)(X:ev)(t:TypeId):Option Value->Option Value->Option cP
 |some l,some c=>nJ (Hu P X.H t l c)
 |_,_=>none
def asl (P:Program)(X:ev)(t:TypeId)(l c:Operand):Option cP:=JD P X t (X.a3 l) (X.a3 c)
def nF (P:Program)(X:ev)(t:TypeId):Option Value->Option (Option Value)->Option (Option Value)->Option cP
 |some v,some lo,some ak=>orElse (g9 (lc P X.H t v lo ak) X.H) (ev.oQ P X)
 |_,_,_=>none
def asq (P:Program)(X:ev)(t:TypeId)(x:Operand)(lo ak:Option Operand):Option Operand->Option cP
 |none=>nF P X t (X.a3 x) (iy X.S.T X.H lo) (iy X.S.T X.H ak)
 |some _=>none
def CW (P:Program)(X:ev)(s:TypeId)(f:Nat):Option Value->Option cP
 |some p=>g9 (Ht P s p f) X.H
 |none=>none
def ase (P:Program)(X:ev)(s:TypeId)(x:Operand)(f:Nat):Option cP:=CW P X s f (X.a3 x)
def FJ (P:Program)(X:ev)(f:Nat):Option Value->Option TypeDesc->Option cP
 |some (.agg cs),some (.struct fields)=>(match fields[f]? with
  |some f=>g9 (nn P f.type cs.toList f.offset) X.H
  |none=>none)
 |_,_=>none
def asd (P:Program)(X:ev)(t:TypeId)(x:Operand)(f:Nat):Option cP:=FJ P X f (X.a3 x) (P.underlying t)
def yO (P:Program)(X:ev)(t:TypeId):Option Value->Option Value->Option cP
 |some x,some dz=>g9 (xU P t x dz) X.H
 |_,_=>none
def asg (P:Program)(X:ev)(t:TypeId)(x dz:Operand):Option cP:=yO P X t (X.a3 x) (X.a3 dz)
def As (P:Program)(X:ev):Option Value->Option Value->Option TypeDesc->Option cP
 |some (.agg cs),some (.int _ i),some (.array len elem)=>(match uI i len,eV P elem with
  |some n,some sz=>g9 (nn P elem cs.toList (n*sz)) X.H
  |_,_=>none)
 |some (.string s),some (.int _ i),some .string=>(match i with
  |.ofNat n=>(match nth s.data.toList n with
   |some b=>rN (.ofNat b.toNat) (qy X.H .u8)
   |none=>none)
  |.negSucc _=>none)
 |_,_,_=>none
def asf (P:Program)(X:ev)(t:TypeId)(x dz:Operand):Option cP:=As P X (X.a3 x) (X.a3 dz) (P.underlying t)
def C1 (P:Program)(X:ev)(asserted:TypeId)(ok:Bool):Option Value->Option cP
 |some v=>g9 (Eo P v asserted ok) X.H
 |none=>none
def ass (P:Program)(X:ev)(x:Operand)(_ asserted:TypeId)(ok:Bool):Option cP:=C1 P X asserted ok (X.a3 x)
def CV (P:Program)(X:ev)(dz:Nat):Option Value->Option cP
 |some (.tuple vs)=>g9 (nth vs.toList dz) X.H
 |_=>none
def asc (P:Program)(X:ev)(t:Operand)(dz:Nat):Option cP:=CV P X dz (X.a3 t)
def kN (P:Program)(X:ev)(c:Call):Option cP:=
 match c.callee with
 |.builtin b=>qS P X.S X.H X.o b c
 |_=>nm P X.call X.aJ X.S.T X.H c
def wO (P:Program)(X:ev)(c:Call):Option cP:=
 match X.S.cr with
 |none=>Hs P X.S.T X.H c
 |some _=>none
def JE (P:Program)(X:ev):Option Value->Option cP
 |some (.iface t v)=>some (.gx [{v:=.iface t v,recovered:=false}] X.H)
 |_=>none
def aso (P:Program)(X:ev)(x:Operand):Option cP:=JE P X (X.a3 x)
def Nh.{u} {a:Sort u} (_:a):Option cP:=none
def CL.{u,v} {a:Sort u} {b:Sort v} (_:a) (_:b):Option cP:=none
def abZ.{u,v,w} {a:Sort u} {b:Sort v} {c:Sort w} (_:a) (_:b) (_:c):Option cP:=none
def Ni.{u,v,w,x} {a:Sort u} {b:Sort v} {c:Sort w} {d:Sort x} (_:a) (_:b) (_:c) (_:d):Option cP:=none
def ast (P:Program)(X:ev)(_:UnOp)(_:TypeId)(_:Operand):Option cP:=(ev.oQ P X)
def e4 (P:Program)(X:ev):Option cP:=
 Op.rec (motive:=fun _=>Option cP)
  (acn P X) (acn P X) (asp P X) (ar7 P X) (ar9 P X) (ar' P X) (asa P X) Ni (ash P X) (asr P X)
  Nh Nh (asm P X) (ar8 P X) (ast P X) (asb P X) CL (asj P X) (asi P X) CL CL (asl P X)
  (asq P X) (ase P X) (asd P X) (asg P X) (asf P X) Ni Ni abZ Ni CL CL Nh (ass P X) (asc P X)
  (kN P X) Nh (wO P X) (aso P X) CL abZ CL X.o.op
def cz (P:Program)(call:eI)(aJ:hl)(S:aZ)(H:ar)(o:Oper):Option cP:=e4 P ⟨call,aJ,S,H,o⟩
def aZ.qw (n:Nat)(ds:List Deferred)(bR:Bool)(bg:FrameMode)(cr:Option Nat)(T:Option (a0 Value)):Option aZ:=
 Option.rec (motive:=fun _=>Option aZ) none (fun T=>some ⟨T,n,ds,bR,bg,cr⟩) T
def aZ.as0 (v:Value)(S:aZ)(d:Tmp):Option aZ:=
 aZ.rec (motive:=fun _=>Option aZ) (fun T n ds bR bg cr=>Bool.rec (motive:=fun _=>Option aZ) none (aZ.qw n ds bR bg cr (a0.put v T d)) (Nat.ble (Nat.succ d) n)) S
def aZ.put (S:aZ)(dst:Option Tmp)(v:Value):Option aZ:=Option.rec (motive:=fun _=>Option aZ) (some S) (aZ.as0 v S) dst
def aZ.F9 (d:Deferred):aZ->aZ
 |⟨T,n,ds,bR,bg,cr⟩=>⟨T,n,d::ds,bR,bg,cr⟩
def aZ.zc (bg:FrameMode):aZ->aZ
 |⟨T,n,ds,bR,_,cr⟩=>⟨T,n,ds,bR,bg,cr⟩
def vY (ops:List Oper)(T:a0 Value):Nat×Bool->Option Bool
 |(j,want)=>match nth ops j with
  |some p=>match p.dst with
   |some d=>match T.get d with
    |some (.bool b)=>some (b==want)
    |some (.chan _)=>none
    |some _=>some false
    |none=>none
   |none=>some false
  |none=>some false
def fT (ops:List Oper)(T:a0 Value)(o:Oper):Option Bool:=Option.rec (motive:=fun _=>Option Bool) (some true) (vY ops T) o.guard
inductive dJ where
 |ok (S:aZ) (H:ar)
 |gx (chain:List PanicEntry) (S:aZ) (H:ar)
def ob (H:ar)(S:Option aZ):Option dJ:=Option.rec (motive:=fun _=>Option dJ) none (fun S=>some (.ok S H)) S
def mh (S:aZ)(dst:Option Tmp)(v:Value)(H:ar):Option dJ:=ob H (S.put dst v)
def qx (S:aZ):Option (Value×FrameMode):=
 match S.cr with
 |some _=>none
 |none=>bif S.bR then(match S.bg with
  |.panicking ({v,recovered:=false,goexit:=false}::Nz)=>some (v,.panicking ({v,recovered:=true}::Nz))
  |m=>some (.nilIface,m))
  else some (.nilIface,S.bg)
def FI (S:aZ)(H:ar)(dst:Option Tmp):Option (Value×FrameMode)->Option dJ
 |some (v,bg)=>mh (S.zc bg) dst v H
 |none=>none
def Ar (S:aZ)(H:ar)(dst:Option Tmp)(d:Deferred):Option dJ:=
 match S.cr with
 |none=>mh (S.F9 d) dst undef H
 |some _=>none
def acm (S:aZ)(H:ar)(dst:Option Tmp)(r:cP):Option dJ:=
 cP.rec (motive:=fun _=>Option dJ) (mh S dst) (mh S dst undef) (Ar S H dst) (fun chain H=>some (.gx chain S H)) (FI S H dst (qx S)) r
def oP (S:aZ)(H:ar)(dst:Option Tmp)(r:Option cP):Option dJ:=Option.rec (motive:=fun _=>Option dJ) none (acm S H dst) r
def ar2 (P:Program)(call:eI)(aJ:hl)(S:aZ)(H:ar)(o:Oper)(b:Bool):Option dJ:=
 Bool.rec (motive:=fun _=>Option dJ) (mh S o.dst undef H) (oP S H o.dst (cz P call aJ S H o)) b
def one (P:Program)(call:eI)(aJ:hl)(ops:List Oper)(S:aZ)(H:ar)(o:Oper):Option dJ:=
 Option.rec (motive:=fun _=>Option dJ) none (ar2 P call aJ S H o) (fT ops S.T o)
def atH (k:aZ->ar->Option dJ)(r:dJ):Option dJ:=dJ.rec (motive:=fun _=>Option dJ) k (fun chain S H=>some (.gx chain S H)) r
def X6 (k:aZ->ar->Option dJ)(r:Option dJ):Option dJ:=Option.rec (motive:=fun _=>Option dJ) none (atH k) r
def El (P:Program)(call:eI)(aJ:hl)(ops:List Oper)(l:List Oper):aZ->ar->Option dJ:=
 List.rec (motive:=fun _=>aZ->ar->Option dJ) (fun S H=>some (.ok S H)) (fun o _ rest S H=>X6 rest (one P call aJ ops S H o)) l
end
end Go.Cre
