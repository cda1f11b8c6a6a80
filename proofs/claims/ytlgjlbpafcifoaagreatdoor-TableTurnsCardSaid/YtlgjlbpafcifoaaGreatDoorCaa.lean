/- A part of the proof of TableTurns. -/
import GoSem.Step
import Derived.Calls
import Derived.Defers
import Derived.Recover
set_option linter.unusedVariables false
set_option linter.unusedSimpArgs false
set_option linter.defProp false
namespace Go
noncomputable section
def aa5:=@Array.all_eq_true_iff_forall_mem
def aa6:=@Array.eq_empty_of_size_eq_zero
def qz:=@Array.ext'
def DW:=@Array.ext_getElem?
def Sp:=@Array.getElem?_append
def aa7:=@Array.getElem?_append_left
def zf:=@Array.getElem?_eq_getElem
def sE:=@Array.getElem?_eq_none
def LK:=@Array.getElem?_eq_some_iff
def aa8:=@Array.getElem?_modify
def zg:=@Array.getElem?_setIfInBounds
def Sq:=@Array.getElem?_setIfInBounds_ne
def aa9:=@Array.mapM_eq_mapM_toList
def HW:=@Array.mem_of_getElem?
def DX:=@Array.mem_toList_iff
def Sr:=@Array.size_push
def HX:=@Array.size_setIfInBounds
def aa':=@Array.toArray_toList
def Ss:=@Array.toList_inj
def gg:=@Bool.and_eq_true
def vy:=@Bool.and_self
def HZ:=@Bool.and_true
def sF:=@Bool.eq_iff_iff
def DY:=@Bool.false_and
def By:=@Bool.false_eq_true
def sG:=@Bool.not_eq_true'
def St:=@Bool.not_false
def oc:=@Bool.not_true
def xJ:=@Bool.or_eq_true
def Su:=@Bool.true_and
def iF:=@Classical.byContradiction
def Sv:=@Classical.choose_spec
def qA:=@Int.add_mul
def LL:=@Int.dvd_add
def oS:=@Int.dvd_mul_of_dvd_right
def LM:=@Int.dvd_sub
def DZ:=@Int.eq_of_mul_eq_mul_right
def uf:=@Int.le_of_lt
def LN:=@Int.le_refl
def vB:=@Int.lt_or_le
def mW:=@Int.mul_add
def jT:=@Int.mul_assoc
def j5:=@Int.mul_comm
def vC:=@Int.mul_le_mul_of_nonneg_left
def LO:=@Int.mul_le_mul_of_nonneg_right
def oT:=@Int.mul_left_comm
def SB:=@Int.mul_ne_zero
def H6:=@Int.mul_neg
def BC:=@Int.mul_neg_of_neg_of_pos
def SC:=@Int.mul_neg_of_pos_of_neg
def km:=@Int.mul_nonneg
def LP:=@Int.mul_one
def BD:=@Int.mul_pos
def abj:=@Int.mul_pos_of_neg_of_neg
def LQ:=@Int.mul_right_comm
def BE:=@Int.mul_sub
def SD:=@Int.mul_zero
def pK:=@Int.natAbs_eq_zero
def l4:=@Int.natAbs_mul
def hK:=@Int.natAbs_natCast
def LR:=@Int.natAbs_ne_zero
def LS:=@Int.natAbs_neg
def SE:=@Int.natAbs_zero
def xN:=@Int.natCast_add
def ug:=@Int.natCast_dvd_natCast
def hc:=@Int.natCast_mul
def nz:=@Int.natCast_nonneg
def sK:=@Int.neg_mul
def LU:=@Int.neg_neg
def rC:=@Int.ofNat_dvd_left
def xO:=@Int.ofNat_tdiv
def H7:=@Int.ofNat_tmod
def rD:=@Int.one_mul
def abk:=@Int.pos_of_mul_pos_left
def mX:=@Int.sub_mul
def abl:=@Int.tmod_eq_emod_of_nonneg
def h9:=@Int.toNat_natCast
def LV:=@Int.zero_add
def xP:=@Int.zero_mul
def LX:=@List.Perm.append_left
def LY:=@List.Perm.append_right
def Ia:=@List.Sublist.append_left
def ih:=@List.Sublist.refl
def BG:=@List.all_cons
def rF:=@List.all_eq_true
def SJ:=@List.all_nil
def my:=@List.append_assoc
def ij:=@List.append_nil
def Ib:=@List.cons.inj
def BH:=@List.cons_append
def abu:=@List.dropLast_concat_getLast
def LZ:=@List.drop_append
def abv:=@List.drop_append_of_le_length
def D2:=@List.drop_drop
def Ic:=@List.drop_eq_getElem_cons
def sL:=@List.drop_eq_nil_of_le
def SK:=@List.drop_length
def oW:=@List.drop_of_length_le
def BI:=@List.drop_set_of_lt
def SL:=@List.drop_succ_cons
def Ie:=@List.drop_take
def g5:=@List.drop_zero
def kn:=@List.eq_nil_of_length_eq_zero
def SM:=@List.eq_of_mem_replicate
def D3:=@List.ext_getElem?
def Ig:=@List.foldl_cons
def gI:=@List.getD_eq_getElem?_getD
def SN:=@List.getElem?_append
def D4:=@List.getElem?_append_left
def D5:=@List.getElem?_append_right
def SO:=@List.getElem?_cons_succ
def oX:=@List.getElem?_drop
def dX:=@List.getElem?_eq_getElem
def oe:=@List.getElem?_eq_none
def gS:=@List.getElem?_eq_some_iff
def j6:=@List.getElem?_map
def Ih:=@List.getElem?_of_mem
def SP:=@List.getElem?_range
def L0:=@List.getElem?_replicate
def mz:=@List.getElem?_set
def abw:=@List.getElem?_set_ne
def iH:=@List.getElem?_take
def D6:=@List.getElem?_take_of_lt
def abx:=@List.getElem?_toArray
def SQ:=@List.getLast?_append
def L1:=@List.getLast?_cons_cons
def sM:=@List.getLast?_eq_getElem?
def aby:=@List.getLast?_eq_some_getLast
def SR:=@List.getLast?_singleton
def eY:=@List.length_append
def lc:=@List.length_cons
def ld:=@List.length_drop
def abz:=@List.length_eq_one_iff
def zk:=@List.length_eq_zero_iff
def eP:=@List.length_map
def D7:=@List.length_nil
def SS:=@List.length_ofFn
def mA:=@List.length_replicate
def g6:=@List.length_set
def zl:=@List.length_singleton
def dY:=@List.length_take
def SU:=@List.mapM_cons
def xR:=@List.map_append
def uj:=@List.map_cons
def SV:=@List.map_drop
def SW:=@List.map_map
def Ii:=@List.map_set
def BJ:=@List.map_take
def nB:=@List.mem_append
def og:=@List.mem_append_left
def iI:=@List.mem_append_right
def fU:=@List.mem_cons
def SX:=@List.mem_cons_of_mem
def zm:=@List.mem_iff_getElem?
def pM:=@List.mem_map
def L2:=@List.mem_map_of_mem
def gh:=@List.mem_of_getElem?
def vG:=@List.mem_of_mem_take
def SY:=@List.mem_or_eq_of_mem_set
def SZ:=@List.mem_range
def zn:=@List.mem_singleton
def kE:=@List.nil_append
def kF:=@List.nil_sublist
def Ij:=@List.nodup_append
def sN:=@List.nodup_cons
def Ik:=@List.not_mem_nil
def abA:=@List.pairwise_singleton
def oh:=@List.perm_append_comm
def S0:=@List.perm_append_comm_assoc
def vH:=@List.perm_append_singleton
def BK:=@List.perm_middle
def abB:=@List.range_eq_range'
def S1:=@List.replicate_succ
def abC:=@List.set_append_left
def L3:=@List.set_append_right
def S2:=@List.set_cons_zero
def abD:=@List.set_eq_take_append_cons_drop
def abE:=@List.singleton_append
def S3:=@List.size_toArray
def lf:=@List.sublist_append_left
def BL:=@List.sublist_append_right
def qD:=@List.sum_cons
def S4:=@List.sum_nil
def ko:=@List.take_add_one
def Il:=@List.take_append_drop
def sO:=@List.take_length
def cM:=@List.take_of_length_le
def Im:=@List.take_set_of_le
def Io:=@List.take_sublist
def D8:=@List.take_succ_cons
def sP:=@List.take_take
def fq:=@List.take_zero
def abJ:=@Nat.Coprime.coprime_dvd_left
def L4:=@Nat.Coprime.coprime_dvd_right
def abK:=@Nat.Coprime.dvd_of_dvd_mul_left
def D9:=@Nat.add_assoc
def S5:=@Nat.add_comm
def cR:=@Nat.add_mul
def S6:=@Nat.add_mul_div_left
def lg:=@Nat.add_sub_cancel
def L5:=@Nat.add_sub_cancel_left
def ik:=@Nat.add_zero
def hd:=@Nat.beq_refl
def lH:=@Nat.ble_eq_true_of_le
def Iq:=@Nat.coprime_div_gcd_div_gcd
def L6:=@Nat.coprime_one_right
def lI:=@Nat.div_add_mod
def abL:=@Nat.div_div_eq_div_mul
def rG:=@Nat.div_eq_of_lt
def S7:=@Nat.div_le_div_right
def abM:=@Nat.div_le_iff_le_mul_add_pred
def qE:=@Nat.div_le_self
def mB:=@Nat.div_lt_iff_lt_mul
def L7:=@Nat.div_pos
def L8:=@Nat.dvd_antisymm
def D':=@Nat.dvd_gcd
def S8:=@Nat.dvd_iff_mod_eq_zero
def abN:=@Nat.dvd_of_mod_eq_zero
def Ir:=@Nat.dvd_trans
def eb:=@Nat.eq_of_beq_eq_true
def abO:=@Nat.eq_of_testBit_eq
def il:=@Nat.eq_zero_or_pos
def oj:=@Nat.gcd_comm
def kG:=@Nat.gcd_dvd_left
def m0:=@Nat.gcd_dvd_right
def S9:=@Nat.gcd_le_right
def Ea:=@Nat.gcd_one_left
def Eb:=@Nat.gcd_one_right
def abP:=@Nat.gcd_pos_of_pos_left
def vI:=@Nat.gcd_pos_of_pos_right
def zq:=@Nat.gcd_rec
def abQ:=@Nat.gcd_sub_self_right
def L9:=@Nat.gcd_zero_left
def zr:=@Nat.gcd_zero_right
def L':=@Nat.le_add_right
def S':=@Nat.le_antisymm
def Is:=@Nat.le_div_iff_mul_le
def abR:=@Nat.le_mul_of_pos_left
def hv:=@Nat.le_of_ble_eq_true
def It:=@Nat.le_of_dvd
def rH:=@Nat.le_of_lt
def qF:=@Nat.le_of_not_lt
def bF:=@Nat.le_refl
def dA:=@Nat.le_trans
def BM:=@Nat.lt_irrefl
def nC:=@Nat.lt_of_le_of_lt
def hA:=@Nat.lt_of_lt_of_le
def Ma:=@Nat.lt_of_mul_lt_mul_left
def Ec:=@Nat.lt_of_mul_lt_mul_right
def Ta:=@Nat.lt_of_not_le
def hL:=@Nat.lt_or_ge
def zt:=@Nat.lt_trans
def Tb:=@Nat.lt_trichotomy
def fV:=@Nat.min_eq_left
def xS:=@Nat.mod_add_div
def nD:=@Nat.mod_eq_of_lt
def fz:=@Nat.mod_lt
def Mb:=@Nat.mod_two_eq_zero_or_one
def cH:=@Nat.mul_add
def Tc:=@Nat.mul_add_div
def e4:=@Nat.mul_assoc
def dp:=@Nat.mul_comm
def sQ:=@Nat.mul_div_cancel
def vJ:=@Nat.mul_div_cancel_left
def Iu:=@Nat.mul_div_mul_right
def rI:=@Nat.mul_le_mul
def hf:=@Nat.mul_le_mul_left
def eK:=@Nat.mul_le_mul_right
def rJ:=@Nat.mul_left_comm
def Mc:=@Nat.mul_lt_mul''
def abS:=@Nat.mul_lt_mul_of_lt_of_le
def Md:=@Nat.mul_lt_mul_of_pos_left
def BN:=@Nat.mul_lt_mul_of_pos_right
def abT:=@Nat.mul_lt_mul_right
def Td:=@Nat.mul_mod_mul_right
def gJ:=@Nat.mul_one
def kp:=@Nat.mul_pos
def jk:=@Nat.mul_zero
def jl:=@Nat.ne_of_gt
def Ed:=@Nat.ne_of_lt
def Me:=@Nat.not_lt
def Ee:=@Nat.not_lt_zero
def h':=@Nat.one_mul
def Mf:=@Nat.or_lt_two_pow
def uk:=@Nat.pos_of_ne_zero
def pN:=@Nat.pow_add
def nE:=@Nat.pow_le_pow_right
def BO:=@Nat.pow_one
def um:=@Nat.pow_pos
def ff:=@Nat.pow_succ
def zu:=@Nat.pow_zero
def Te:=@Nat.shiftLeft_eq
def xT:=@Nat.sub_add_cancel
def Tf:=@Nat.sub_mul
def sR:=@Nat.sub_self
def vK:=@Nat.succ_le_iff
def Ef:=@Nat.succ_le_of_lt
def oZ:=@Nat.succ_mul
def Tg:=@Nat.testBit_succ
def lh:=@Nat.two_pow_pos
def kH:=@Nat.zero_add
def Mg:=@Nat.zero_div
def df:=@Nat.zero_le
def jA:=@Nat.zero_mul
def abV:=@Option.bind_eq_some_iff
def Th:=@Option.bind_some
def Ti:=@Option.getD_some
def vL:=@Option.map_eq_some_iff
def Iv:=@Option.map_some
def sS:=@Option.some.inj
def cl:=@Option.some.injEq
def dm:=@Prod.mk.injEq
def IH:=@and_self
def ME:=@beq_false
def da:=@cond_false
def b4:=@cond_true
def b6:=@congrArg
def lJ:=@decide_eq_decide
def gL:=@decide_eq_false
def g7:=@decide_eq_true
def I3:=@decide_eq_true_eq
def Ay:=@if_false
def aZ:=@if_neg
def a2:=@if_pos
def Kc:=@if_true
def G3:=@of_decide_eq_true
end
end Go
namespace Go.Cre
noncomputable section
inductive aW (α:Type) where
 |leaf
 |node (v:Option α) (l r:aW α)
def aW.get {α:Type}(t:aW α):Nat->Option α:=
 aW.rec (motive:=fun _=>Nat->Option α) (fun _=>none)
  (fun v _ _ l r n=>Nat.rec (motive:=fun _=>Option α) v (fun m _=>Bool.rec (motive:=fun _=>Option α) (r (Nat.div m 2)) (l (Nat.div m 2)) (Nat.beq (Nat.mod m 2) 0)) n) t
def aW.left {α:Type}(v:Option α)(r:aW α)(l:Option (aW α)):Option (aW α):=Option.rec (motive:=fun _=>Option (aW α)) none (fun l=>some (.node v l r)) l
def aW.right {α:Type}(v:Option α)(l:aW α)(r:Option (aW α)):Option (aW α):=Option.rec (motive:=fun _=>Option (aW α)) none (fun r=>some (.node v l r)) r
def aW.put {α:Type}(a:α)(t:aW α):Nat->Option (aW α):=
 aW.rec (motive:=fun _=>Nat->Option (aW α))
  (fun n=>Nat.rec (motive:=fun _=>Option (aW α)) (some (.node (some a) .leaf .leaf)) (fun _ _=>none) n)
  (fun v l r pl xl n=>Nat.rec (motive:=fun _=>Option (aW α)) (some (.node (some a) l r))
   (fun m _=>Bool.rec (motive:=fun _=>Option (aW α)) (aW.right v l (xl (Nat.div m 2))) (aW.left v r (pl (Nat.div m 2))) (Nat.beq (Nat.mod m 2) 0)) n) t
def aW.set {α:Type}(_:Nat)(t:aW α)(n:Nat)(a:α):Option (aW α):=aW.put a t n
def aW.full {α:Type}(a:α)(d:Nat):aW α:=Nat.rec (motive:=fun _=>aW α) .leaf (fun _ t=>.node (some a) t t) d
def DL:Nat:=64
structure oP where
 state:LoopState
 pending:Option Code
 T:aW Value
 n:Nat
 params:List Tmp
 assign:Code
 body:Code
 gk:Nat
inductive e3 where
 |row (cells:List Value) (elem:TypeId) (opn:Bool) (bw:Nat) (ef:Nat) (sh:Bool)
 |map (es:List MapEntry) (clock:Nat)
 |loop (l:oP)
 |gk (ds:Option (List Deferred))
 |dead
structure an where
 mem:aW e3
 ay:Nat
 bw:aW (List Nat)
 cn:Nat
 bz:Nat
structure aV where
 T:aW Value
 n:Nat
 ds:List Deferred
 bG:Bool
 bd:FrameMode
 cc:Option Nat
def cG:Nat:=1208925819614629174706176
def s':Nat:=1208925819614629174706176
def an.aaw (ay:Nat)(bw:aW (List Nat))(cn bz:Nat):Option (aW e3)->Option an
 |some m=>some ⟨m,ay,bw,cn,bz⟩
 |none=>none
def an.upd (H:an)(id:Nat)(b:e3):Option an:=
 match H with
 |⟨mem,ay,bw,cn,bz⟩=>an.aaw ay bw cn bz (aW.put b mem id)
def an.X9 (ay:Nat)(bw:aW (List Nat))(cn bz:Nat)(m:aW e3):Nat->Option (Nat×an)
 |0=>none
 |n+1=>some (ay,⟨m,n+1,bw,cn,bz⟩)
def an.QD (ay:Nat)(bw:aW (List Nat))(cn bz:Nat):Option (aW e3)->Option (Nat×an)
 |some m=>an.X9 ay bw cn bz m (Nat.succ ay)
 |none=>none
def an.new (H:an)(b:e3):Option (Nat×an):=
 match H with
 |⟨mem,ay,bw,cn,bz⟩=>an.QD ay bw cn bz (aW.put b mem ay)
def an.ZI (mem:aW e3)(ay cn bz:Nat):Option (aW (List Nat))->Option an
 |some f=>some ⟨mem,ay,f,cn,bz⟩
 |none=>none
def an.rr (H:an)(f:Nat)(l:List Nat):Option an:=
 match H with
 |⟨mem,ay,bw,cn,bz⟩=>an.ZI mem ay cn bz (aW.put l bw f)
def an.X' (mem:aW e3)(ay:Nat)(bw:aW (List Nat))(cn bz:Nat):Nat->Option (Nat×an)
 |0=>none
 |n+1=>some (cn,⟨mem,ay,bw,n+1,bz⟩)
def an.QE (mem:aW e3)(ay cn bz:Nat):Option (aW (List Nat))->Option (Nat×an)
 |some f=>an.X' mem ay f cn bz (Nat.succ cn)
 |none=>none
def an.ve (H:an):Option (Nat×an):=
 match H with
 |⟨mem,ay,bw,cn,bz⟩=>an.QE mem ay cn bz (aW.put [ay] bw cn)
def an.n8 (H:an)(cells:List Value)(elem:TypeId)(sh:Bool):Option (Nat×an):=
 match H.ve with
 |some (f,H)=>H.new (.row cells elem true f 0 sh)
 |none=>none
def iz:Nat->Value->Bool
 |0,_=>false
 |n+1,v=>
  match v with
  |.bool _|.int _ _|.float _ _|.string _|.nilFunc|.nilIface=>true
  |.pointer none|.slice none _ _|.map none=>true
  |.iface _ v=>iz n v
  |.agg cs=>cs.toList.all (iz n)
  |.tuple cs=>cs.toList.all (iz n)
  |.func (.func _) a b=>a.isEmpty&&b.isEmpty
  |_=>false
def plain (v:Value):Bool:=iz 8 v
def nth {α:Type}(l:List α):Nat->Option α:=
 List.rec (motive:=fun _=>Nat->Option α) (fun _=>none) (fun a _ r n=>Nat.rec (motive:=fun _=>Option α) (some a) (fun m _=>r m) n) l
def nP {α:Type}(n:Nat)(l:List α):List α:=
 List.rec (motive:=fun _=>Nat->List α) (fun _=>[]) (fun a t r n=>Nat.rec (motive:=fun _=>List α) (a::t) (fun m _=>r m) n) l n
def takeN {α:Type}:Nat->List α->Option (List α)
 |0,_=>some []
 |_+1,[]=>none
 |n+1,a::l=>match takeN n l with|some r=>some (a::r)|none=>none
def gf {α:Type}:Nat->List α->List α->Option (List α)
 |0,l,[]=>some l
 |0,[],_::_=>none
 |0,_::l,v::vs=>match gf 0 l vs with|some r=>some (v::r)|none=>none
 |_+1,[],_=>none
 |n+1,a::l,vs=>match gf n l vs with|some r=>some (a::r)|none=>none
def eV:Value->Bool
 |.agg _=>false
 |.tuple _=>false
 |_=>true
def e0 {α:Type}(P:Program):Sem α->Option α
 |.pure a=>some a
 |.program k=>e0 P (k P)
 |.mark _ k=>e0 P k
 |_=>none
def Dx (H:an)(g:Nat):Option Value:=
 bif Nat.blt g H.bz then(match H.mem.get g with|some (.row _ _ _ _ _ _)=>some (.pointer (some ⟨g,0,none⟩))|_=>none) else none
def Q2 (v:Value):Option Value:=bif plain v then some v else none
def a1 (T:aW Value)(H:an)(x:Operand):Option Value:=
 Operand.rec (motive:=fun _=>Option Value) (fun t=>T.get t) Q2 (Dx H) (fun f=>some (.func (.func f) #[] #[])) x
def fy (T:aW Value)(H:an):List Operand->Option (List Value)
 |[]=>some []
 |x::l=>match a1 T H x with
  |some v=>match fy T H l with|some vs=>some (v::vs)|none=>none
  |none=>none
def rM (P:Program)(t:TypeId):Option (Option Nat):=
 match P.info? t with
 |none=>none
 |some i=>match P.underlying t with
  |some (.struct _)=>some (some i.size)
  |some (.array _ _)=>some (some i.size)
  |some _=>some none
  |none=>none
def ey (P:Program)(t:TypeId):Option Nat:=match P.info? t with|some i=>some i.size|none=>none
def gX (P:Program)(t:TypeId):Option Value:=match P.info? t with|some i=>i.zero|none=>none
def uB (P:Program)(t:TypeId):Option Nat:=match P.info? t with|some i=>some i.bytes|none=>none
def mD (P:Program)(t:TypeId)(cs:List Value)(off:Nat):Option Value:=
 match rM P t with
 |some (some n)=>match takeN n (nP off cs) with|some l=>some (.agg l.toArray)|none=>none
 |some none=>nth cs off
 |none=>none
def Cc (P:Program)(H:an)(t:TypeId)(a:Addr):Option Value:=
 match a.spot with
 |some _=>none
 |none=>match H.mem.get a.block with
  |some (.row cells _ _ _ _ _)=>mD P t cells a.off
  |_=>none
def zU (P:Program)(H:an)(t:TypeId):Value->Option Value
 |.pointer (some a)=>Cc P H t a
 |_=>none
def se (H:an)(pp:Nat):List Nat->Option an
 |[]=>some H
 |x::l=>bif Nat.beq x pp then se H pp l else
  match H.upd x .dead with|some H=>se H pp l|none=>none
def yD (H:an)(id bw:Nat):Option an:=
 match H.bw.get bw with
 |none=>none
 |some l=>
  match se H id l with
  |none=>none
  |some H=>H.rr bw [id]
def rT (H:an)(id off:Nat)(vs:List Value):Option an:=
 match vs with
 |[]=>some H
 |_=>bif Nat.blt id H.bz then none else
  match H.mem.get id with
  |some (.row cells elem opn bw ef sh)=>
   bif Nat.ble ef off&&vs.all eV then
    match gf off cells vs with
    |none=>none
    |some cells=>
     match H.upd id (.row cells elem opn bw ef sh) with
     |none=>none
     |some H=>bif opn then yD H id bw else some H
   else none
  |_=>none
def zV (P:Program)(H:an)(t:TypeId)(p v:Value):Option an:=
 match p with
 |.pointer (some a)=>match a.spot with
  |some _=>none
  |none=>match ey P t with
   |some n=>bif Nat.beq v.cells.toList.length n then rT H a.block a.off v.cells.toList else none
   |none=>none
 |_=>none
def tI (H:an)(elem:TypeId)(cells:List Value):Option (Nat×an):=H.new (.row cells elem false 0 0 false)
def wb (H:an)(elem:TypeId)(v:Value):Option (Value×an):=
 bif v.cells.toList.all eV then
  match tI H elem v.cells.toList with
  |some (id,H)=>some (.pointer (some ⟨id,0,none⟩),H)
  |none=>none
 else none
def E2 (P:Program)(s:TypeId)(p:Value)(field:Nat):Option Value:=
 match p with
 |.pointer (some a)=>match a.spot with
  |some _=>none
  |none=>match P.underlying s with
   |some (.struct fields)=>match fields[field]? with
    |some f=>match ey P f.type with
     |some (_+1)=>some (.pointer (some ⟨a.block,a.off+f.offset,none⟩))
     |_=>none
    |none=>none
   |_=>none
 |_=>none
def tD (i:Int)(len:Nat):Option Nat:=
 match i with
 |.ofNat n=>bif Nat.blt n len then some n else none
 |.negSucc _=>none
def qe (i:Int)(len:Nat):Option Nat:=
 match i with
 |.ofNat n=>bif Nat.ble n len then some n else none
 |.negSucc _=>none
def we (P:Program)(t:TypeId)(x c7:Value):Option Value:=
 match c7 with
 |.int _ i=>
  match P.underlying t,x with
  |some (.array len elem),.pointer (some a)=>match a.spot with
   |some _=>none
   |none=>match tD i len,ey P elem with
    |some n,some sz=>some (.pointer (some ⟨a.block,a.off+n*sz,none⟩))
    |_,_=>none
  |some (.slice elem),.slice (some a) len _=>match a.spot with
   |some _=>none
   |none=>match tD i len,ey P elem with
    |some n,some sz=>some (.pointer (some ⟨a.block,a.off+n*sz,none⟩))
    |_,_=>none
  |_,_=>none
 |_=>none
def jW (d:Nat)(top:Nat):Option Value->Option Nat
 |none=>some d
 |some (.int _ i)=>qe i top
 |some _=>none
def jY (P:Program)(H:an)(t:TypeId)(x:Value)(lo ak:Option Value):Option Value:=
 match P.underlying t,x with
 |some (.array n elem),.pointer (some a)=>match a.spot with
  |some _=>none
  |none=>match ey P elem with
   |none=>none
   |some sz=>bif !Nat.blt n cG then none else match jW n n ak with
    |none=>none
    |some h=>match jW 0 h lo with
     |none=>none
     |some l=>some (.slice (some (bif Nat.beq n l then a else⟨a.block,a.off+l*sz,none⟩)) (Nat.sub h l) (Nat.sub n l))
 |some (.slice elem),.slice (some a) len cap=>match a.spot with
  |some _=>none
  |none=>match ey P elem with
   |none=>none
   |some sz=>
    bif Nat.beq cap cG then
     match H.mem.get a.block with
     |some (.row _ el _ _ _ _)=>bif !Nat.beq el elem then none else
      (match jW len len ak with
      |none=>none
      |some h=>match jW 0 h lo with
       |none=>none
       |some l=>some (.slice (some ⟨a.block,a.off+l*sz,none⟩) (Nat.sub h l) cG))
     |_=>none
    else
     match jW len cap ak with
     |none=>none
     |some h=>match jW 0 h lo with
      |none=>none
      |some l=>some (.slice (some (bif Nat.beq cap l then a else⟨a.block,a.off+l*sz,none⟩)) (Nat.sub h l) (Nat.sub cap l))
 |_,_=>none
def Sl (v:Value)(n:Nat):List Value:=Nat.rec (motive:=fun _=>List Value) [] (fun _ aP=>v::aP) n
def arN (z:List Value)(n:Nat):List Value:=Nat.rec (motive:=fun _=>List Value) [] (fun _ aP=>z++aP) n
def fp (z:List Value)(n:Nat):List Value:=
 match z with
 |[]=>[]
 |[v]=>Sl v n
 |a::b::z=>arN (a::b::z) n
def E3 (P:Program)(H:an)(t:TypeId)(l c:Value):Option (Value×an):=
 match l,c,P.underlying t with
 |.int _ l,.int _ c,some (.slice elem)=>
  match gX P elem,uB P elem,ey P elem with
  |some z,some iL,some sz=>
   match qe c 1000000,qe l 1000000 with
   |some c,some l=>
    bif Nat.ble l c&&Nat.ble iL 1000000&&Nat.beq z.cells.toList.length sz&&z.cells.toList.all eV&&plain z then
     match tI H elem (fp z.cells.toList c) with
     |some (id,H)=>some (.slice (some ⟨id,0,none⟩) l c,H)
     |none=>none
    else none
   |_,_=>none
  |_,_,_=>none
 |_,_,_=>none
def jn (H:an)(sz n:Nat):Value->Option (List Value)
 |.slice (some a) _ _=>match n with
  |0=>some []
  |_=>match a.spot with
   |some _=>none
   |none=>match H.mem.get a.block with
    |some (.row cells _ _ _ _ _)=>takeN (n*sz) (nP a.off cells)
    |_=>none
 |.slice none _ _=>match n with|0=>some []|_=>none
 |.string s=>match takeN n s.data.toList with
  |some l=>some (l.map fun b=>.int .u8 b.toNat)
  |none=>none
 |_=>none
def rk:Value->Option Nat
 |.slice _ n _=>some n
 |.string s=>some s.data.toList.length
 |_=>none
def x7 (H:an)(id:Nat):List Nat->Option (List Nat×an)
 |[]=>none
 |x::l=>bif Nat.beq x id then some (x::l,H) else
  match H.upd x .dead with|some H=>x7 H id l|none=>none
def ER (H:an)(l:List Nat)(same:Bool):Option (List Nat×an):=
 bif same then some (l,H) else(match se H H.ay l with|some H=>some ([],H)|none=>none)
def fresh (H:an)(elem:TypeId)(cells:List Value)(len:Nat):Option (Value×an):=
 match H.n8 cells elem false with
 |some (id,H)=>some (.slice (some ⟨id,0,none⟩) len cG,H)
 |none=>none
def yL:Option Addr->Bool
 |some a=>(match a.spot with|none=>true|some _=>false)
 |none=>true
def pX (P:Program)(H:an)(ts:TypeId)(s x:Value):Option (Value×an):=
 match P.underlying ts,s with
 |some (.slice elem),.slice base cV h4=>
  match ey P elem,uB P elem,gX P elem,rk x with
  |some sz,some iL,some z,some n=>
   bif !(Nat.ble (cV+n) 1000000&&Nat.ble iL 1000000&&Nat.beq z.cells.toList.length sz) then none else
   match jn H sz n x with
   |none=>none
   |some new=>
    bif !(new.all eV&&Nat.beq new.length (n*sz)) then none else
    bif Nat.beq h4 cG then
     match base with
     |some a=>match a.spot with
      |some _=>none
      |none=>match H.mem.get a.block with
       |some (.row cells el true bw ef sh)=>
        bif !(Nat.beq el elem&&!Nat.blt a.block H.bz&&Nat.ble ef (a.off+cV*sz)) then none else
        bif Nat.beq n 0 then some (s,H) else
        bif !(Nat.beq a.off 0) then none else
        match takeN (cV*sz) cells with
        |none=>none
        |some dH=>
         match H.bw.get bw with
         |none=>none
         |some l=>
          match x7 H a.block l with
          |none=>none
          |some (l,H)=>
           match ER H l (Nat.beq cells.length (cV*sz)) with
           |none=>none
           |some (l,H)=>
            match H.rr bw (H.ay::l) with
            |none=>none
            |some H=>match H.new (.row (dH++new) elem true bw ef sh) with
             |some (id,H)=>some (.slice (some ⟨id,0,none⟩) (cV+n) cG,H)
             |none=>none
       |_=>none
     |none=>none
    else
     bif Nat.ble (cV+n) h4 then
      match base with
      |none=>bif Nat.beq n 0 then some (s,H) else none
      |some a=>match a.spot with
       |some _=>none
       |none=>match rT H a.block (a.off+cV*sz) new with
        |some H=>some (.slice base (cV+n) h4,H)
        |none=>none
     else
      bif yL base then
       match jn H sz cV s with
       |none=>none
       |some dH=>bif Nat.beq dH.length (cV*sz) then fresh H elem (dH++new) (cV+n) else none
      else none
  |_,_,_,_=>none
 |_,_=>none
def Ny (P:Program)(H:an)(rv:TypeId)(d s:Value):Option (Value×an):=
 match P.underlying rv,d,rk s with
 |some (.slice elem),.slice base uD _,some cV=>
  match ey P elem with
  |none=>none
  |some sz=>
   let n:=bif Nat.ble cV uD then cV else uD
   match jn H sz n s with
   |none=>none
   |some cells=>match base with
    |none=>some (.int .i64 n,H)
    |some a=>match a.spot with
     |some _=>none
     |none=>bif !(cells.all eV) then none else match rT H a.block a.off cells with
      |some H=>some (.int .i64 n,H)
      |none=>none
 |_,_,_=>none
def Nw (P:Program)(H:an)(t:TypeId)(x:Value):Option (Value×an):=
 match P.underlying t,x with
 |some _,.slice none _ _=>some (.tuple #[],H)
 |some _,.slice (some _) 0 _=>some (.tuple #[],H)
 |some (.slice elem),.slice (some a) (n+1) _=>(match a.spot,gX P elem with
  |none,some z=>bif plain z then(match rT H a.block a.off (fp z.cells.toList (n+1)) with
   |some H=>some (.tuple #[],H)
   |none=>none) else none
  |_,_=>none)
 |_,_=>none
def places (P:Program):List Field->Option (List (Nat×Nat))
 |[]=>some []
 |f::l=>match ey P f.type,places P l with
  |some n,some r=>some ((f.offset,n)::r)
  |_,_=>none
def m8 (place:Nat->Option (Nat×Nat)):List Value->List (Nat×Value)->Option (List Value)
 |cells,[]=>some cells
 |cells,(i,v)::rest=>match place i with
  |none=>none
  |some (off,size)=>bif Nat.beq v.cells.toList.length size then
   (match gf off cells v.cells.toList with
    |some cells=>m8 place cells rest
    |none=>none)
   else none
def EZ (P:Program)(t:TypeId)(parts:List (Nat×Value)):Option Value:=
 match gX P t,P.underlying t with
 |some z,some (.struct fields)=>bif plain z then
  match places P fields.toList with
  |some ps=>match m8 (nth ps) z.cells.toList parts with
   |some cells=>some (.agg cells.toArray)
   |none=>none
  |none=>none
  else none
 |some z,some (.array _ elem)=>bif plain z then
  match ey P elem with
  |some sz=>match m8 (fun i=>some (i*sz,sz)) z.cells.toList parts with
   |some cells=>some (.agg cells.toArray)
   |none=>none
  |none=>none
  else none
 |_,_=>none
def E0 (P:Program)(H:an)(t:TypeId)(len:Nat)(parts:List (Nat×Value)):Option (Value×an):=
 match P.underlying t with
 |some (.slice elem)=>match ey P elem,gX P elem with
  |some sz,some z=>
   bif Nat.ble len 100000&&Nat.ble (len*sz) 100000&&plain z&&Nat.beq z.cells.toList.length sz then
    match m8 (fun i=>some (i*sz,sz)) (fp z.cells.toList len) parts with
    |some cells=>bif cells.all eV then
     (match tI H elem cells with
      |some (id,H)=>some (.slice (some ⟨id,0,none⟩) len len,H)
      |none=>none)
     else none
    |none=>none
   else none
  |_,_=>none
 |_=>none
def k5 (T:aW Value)(H:an):List (Nat×Operand)->Option (List (Nat×Value))
 |[]=>some []
 |(i,x)::l=>match a1 T H x with
  |some v=>match k5 T H l with|some r=>some ((i,v)::r)|none=>none
  |none=>none
def Cg (P:Program)(x:Value)(asserted:TypeId)(ok:Bool):Option Value:=
 let I8:Option Value:=bif ok then(match gX P asserted with|some z=>bif plain z then some (.tuple #[z,.bool false]) else none|none=>none) else none
 match P.underlying asserted,x with
 |some (.interface _),.nilIface=>I8
 |some (.interface want),.iface t _=>match P.info? t with
  |some i=>match Instr.missingMethod want i.methods with
   |none=>some (bif ok then .tuple #[x,.bool true] else x)
   |some _=>I8
  |none=>none
 |some _,.nilIface=>I8
 |some _,.iface t v=>bif Nat.beq t asserted then some (bif ok then .tuple #[v,.bool true] else v) else I8
 |_,_=>none
def Nx (P:Program)(H:an)(src dst:TypeId)(x:Value):Option Value:=
 match P.underlying src,P.underlying dst,x with
 |some (.pointer t),some .unsafePointer,.pointer (some a)=>(match a.spot,ey P t,H.mem.get a.block with
  |none,some (_+1),some (.row cells _ _ _ _ _)=>bif Nat.blt a.off cells.length then some x else none
  |_,_,_=>none)
 |some .unsafePointer,some (.pointer u),.pointer (some a)=>(match a.spot,ey P u,H.mem.get a.block with
  |none,some (_+1),some (.row cells e false _ _ _)=>bif liesAt P P.depth e (cells.length / P.cellsOf e) a.off u 1 then some x else none
  |_,_,_=>none)
 |_,_,_=>none
def pU:List Value->Option (List UInt8)
 |[]=>some []
 |.int .u8 (.ofNat n)::l=>bif Nat.blt n 256 then(match pU l with|some r=>some (UInt8.ofNat n::r)|none=>none) else none
 |_::_=>none
def Cf (P:Program)(H:an)(src dst:TypeId)(x:Value):Option Value:=
 match P.underlying src,P.underlying dst,x with
 |some (.slice e),some .string,.slice (some a) len _=>bif !(yL (some a)) then none else(match P.underlying e with
  |some (.int .u8)=>(match jn H 1 len (.slice (some a) len 0) with
   |some cells=>(match pU cells with
    |some kK=>some (.string ⟨kK.toArray⟩)
    |none=>none)
   |none=>none)
  |_=>none)
 |some (.slice e),some .string,.slice none _ _=>(match P.underlying e with
  |some (.int .u8)=>some (.string .empty)
  |_=>none)
 |_,_,_=>none
def isByte (v:Value):Bool:=match v with
 |.int .u8 (.ofNat n)=>Nat.blt n 256
 |_=>false
def byteOf (v:Value):UInt8:=match v with
 |.int .u8 (.ofNat n)=>UInt8.ofNat n
 |_=>0
def amv (l:List Value):Option (List Value):=List.rec (motive:=fun _=>Option (List Value)) none (fun v t _=>Bool.rec (motive:=fun _=>Option (List Value)) none (some t) (isByte v)) l
def v7 (k:Nat):List Value->Option (List Value):=
 Nat.rec (motive:=fun _=>List Value->Option (List Value)) amv (fun _ aP l=>Option.rec (motive:=fun _=>Option (List Value)) none aP (aP l)) k
def zM (k:Nat):Nat->List Value->Bool:=
 Nat.rec (motive:=fun _=>Nat->List Value->Bool) (fun n _=>Nat.beq n 0)
  (fun k aP n l=>Bool.rec (motive:=fun _=>Bool) (Option.rec (motive:=fun _=>Bool) false (fun r=>aP (Nat.sub n (Nat.pow 2 k)) r) (v7 k l)) (aP n l) (Nat.blt n (Nat.pow 2 k))) k
def aae (n:Nat)(l:List Value):List UInt8:=
 List.rec (motive:=fun _=>Nat->List UInt8) (fun _=>[]) (fun v _ aP n=>Nat.rec (motive:=fun _=>List UInt8) [] (fun m _=>byteOf v::aP m) n) l n
def aaj (len:Nat)(cells:List Value):Option Value:=bif zM 21 len cells then some (.string ⟨(aae len cells).toArray⟩) else none
def NC (P:Program)(H:an)(src dst:TypeId)(x:Value):Option Value:=
 match P.underlying src,P.underlying dst,x with
 |some (.slice e),some .string,.slice (some a) len _=>(match P.underlying e,a.spot,H.mem.get a.block with
  |some (.int .u8),none,some (.row cells _ _ _ _ _)=>aaj len (nP a.off cells)
  |_,_,_=>none)
 |_,_,_=>none
def Qi (x:Value):Bool:=match x with
 |.slice _ len _=>Nat.blt 256 len
 |_=>false
def NB (P:Program)(H:an)(src dst:TypeId)(x:Value):Option Value:=
 bif Qi x then NC P H src dst x else Cf P H src dst x
def isNil {α:Type}(l:List α):Bool:=List.rec (motive:=fun _=>Bool) true (fun _ _ _=>false) l
def afi {α:Type}(l:List α):Option (List α):=List.rec (motive:=fun _=>Option (List α)) none (fun _ t _=>some t) l
def v5 {α:Type}(k:Nat):List α->Option (List α):=
 Nat.rec (motive:=fun _=>List α->Option (List α)) afi (fun _ aP l=>Option.rec (motive:=fun _=>Option (List α)) none aP (aP l)) k
def zN {α:Type}(k:Nat):Nat->List α->Option Nat:=
 Nat.rec (motive:=fun _=>Nat->List α->Option Nat) (fun n l=>Bool.rec (motive:=fun _=>Option Nat) none (some n) (isNil l))
  (fun k aP n l=>Option.rec (motive:=fun _=>Option Nat) (aP n l) (fun r=>aP (Nat.add n (Nat.pow 2 k)) r) (v5 k l)) k
def AA {α:Type}(l:List α):Option Nat:=bif isNil (nP 256 l) then some l.length else
 match zN 17 0 l with
 |some n=>some n
 |none=>match zN 21 0 l with
  |some n=>some n
  |none=>some l.length
def strCells (l:List UInt8):List Value:=List.rec (motive:=fun _=>List Value) [] (fun b _ r=>Value.int .u8 (.ofNat b.toNat)::r) l
def af0 (n:Nat):Option (Nat×an)->Option (Value×an)
 |some (id,H)=>some (.slice (some ⟨id,0,none⟩) n cG,H)
 |none=>none
def wg (P:Program)(H:an)(src dst:TypeId)(s:ByteArray):Option (Value×an):=
 match P.underlying src,P.underlying dst with
 |some .string,some (.slice e)=>(match P.underlying e with
  |some (.int .u8)=>bif Nat.beq (P.cellsOf e) 1 then af0 s.data.toList.length (H.n8 (strCells s.data.toList) e true) else none
  |_=>none)
 |_,_=>none
def ND (P:Program)(H:an)(sq:TypeId)(p n:Value):Option (Value×an):=
 match p,n with
 |.pointer (some a),.int .i64 (.ofNat 0)=>(match a.spot with|none=>some (.string .empty,H)|some _=>none)
 |.pointer none,.int .i64 (.ofNat 0)=>some (.string .empty,H)
 |.pointer (some a),.int .i64 (.ofNat (n+1))=>(match a.spot,P.underlying sq,H.mem.get a.block with
  |none,some (.pointer u),some (.row cells e opn bw ef sh)=>
   bif !(Nat.beq e u&&Nat.beq (P.cellsOf e) 1&&Nat.ble (n+1) 1000000&&!Nat.blt a.block H.bz&&Nat.beq a.off 0&&!sh) then none else
   (match takeN (n+1) cells with
   |none=>none
   |some l=>(match pU l with
    |none=>none
    |some kK=>
     match H.upd a.block (.row cells e opn bw (bif sh then s' else Nat.max ef (n+1)) sh) with
     |some H=>(match(bif opn then yD H a.block bw else some H) with
      |some H=>some (.string ⟨kK.toArray⟩,H)
      |none=>none)
     |none=>none))
  |_,_,_=>none)
 |_,_=>none
def ya (P:Program)(t:TypeId)(x y:Value):Option Bool:=
 match P.underlying t,x,y with
 |some (.pointer _),.pointer none,.pointer b=>some b.isNone
 |some (.pointer _),.pointer (some _),.pointer none=>some false
 |some (.pointer elem),.pointer (some a),.pointer (some b)=>(match ey P elem with
  |some (_+1)=>bif Nat.beq a.block b.block then some (a==b) else none
  |_=>none)
 |some (.slice _),.slice none _ _,.slice b _ _=>some b.isNone
 |some (.slice _),.slice (some _) _ _,.slice none _ _=>some false
 |some (.map _ _),.map none,.map b=>some b.isNone
 |some (.map _ _),.map (some _),.map none=>some false
 |some (.func _ _ _),.nilFunc,.func _ _ _=>some false
 |some (.func _ _ _),.func _ _ _,.nilFunc=>some false
 |some (.interface _),.nilIface,.iface _ _=>some false
 |some (.interface _),.iface _ _,.nilIface=>some false
 |_,_,_=>none
end
end Go.Cre
namespace Go.Cre
noncomputable section
inductive cE where
 |val (v:Value) (H:an)
 |skip (H:an)
 |gk (d:Deferred)
 |fO (chain:List PanicEntry) (H:an)
 |y0
def gH (v:Option Value)(H:an):Option cE:=Option.rec (motive:=fun _=>Option cE) none (fun v=>some (.val v H)) v
def mS:Option (Value×an)->Option cE
 |some (v,H)=>some (.val v H)
 |none=>none
def Js:Option an->Option cE
 |some H=>some (.skip H)
 |none=>none
def px (T:aW Value)(H:an)(x:Operand):Value:=match a1 T H x with|some v=>v|none=>undef
def fl (P:Program)(T:aW Value)(H:an)(o:Oper):Option cE:=
 match fy T H o.op.operands.toList with
 |none=>none
 |some vs=>bif vs.all plain then
  match e0 P (execOp (px T H) o) with
  |some (.value v)=>bif plain v then some (.val v H) else none
  |some .skip=>some (.skip H)
  |_=>none
  else none
def orElse (a b:Option cE):Option cE:=match a with|some x=>some x|none=>b
abbrev eo:=FuncId->List Value->an->Option (Ending×an)
abbrev gU:=Nat->List Value->an->Option (Ending×an)
def yb (P:Program)(H:an)(recv:Value)(name:String)(rest:List Value):Option (FuncId×List Value):=
 match recv with
 |.iface t v=>match P.info? t with
  |none=>none
  |some i=>match i.methods.find? (·.name==name) with
   |none=>none
   |some m=>bif !m.path.isEmpty then none else
    match m.func with
    |none=>none
    |some (f,xl)=>match P.underlying t,xl with
     |some (.pointer _),true=>some (f,v::rest)
     |some (.pointer _),false=>none
     |some _,false=>some (f,v::rest)
     |_,_=>none
 |_=>none
def jG (P:Program)(H:an)(fn:Fn)(args captured:List Value):Option (FuncId×List Value):=
 match fn with
 |.func f=>some (f,args++captured)
 |.method name=>match args with|r::rest=>yb P H r name rest|[]=>none
 |.methodOf t name=>match args with
  |r::rest=>match P.underlying t with
   |some (.interface _)=>yb P H r name rest
   |some _=>yb P H (.iface t r) name rest
   |none=>none
  |[]=>none
 |_=>none
def m5:Option (Ending×an)->Option cE
 |some (.returned v,H)=>some (.val v H)
 |some (.panicked chain,H)=>some (.fO chain H)
 |_=>none
def DS:Option (Ending×an)->Option cE
 |some (.returned v,H)=>some (.val v H)
 |some (.panicked chain,H)=>some (.fO chain H)
 |_=>none
def lK (P:Program)(call:eo)(aE:gU)(T:aW Value)(H:an)(c:Call):Option cE:=
 match fy T H c.args.toList with
 |none=>none
 |some args=>match c.callee with
  |.value f=>match a1 T H f with
   |some (.func (.yield l) first captured)=>bif first.isEmpty&&captured.isEmpty then DS (aE l args H) else none
   |some (.func fn first captured)=>match jG P H fn (first.toList++args) captured.toList with
    |some (f,bV)=>m5 (call f bV H)
    |none=>none
   |_=>none
  |.invoke recv name=>match a1 T H recv with
   |some r=>match yb P H r name args with
    |some (f,bV)=>m5 (call f bV H)
    |none=>none
   |none=>none
  |.builtin _=>none
def qT {α:Type}(n:Int)(k:Int->α):α:=
 match n with
 |.ofNat 0=>k (.ofNat 0)
 |.ofNat (m+1)=>k (.ofNat (m+1))
 |.negSucc 0=>k (.negSucc 0)
 |.negSucc (m+1)=>k (.negSucc (m+1))
def pD (H:an)(k:IntKind)(n:Int):Option cE:=some (.val (.int k n) H)
def pY (P:Program)(S:aV)(H:an)(o:Oper)(b:Builtin)(c:Call):Option cE:=
 match fy S.T H c.args.toList with
 |none=>none
 |some args=>match b,args,c.argTypes.toList with
  |.len,[.slice _ n _],[t]=>(match P.underlying t with
   |some (.slice _)=>some (.val (.int .i64 n) H)
   |_=>none)
  |.len,[.map (some r)],[t]=>(match P.underlying t with
   |some (.map _ _)=>(match H.mem.get r with
    |some (.map es _)=>some (.val (.int .i64 es.length) H)
    |_=>none)
   |_=>none)
  |.len,[.string s],[t]=>(match P.underlying t with
   |some .string=>(match AA s.data.toList with|some n=>qT (.ofNat n) (pD H .i64)|none=>none)
   |_=>none)
  |.append,[s,x],[ts,iD]=>(match P.underlying iD with
   |some (.int _)=>none
   |some _=>mS (pX P H ts s x)
   |none=>none)
  |.cap,[.slice (some _) _ c],[t]=>(match P.underlying t with
   |some (.slice _)=>bif Nat.beq c cG then none else some (.val (.int .i64 c) H)
   |_=>none)
  |.unsafeSliceData,[.slice (some a) len c],_=>bif Nat.beq c cG&&Nat.beq len 0 then none else bif Nat.beq c 0 then none else some (.val (.pointer (some a)) H)
  |.unsafeString,[p,n],[sq,_]=>mS (ND P H sq p n)
  |.copy,[d,s],[rv,_]=>mS (Ny P H rv d s)
  |.clear,[x],[t]=>mS (Nw P H t x)
  |.panic,[.iface t v],_=>some (.fO [{v:=.iface t v,recovered:=false}] H)
  |.recover,[],_=>some .y0
  |_,_,_=>fl P S.T H o
def w9:Fn->Bool
 |.yield _=>false
 |_=>true
def E1 (ar5:Program)(T:aW Value)(H:an)(c:Call):Option cE:=
 match fy T H c.args.toList with
 |none=>none
 |some args=>match c.callee with
  |.value f=>match a1 T H f with
   |some (.func fn first captured)=>bif w9 fn then some (.gk {target:=.fn fn captured,args:=(first.toList++args).toArray}) else none
   |_=>none
  |.invoke recv name=>match a1 T H recv with
   |some r=>some (.gk {target:=.fn (.method name) #[],args:=(r::args).toArray})
   |none=>none
  |.builtin _=>none
def ho (T:aW Value)(H:an):Option Operand->Option (Option Value)
 |none=>some none
 |some x=>match a1 T H x with|some v=>some (some v)|none=>none
structure ea where
 call:eo
 aE:gU
 S:aV
 H:an
 o:Oper
def ea.a1 (X:ea)(x:Operand):Option Value:=Cre.a1 X.S.T X.H x
def ea.n9 (P:Program)(X:ea):Option cE:=fl P X.S.T X.H X.o
def Ys (P:Program)(X:ea)(x:Operand):Option cE:=gH (X.a1 x) X.H
def yT (P:Program)(X:ea)(a b:Operand):Option Value->Option cE
 |some (.bool true)=>gH (X.a1 a) X.H
 |some (.bool false)=>gH (X.a1 b) X.H
 |_=>none
def amY (P:Program)(X:ea)(c a b:Operand):Option cE:=yT P X a b (X.a1 c)
def Q0 (P:Program)(X:ea)(elem:TypeId):Option Value->Option cE
 |some z=>bif plain z then mS (wb X.H elem z) else none
 |none=>none
def amG (P:Program)(X:ea)(elem:TypeId):Option cE:=Q0 P X elem (gX P elem)
def G8 (P:Program)(X:ea)(elem:TypeId):Option Value->Option cE
 |some v=>mS (wb X.H elem v)
 |none=>none
def amI (P:Program)(X:ea)(elem:TypeId)(x:Operand):Option cE:=G8 P X elem (X.a1 x)
def AR (P:Program)(X:ea)(t:TypeId):Option (List (Nat×Value))->Option cE
 |some ps=>gH (EZ P t ps) X.H
 |none=>none
def amJ (P:Program)(X:ea)(t:TypeId)(parts:Array (Nat×Operand)):Option cE:=AR P X t (k5 X.S.T X.H parts.toList)
def G9 (P:Program)(X:ea)(t:TypeId)(len:Nat):Option (List (Nat×Value))->Option cE
 |some ps=>mS (E0 P X.H t len ps)
 |none=>none
def amK (P:Program)(X:ea)(t:TypeId)(len:Nat)(parts:Array (Nat×Operand)):Option cE:=G9 P X t len (k5 X.S.T X.H parts.toList)
def AU (P:Program)(X:ea)(t:TypeId):Option Value->Option cE
 |some p=>gH (zU P X.H t p) X.H
 |none=>none
def amR (P:Program)(X:ea)(t:TypeId)(a:Operand):Option cE:=AU P X t (X.a1 a)
def Dw (P:Program)(X:ea)(t:TypeId):Option Value->Option Value->Option cE
 |some p,some v=>Js (zV P X.H t p v)
 |_,_=>none
def am0 (P:Program)(X:ea)(t:TypeId)(a x:Operand):Option cE:=Dw P X t (X.a1 a) (X.a1 x)
def AX (P:Program)(X:ea):Option Value->Option cE
 |some (.pointer (some a))=>some (.val (.pointer (some a)) X.H)
 |some (.func (.func f) a b)=>some (.val (.func (.func f) a b) X.H)
 |some (.iface t v)=>some (.val (.iface t v) X.H)
 |_=>none
def amV (P:Program)(X:ea)(x:Operand):Option cE:=AX P X (X.a1 x)
def tF:IntKind->Nat
 |.i8=>0|.i16=>0|.i32=>2147483648|.i64=>9223372036854775808
 |.u8=>256|.u16=>65536|.u32=>4294967296|.u64=>18446744073709551616
def ze (k:IntKind)(n:Int):Int:=
 match n with
 |.ofNat m=>bif Nat.blt m (tF k) then .ofNat m else k.wrap (.ofNat m)
 |.negSucc m=>bif k.signed&&Nat.blt m (tF k) then .negSucc m else k.wrap (.negSucc m)
def qd:Int->Int->Bool
 |.ofNat a,.ofNat b=>Nat.blt a b
 |.negSucc _,.ofNat _=>true
 |.ofNat _,.negSucc _=>false
 |.negSucc a,.negSucc b=>Nat.blt b a
def qc:Int->Int->Bool
 |.ofNat a,.ofNat b=>Nat.beq a b
 |.negSucc a,.negSucc b=>Nat.beq a b
 |_,_=>false
def xp (H:an):Bool->Option cE
 |true=>some (.val (.bool true) H)
 |false=>some (.val (.bool false) H)
def iY (H:an)(k:IntKind)(a b:Int)(y8:Option cE):BinOp->Option cE
 |.add=>qT (ze k (a+b)) (pD H k)
 |.sub=>qT (ze k (a -b)) (pD H k)
 |.mul=>qT (ze k (a*b)) (pD H k)
 |.eql=>xp H (qc a b)
 |.neq=>xp H (!qc a b)
 |.lss=>xp H (qd a b)
 |.leq=>xp H (!qd b a)
 |.gtr=>xp H (qd b a)
 |.geq=>xp H (!qd a b)
 |_=>y8
def xf (P:Program)(X:ea)(t:TypeId)(a b:Value):BinOp->Option cE
 |.eql=>(match ya P t a b with|some r=>some (.val (.bool r) X.H)|none=>none)
 |.neq=>(match ya P t a b with|some r=>some (.val (.bool (!r)) X.H)|none=>none)
 |_=>none
def tK (P:Program)(X:ea)(op:BinOp)(t:TypeId)(a b:Value):Option cE:=orElse (ea.n9 P X) (xf P X t a b op)
def lT:IntKind->IntKind->Bool
 |.i8,.i8=>true|.i16,.i16=>true|.i32,.i32=>true|.i64,.i64=>true|.u8,.u8=>true|.u16,.u16=>true|.u32,.u32=>true|.u64,.u64=>true
 |_,_=>false
def Q1 (P:Program)(X:ea)(op:BinOp)(t:TypeId)(k:IntKind)(a:Int)(l:IntKind)(b:Int):Option cE:=
 bif lT k l then iY X.H k a b (ea.n9 P X) op else tK P X op t (.int k a) (.int l b)
def lX (P:Program)(X:ea)(op:BinOp)(t:TypeId):Option Value->Option Value->Option cE
 |some (.int k a),some (.int l b)=>Q1 P X op t k a l b
 |some a,some b=>tK P X op t a b
 |_,_=>none
def amH (P:Program)(X:ea)(op:BinOp)(t:TypeId)(x y:Operand)(_:TypeId):Option cE:=lX P X op t (X.a1 x) (X.a1 y)
def xg (P:Program)(X:ea)(src dst:TypeId):Option Value->Option cE
 |none=>none
 |some (.string s)=>orElse (mS (wg P X.H src dst s)) (ea.n9 P X)
 |some (.pointer (some a))=>gH (Nx P X.H src dst (.pointer (some a))) X.H
 |some (.slice b l c)=>gH (NB P X.H src dst (.slice b l c)) X.H
 |some (.int _ n)=>(match P.underlying src,P.underlying dst with
  |some _,some (.int k)=>qT (ze k n) (pD X.H k)
  |_,_=>(ea.n9 P X))
 |some _=>(ea.n9 P X)
def amL (P:Program)(X:ea)(src dst:TypeId)(x:Operand):Option cE:=xg P X src dst (X.a1 x)
def AW (P:Program)(X:ea)(t:TypeId):Option Value->Option TypeDesc->Option cE
 |some _,some (.interface _)=>none
 |some v,some _=>some (.val (.iface t v) X.H)
 |_,_=>none
def amT (P:Program)(X:ea)(t:TypeId)(x:Operand):Option cE:=AW P X t (X.a1 x) (P.underlying t)
def AV (P:Program)(X:ea)(fn:Fn):Option (List Value)->Option (List Value)->Option cE
 |some a,some b=>(match fn with
  |.yield _=>none
  |fn=>some (.val (.func fn a.toArray b.toArray) X.H))
 |_,_=>none
def amS (P:Program)(X:ea)(fn:Fn)(first captured:Array Operand):Option cE:=AV P X fn (fy X.S.T X.H first.toList) (fy X.S.T X.H captured.toList)
def G' (P:Program)(X:ea)(t:TypeId):Option Value->Option Value->Option cE
 |some l,some c=>mS (E3 P X.H t l c)
 |_,_=>none
def amU (P:Program)(X:ea)(t:TypeId)(l c:Operand):Option cE:=G' P X t (X.a1 l) (X.a1 c)
def lY (P:Program)(X:ea)(t:TypeId):Option Value->Option (Option Value)->Option (Option Value)->Option cE
 |some v,some lo,some ak=>orElse (gH (jY P X.H t v lo ak) X.H) (ea.n9 P X)
 |_,_,_=>none
def amZ (P:Program)(X:ea)(t:TypeId)(x:Operand)(lo ak:Option Operand):Option Operand->Option cE
 |none=>lY P X t (X.a1 x) (ho X.S.T X.H lo) (ho X.S.T X.H ak)
 |some _=>none
def AT (P:Program)(X:ea)(s:TypeId)(f:Nat):Option Value->Option cE
 |some p=>gH (E2 P s p f) X.H
 |none=>none
def amO (P:Program)(X:ea)(s:TypeId)(x:Operand)(f:Nat):Option cE:=AT P X s f (X.a1 x)
def Dv (P:Program)(X:ea)(f:Nat):Option Value->Option TypeDesc->Option cE
 |some (.agg cs),some (.struct fields)=>(match fields[f]? with
  |some f=>gH (mD P f.type cs.toList f.offset) X.H
  |none=>none)
 |_,_=>none
def amN (P:Program)(X:ea)(t:TypeId)(x:Operand)(f:Nat):Option cE:=Dv P X f (X.a1 x) (P.underlying t)
def xh (P:Program)(X:ea)(t:TypeId):Option Value->Option Value->Option cE
 |some x,some c7=>gH (we P t x c7) X.H
 |_,_=>none
def amQ (P:Program)(X:ea)(t:TypeId)(x c7:Operand):Option cE:=xh P X t (X.a1 x) (X.a1 c7)
def yS (P:Program)(X:ea):Option Value->Option Value->Option TypeDesc->Option cE
 |some (.agg cs),some (.int _ i),some (.array len elem)=>(match tD i len,ey P elem with
  |some n,some sz=>gH (mD P elem cs.toList (n*sz)) X.H
  |_,_=>none)
 |some (.string s),some (.int _ i),some .string=>(match i with
  |.ofNat n=>(match nth s.data.toList n with
   |some b=>qT (.ofNat b.toNat) (pD X.H .u8)
   |none=>none)
  |.negSucc _=>none)
 |_,_,_=>none
def amP (P:Program)(X:ea)(t:TypeId)(x c7:Operand):Option cE:=yS P X (X.a1 x) (X.a1 c7) (P.underlying t)
def AY (P:Program)(X:ea)(asserted:TypeId)(ok:Bool):Option Value->Option cE
 |some v=>gH (Cg P v asserted ok) X.H
 |none=>none
def am1 (P:Program)(X:ea)(x:Operand)(_ asserted:TypeId)(ok:Bool):Option cE:=AY P X asserted ok (X.a1 x)
def AS (P:Program)(X:ea)(c7:Nat):Option Value->Option cE
 |some (.tuple vs)=>gH (nth vs.toList c7) X.H
 |_=>none
def amM (P:Program)(X:ea)(t:Operand)(c7:Nat):Option cE:=AS P X c7 (X.a1 t)
def ju (P:Program)(X:ea)(c:Call):Option cE:=
 match c.callee with
 |.builtin b=>pY P X.S X.H X.o b c
 |_=>lK P X.call X.aE X.S.T X.H c
def vk (P:Program)(X:ea)(c:Call):Option cE:=
 match X.S.cc with
 |none=>E1 P X.S.T X.H c
 |some _=>none
def Ha (P:Program)(X:ea):Option Value->Option cE
 |some (.iface t v)=>some (.fO [{v:=.iface t v,recovered:=false}] X.H)
 |_=>none
def amX (P:Program)(X:ea)(x:Operand):Option cE:=Ha P X (X.a1 x)
def KD.{u} {a:Sort u} (_:a):Option cE:=none
def AK.{u,v} {a:Sort u} {b:Sort v} (_:a) (_:b):Option cE:=none
def Yc.{u,v,w} {a:Sort u} {b:Sort v} {c:Sort w} (_:a) (_:b) (_:c):Option cE:=none
def KE.{u,v,w,x} {a:Sort u} {b:Sort v} {c:Sort w} {d:Sort x} (_:a) (_:b) (_:c) (_:d):Option cE:=none
def am2 (P:Program)(X:ea)(_:UnOp)(_:TypeId)(_:Operand):Option cE:=(ea.n9 P X)
def eF (P:Program)(X:ea):Option cE:=
 Op.rec (motive:=fun _=>Option cE)
  (Ys P X) (Ys P X) (amY P X) (amG P X) (amI P X) (amJ P X) (amK P X) KE (amR P X) (am0 P X)
  KD KD (amV P X) (amH P X) (am2 P X) (amL P X) AK (amT P X) (amS P X) AK AK (amU P X)
  (amZ P X) (amO P X) (amN P X) (amQ P X) (amP P X) KE KE Yc KE AK AK KD (am1 P X) (amM P X)
  (ju P X) KD (vk P X) (amX P X) AK Yc AK X.o.op
def cj (P:Program)(call:eo)(aE:gU)(S:aV)(H:an)(o:Oper):Option cE:=eF P ⟨call,aE,S,H,o⟩
def aV.pz (n:Nat)(ds:List Deferred)(bG:Bool)(bd:FrameMode)(cc:Option Nat)(T:Option (aW Value)):Option aV:=
 Option.rec (motive:=fun _=>Option aV) none (fun T=>some ⟨T,n,ds,bG,bd,cc⟩) T
def aV.anK (v:Value)(S:aV)(d:Tmp):Option aV:=
 aV.rec (motive:=fun _=>Option aV) (fun T n ds bG bd cc=>Bool.rec (motive:=fun _=>Option aV) none (aV.pz n ds bG bd cc (aW.put v T d)) (Nat.ble (Nat.succ d) n)) S
def aV.put (S:aV)(dst:Option Tmp)(v:Value):Option aV:=Option.rec (motive:=fun _=>Option aV) (some S) (aV.anK v S) dst
def aV.DP (d:Deferred):aV->aV
 |⟨T,n,ds,bG,bd,cc⟩=>⟨T,n,d::ds,bG,bd,cc⟩
def aV.xG (bd:FrameMode):aV->aV
 |⟨T,n,ds,bG,_,cc⟩=>⟨T,n,ds,bG,bd,cc⟩
def uN (ops:List Oper)(T:aW Value):Nat×Bool->Option Bool
 |(j,want)=>match nth ops j with
  |some p=>match p.dst with
   |some d=>match T.get d with
    |some (.bool b)=>some (b==want)
    |some (.chan _)=>none
    |some _=>some false
    |none=>none
   |none=>some false
  |none=>some false
def fa (ops:List Oper)(T:aW Value)(o:Oper):Option Bool:=Option.rec (motive:=fun _=>Option Bool) (some true) (uN ops T) o.guard
inductive dd where
 |ok (S:aV) (H:an)
 |fO (chain:List PanicEntry) (S:aV) (H:an)
def mq (H:an)(S:Option aV):Option dd:=Option.rec (motive:=fun _=>Option dd) none (fun S=>some (.ok S H)) S
def lz (S:aV)(dst:Option Tmp)(v:Value)(H:an):Option dd:=mq H (S.put dst v)
def pC (S:aV):Option (Value×FrameMode):=
 match S.cc with
 |some _=>none
 |none=>bif S.bG then(match S.bd with
  |.panicking ({v,recovered:=false,goexit:=false}::KT)=>some (v,.panicking ({v,recovered:=true}::KT))
  |m=>some (.nilIface,m))
  else some (.nilIface,S.bd)
def Dt (S:aV)(H:an)(dst:Option Tmp):Option (Value×FrameMode)->Option dd
 |some (v,bd)=>lz (S.xG bd) dst v H
 |none=>none
def yR (S:aV)(H:an)(dst:Option Tmp)(d:Deferred):Option dd:=
 match S.cc with
 |none=>lz (S.DP d) dst undef H
 |some _=>none
def Yr (S:aV)(H:an)(dst:Option Tmp)(r:cE):Option dd:=
 cE.rec (motive:=fun _=>Option dd) (lz S dst) (lz S dst undef) (yR S H dst) (fun chain H=>some (.fO chain S H)) (Dt S H dst (pC S)) r
def np (S:aV)(H:an)(dst:Option Tmp)(r:Option cE):Option dd:=Option.rec (motive:=fun _=>Option dd) none (Yr S H dst) r
def amB (P:Program)(call:eo)(aE:gU)(S:aV)(H:an)(o:Oper)(b:Bool):Option dd:=
 Bool.rec (motive:=fun _=>Option dd) (lz S o.dst undef H) (np S H o.dst (cj P call aE S H o)) b
def one (P:Program)(call:eo)(aE:gU)(ops:List Oper)(S:aV)(H:an)(o:Oper):Option dd:=
 Option.rec (motive:=fun _=>Option dd) none (amB P call aE S H o) (fa ops S.T o)
def aon (k:aV->an->Option dd)(r:dd):Option dd:=dd.rec (motive:=fun _=>Option dd) k (fun chain S H=>some (.fO chain S H)) r
def UD (k:aV->an->Option dd)(r:Option dd):Option dd:=Option.rec (motive:=fun _=>Option dd) none (aon k) r
def Cd (P:Program)(call:eo)(aE:gU)(ops:List Oper)(l:List Oper):aV->an->Option dd:=
 List.rec (motive:=fun _=>aV->an->Option dd) (fun S H=>some (.ok S H)) (fun o _ rest S H=>UD rest (one P call aE ops S H o)) l
end
end Go.Cre
