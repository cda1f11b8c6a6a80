/- A part of the proof of ResumeBytes. -/
import GoSem.Step
import Derived.Calls
import Derived.Defers
import Derived.Recover
set_option linter.unusedVariables false
set_option linter.unusedSimpArgs false
set_option linter.defProp false
namespace Go
noncomputable section
def aaL:=@Array.all_eq_true_iff_forall_mem
def aaM:=@Array.eq_empty_of_size_eq_zero
def tf:=@Array.ext'
def Fu:=@Array.ext_getElem?
def Si:=@Array.getElem?_append
def Sj:=@Array.getElem?_append_left
def CT:=@Array.getElem?_eq_getElem
def tg:=@Array.getElem?_eq_none
def Sk:=@Array.getElem?_eq_some_iff
def aaN:=@Array.getElem?_modify
def An:=@Array.getElem?_setIfInBounds
def aaO:=@Array.getElem?_setIfInBounds_ne
def aaP:=@Array.mapM_eq_mapM_toList
def Jv:=@Array.mem_of_getElem?
def Fv:=@Array.mem_toList_iff
def Sl:=@Array.size_push
def Jw:=@Array.size_setIfInBounds
def aaQ:=@Array.toArray_toList
def fS:=@Bool.and_eq_true
def wG:=@Bool.and_self
def wH:=@Bool.and_true
def Sm:=@Bool.decide_eq_true
def qT:=@Bool.eq_iff_iff
def Fx:=@Bool.false_eq_true
def CU:=@Bool.false_ne_true
def qU:=@Bool.not_eq_true'
def MP:=@Bool.not_false
def lY:=@Bool.not_true
def yw:=@Bool.or_eq_true
def Fy:=@Bool.true_and
def qW:=@Classical.byContradiction
def aaS:=@Classical.choose_spec
def gQ:=@Classical.not_not
def aaY:=@Int.ediv_le_of_le_mul
def MS:=@Int.emod_lt_of_pos
def MT:=@Int.emod_nonneg
def St:=@Int.le_of_lt
def JB:=@Int.le_refl
def Su:=@Int.mul_add
def Sv:=@Int.mul_le_mul_of_nonneg_left
def MU:=@Int.mul_le_mul_of_nonneg_right
def Sw:=@Int.tdiv_eq_ediv_of_nonneg
def MV:=@Int.tmod_eq_emod_of_nonneg
def cx:=@Int.toNat_natCast
def At:=@List.Perm.append_left
def Sz:=@List.Perm.refl
def q3:=@List.Sublist.append
def bu:=@List.Sublist.refl
def sb:=@List.all_cons
def tk:=@List.all_eq_true
def FG:=@List.all_nil
def JE:=@List.any_eq_true
def gw:=@List.append_assoc
def aa1:=@List.append_cancel_left
def gj:=@List.append_nil
def Au:=@List.count_append
def aa2:=@List.dropLast_concat_getLast
def SA:=@List.drop_append
def yz:=@List.drop_drop
def ny:=@List.drop_eq_getElem_cons
def Av:=@List.drop_eq_nil_of_le
def SB:=@List.drop_left
def Aw:=@List.drop_of_length_le
def MX:=@List.drop_succ_cons
def FH:=@List.drop_take
def mr:=@List.drop_zero
def yA:=@List.eq_nil_of_length_eq_zero
def wL:=@List.eq_of_mem_replicate
def lA:=@List.ext_getElem?
def SC:=@List.filterMap_cons
def SD:=@List.flatMap_append
def FI:=@List.flatMap_cons
def JF:=@List.foldl_append
def SE:=@List.forIn_cons
def SF:=@List.getElem?_append
def k1:=@List.getElem?_append_left
def pk:=@List.getElem?_append_right
def yB:=@List.getElem?_cons_succ
def q4:=@List.getElem?_drop
def dj:=@List.getElem?_eq_getElem
def fo:=@List.getElem?_eq_none
def dY:=@List.getElem?_eq_some_iff
def oF:=@List.getElem?_map
def aa3:=@List.getElem?_mapIdx
def FJ:=@List.getElem?_range
def C1:=@List.getElem?_replicate
def kJ:=@List.getElem?_set
def kK:=@List.getElem?_take
def aa4:=@List.getElem?_toArray
def aa5:=@List.getElem?_zip_eq_some
def JG:=@List.getElem_mem
def dP:=@List.length_append
def jh:=@List.length_cons
def ms:=@List.length_drop
def SG:=@List.length_eq_one_iff
def q5:=@List.length_eq_zero_iff
def lB:=@List.length_map
def Ax:=@List.length_nil
def FK:=@List.length_pos_iff
def sc:=@List.length_replicate
def uY:=@List.length_reverse
def fz:=@List.length_set
def tl:=@List.length_singleton
def iu:=@List.length_take
def SH:=@List.mapM_cons
def MY:=@List.map_append
def nz:=@List.map_cons
def ko:=@List.mem_append
def nX:=@List.mem_append_left
def hT:=@List.mem_append_right
def e3:=@List.mem_cons
def aa6:=@List.mem_cons_of_mem
def kp:=@List.mem_iff_getElem?
def uZ:=@List.mem_map
def JH:=@List.mem_map_of_mem
def cb:=@List.mem_of_getElem?
def MZ:=@List.mem_of_mem_drop
def SI:=@List.mem_of_mem_take
def Ay:=@List.mem_or_eq_of_mem_set
def SJ:=@List.mem_range
def JI:=@List.mem_singleton
def k2:=@List.nil_append
def h5:=@List.nil_sublist
def JJ:=@List.nodup_append
def se:=@List.nodup_cons
def JK:=@List.not_mem_nil
def SK:=@List.pairwise_cons
def SL:=@List.pairwise_singleton
def hU:=@List.perm_append_comm
def aa7:=@List.perm_append_comm_assoc
def wM:=@List.perm_middle
def aa8:=@List.range_eq_range'
def aa9:=@List.set_append_right
def JL:=@List.set_eq_take_append_cons_drop
def SM:=@List.size_toArray
def q6:=@List.sublist_append_left
def JM:=@List.sublist_append_right
def SN:=@List.sum_cons
def nY:=@List.take_add_one
def SO:=@List.take_append
def SP:=@List.take_append_drop
def JN:=@List.take_append_of_le_length
def SQ:=@List.take_left
def tm:=@List.take_length
def eo:=@List.take_of_length_le
def JO:=@List.take_succ_cons
def yC:=@List.take_take
def JP:=@List.take_zero
def nA:=@Nat.add_mul
def tn:=@Nat.add_zero
def hz:=@Nat.beq_refl
def j8:=@Nat.ble_eq_true_of_le
def eO:=@Nat.eq_of_beq_eq_true
def M0:=@Nat.eq_zero_or_pos
def hV:=@Nat.le_of_ble_eq_true
def cW:=@Nat.le_refl
def p7:=@Nat.le_trans
def FL:=@Nat.lt_irrefl
def wN:=@Nat.lt_of_le_of_lt
def yD:=@Nat.lt_of_lt_of_le
def ji:=@Nat.lt_or_ge
def mu:=@Nat.min_eq_left
def SR:=@Nat.mul_le_mul
def nB:=@Nat.mul_le_mul_right
def yE:=@Nat.mul_one
def aa':=@Nat.pow_le_pow_right
def C2:=@Nat.pow_succ
def sf:=@Nat.sub_self
def Az:=@Nat.sub_zero
def u0:=@Nat.succ_le_iff
def po:=@Nat.succ_mul
def lC:=@Nat.zero_add
def cy:=@Nat.zero_le
def JR:=@Nat.zero_mul
def aba:=@Option.bind_eq_some_iff
def SS:=@Option.bind_some
def SU:=@Option.getD_some
def abb:=@Option.map_eq_some_iff
def FN:=@Option.map_some
def cp:=@Option.some.injEq
def dB:=@Prod.mk.injEq
def Nd:=@beq_false
def J8:=@beq_iff_eq
def dT:=@cond_false
def b7:=@cond_true
def cD:=@congrArg
def GA:=@decide_eq_false
def mz:=@decide_eq_false_iff_not
def y4:=@decide_eq_true
def GB:=@decide_eq_true_eq
def l6:=@decide_eq_true_iff
def EA:=@if_false
def an:=@if_neg
def aE:=@if_pos
def EB:=@if_true
def lV:=@of_decide_eq_true
end
end Go
namespace Go.Cre
noncomputable section
inductive bg (α:Type) where
 |leaf
 |node (v:Option α) (l r:bg α)
def bg.get {α:Type}(t:bg α):Nat->Option α:=
 bg.rec (motive:=fun _=>Nat->Option α) (fun _=>none)
  (fun v _ _ l r n=>Nat.rec (motive:=fun _=>Option α) v (fun m _=>Bool.rec (motive:=fun _=>Option α) (r (Nat.div m 2)) (l (Nat.div m 2)) (Nat.beq (Nat.mod m 2) 0)) n) t
def bg.left {α:Type}(v:Option α)(r:bg α)(l:Option (bg α)):Option (bg α):=Option.rec (motive:=fun _=>Option (bg α)) none (fun l=>some (.node v l r)) l
def bg.right {α:Type}(v:Option α)(l:bg α)(r:Option (bg α)):Option (bg α):=Option.rec (motive:=fun _=>Option (bg α)) none (fun r=>some (.node v l r)) r
def bg.put {α:Type}(a:α)(t:bg α):Nat->Option (bg α):=
 bg.rec (motive:=fun _=>Nat->Option (bg α))
  (fun n=>Nat.rec (motive:=fun _=>Option (bg α)) (some (.node (some a) .leaf .leaf)) (fun _ _=>none) n)
  (fun v l r pl Ck n=>Nat.rec (motive:=fun _=>Option (bg α)) (some (.node (some a) l r))
   (fun m _=>Bool.rec (motive:=fun _=>Option (bg α)) (bg.right v l (Ck (Nat.div m 2))) (bg.left v r (pl (Nat.div m 2))) (Nat.beq (Nat.mod m 2) 0)) n) t
def bg.set {α:Type}(_:Nat)(t:bg α)(n:Nat)(a:α):Option (bg α):=bg.put a t n
def bg.full {α:Type}(a:α)(d:Nat):bg α:=Nat.rec (motive:=fun _=>bg α) .leaf (fun _ t=>.node (some a) t t) d
def Mv:Nat:=64
structure Sf where
 state:LoopState
 pending:Option Code
 T:bg Value
 n:Nat
 params:List Tmp
 assign:Code
 body:Code
 iW:Nat
inductive fg where
 |row (cells:List Value) (elem:TypeId) (opn:Bool) (bI:Nat) (eA:Nat) (sh:Bool)
 |map (es:List MapEntry) (clock:Nat)
 |loop (l:Sf)
 |iW (ds:Option (List Deferred))
 |dead
structure aA where
 mem:bg fg
 ak:Nat
 bI:bg (List Nat)
 cn:Nat
 bW:Nat
structure bh where
 T:bg Value
 n:Nat
 ds:List Deferred
 b5:Bool
 bF:FrameMode
 cK:Option Nat
def cZ:Nat:=1208925819614629174706176
def sD:Nat:=1208925819614629174706176
def aA.Z1 (ak:Nat)(bI:bg (List Nat))(cn bW:Nat):Option (bg fg)->Option aA
 |some m=>some ⟨m,ak,bI,cn,bW⟩
 |none=>none
def aA.upd (H:aA)(id:Nat)(b:fg):Option aA:=
 match H with
 |⟨mem,ak,bI,cn,bW⟩=>aA.Z1 ak bI cn bW (bg.put b mem id)
def aA.XU (ak:Nat)(bI:bg (List Nat))(cn bW:Nat)(m:bg fg):Nat->Option (Nat×aA)
 |0=>none
 |n+1=>some (ak,⟨m,n+1,bI,cn,bW⟩)
def aA.QM (ak:Nat)(bI:bg (List Nat))(cn bW:Nat):Option (bg fg)->Option (Nat×aA)
 |some m=>aA.XU ak bI cn bW m (Nat.succ ak)
 |none=>none
def aA.new (H:aA)(b:fg):Option (Nat×aA):=
 match H with
 |⟨mem,ak,bI,cn,bW⟩=>aA.QM ak bI cn bW (bg.put b mem ak)
def aA.Zk (mem:bg fg)(ak cn bW:Nat):Option (bg (List Nat))->Option aA
 |some f=>some ⟨mem,ak,f,cn,bW⟩
 |none=>none
def aA.qK (H:aA)(f:Nat)(l:List Nat):Option aA:=
 match H with
 |⟨mem,ak,bI,cn,bW⟩=>aA.Zk mem ak cn bW (bg.put l bI f)
def aA.XV (mem:bg fg)(ak:Nat)(bI:bg (List Nat))(cn bW:Nat):Nat->Option (Nat×aA)
 |0=>none
 |n+1=>some (cn,⟨mem,ak,bI,n+1,bW⟩)
def aA.QN (mem:bg fg)(ak cn bW:Nat):Option (bg (List Nat))->Option (Nat×aA)
 |some f=>aA.XV mem ak f cn bW (Nat.succ cn)
 |none=>none
def aA.wi (H:aA):Option (Nat×aA):=
 match H with
 |⟨mem,ak,bI,cn,bW⟩=>aA.QN mem ak cn bW (bg.put [ak] bI cn)
def aA.nl (H:aA)(cells:List Value)(elem:TypeId)(sh:Bool):Option (Nat×aA):=
 match H.wi with
 |some (f,H)=>H.new (.row cells elem true f 0 sh)
 |none=>none
def iF:Nat->Value->Bool
 |0,_=>false
 |n+1,v=>
  match v with
  |.bool _|.int _ _|.float _ _|.string _|.nilFunc|.nilIface=>true
  |.pointer none|.slice none _ _|.map none=>true
  |.iface _ v=>iF n v
  |.agg cs=>cs.toList.all (iF n)
  |.tuple cs=>cs.toList.all (iF n)
  |.func (.func _) a b=>a.isEmpty&&b.isEmpty
  |_=>false
def plain (v:Value):Bool:=iF 8 v
def nth {α:Type}(l:List α):Nat->Option α:=
 List.rec (motive:=fun _=>Nat->Option α) (fun _=>none) (fun a _ r n=>Nat.rec (motive:=fun _=>Option α) (some a) (fun m _=>r m) n) l
def nJ {α:Type}(n:Nat)(l:List α):List α:=
 List.rec (motive:=fun _=>Nat->List α) (fun _=>[]) (fun a t r n=>Nat.rec (motive:=fun _=>List α) (a::t) (fun m _=>r m) n) l n
def takeN {α:Type}:Nat->List α->Option (List α)
 |0,_=>some []
 |_+1,[]=>none
 |n+1,a::l=>match takeN n l with|some r=>some (a::r)|none=>none
def gg {α:Type}:Nat->List α->List α->Option (List α)
 |0,l,[]=>some l
 |0,[],_::_=>none
 |0,_::l,v::vs=>match gg 0 l vs with|some r=>some (v::r)|none=>none
 |_+1,[],_=>none
 |n+1,a::l,vs=>match gg n l vs with|some r=>some (a::r)|none=>none
def eM:Value->Bool
 |.agg _=>false
 |.tuple _=>false
 |_=>true
def eY {α:Type}(P:Program):Sem α->Option α
 |.pure a=>some a
 |.program k=>eY P (k P)
 |.mark _ k=>eY P k
 |_=>none
def Q7 (H:aA)(g:Nat):Option Value:=
 bif Nat.blt g H.bW then(match H.mem.get g with|some (.row _ _ _ _ _ _)=>some (.pointer (some ⟨g,0,none⟩))|_=>none) else none
def Q6 (v:Value):Option Value:=bif plain v then some v else none
def bj (T:bg Value)(H:aA)(x:Operand):Option Value:=
 Operand.rec (motive:=fun _=>Option Value) (fun t=>T.get t) Q6 (Q7 H) (fun f=>some (.func (.func f) #[] #[])) x
def eI (T:bg Value)(H:aA):List Operand->Option (List Value)
 |[]=>some []
 |x::l=>match bj T H x with
  |some v=>match eI T H l with|some vs=>some (v::vs)|none=>none
  |none=>none
def sl (P:Program)(t:TypeId):Option (Option Nat):=
 match P.info? t with
 |none=>none
 |some i=>match P.underlying t with
  |some (.struct _)=>some (some i.size)
  |some (.array _ _)=>some (some i.size)
  |some _=>some none
  |none=>none
def ef (P:Program)(t:TypeId):Option Nat:=match P.info? t with|some i=>some i.size|none=>none
def fy (P:Program)(t:TypeId):Option Value:=match P.info? t with|some i=>i.zero|none=>none
def vh (P:Program)(t:TypeId):Option Nat:=match P.info? t with|some i=>some i.bytes|none=>none
def mX (P:Program)(t:TypeId)(cs:List Value)(off:Nat):Option Value:=
 match sl P t with
 |some (some n)=>match takeN n (nJ off cs) with|some l=>some (.agg l.toArray)|none=>none
 |some none=>nth cs off
 |none=>none
def DN (P:Program)(H:aA)(t:TypeId)(a:Addr):Option Value:=
 match a.spot with
 |some _=>none
 |none=>match H.mem.get a.block with
  |some (.row cells _ _ _ _ _)=>mX P t cells a.off
  |_=>none
def AZ (P:Program)(H:aA)(t:TypeId):Value->Option Value
 |.pointer (some a)=>DN P H t a
 |_=>none
def sX (H:aA)(o9:Nat):List Nat->Option aA
 |[]=>some H
 |x::l=>bif Nat.beq x o9 then sX H o9 l else
  match H.upd x .dead with|some H=>sX H o9 l|none=>none
def wb (H:aA)(id bI:Nat):Option aA:=
 match H.bI.get bI with
 |none=>none
 |some l=>
  match sX H id l with
  |none=>none
  |some H=>H.qK bI [id]
def rl (H:aA)(id off:Nat)(vs:List Value):Option aA:=
 match vs with
 |[]=>some H
 |_=>bif Nat.blt id H.bW then none else
  match H.mem.get id with
  |some (.row cells elem opn bI eA sh)=>
   bif Nat.ble eA off&&vs.all eM then
    match gg off cells vs with
    |none=>none
    |some cells=>
     match H.upd id (.row cells elem opn bI eA sh) with
     |none=>none
     |some H=>bif opn then wb H id bI else some H
   else none
  |_=>none
def xj (P:Program)(H:aA)(t:TypeId)(p v:Value):Option aA:=
 match p with
 |.pointer (some a)=>match a.spot with
  |some _=>none
  |none=>match ef P t with
   |some n=>bif Nat.beq v.cells.toList.length n then rl H a.block a.off v.cells.toList else none
   |none=>none
 |_=>none
def uB (H:aA)(elem:TypeId)(cells:List Value):Option (Nat×aA):=H.new (.row cells elem false 0 0 false)
def xh (H:aA)(elem:TypeId)(v:Value):Option (Value×aA):=
 bif v.cells.toList.all eM then
  match uB H elem v.cells.toList with
  |some (id,H)=>some (.pointer (some ⟨id,0,none⟩),H)
  |none=>none
 else none
def GO (P:Program)(s:TypeId)(p:Value)(field:Nat):Option Value:=
 match p with
 |.pointer (some a)=>match a.spot with
  |some _=>none
  |none=>match P.underlying s with
   |some (.struct fields)=>match fields[field]? with
    |some f=>match ef P f.type with
     |some (_+1)=>some (.pointer (some ⟨a.block,a.off+f.offset,none⟩))
     |_=>none
    |none=>none
   |_=>none
 |_=>none
def uv (i:Int)(len:Nat):Option Nat:=
 match i with
 |.ofNat n=>bif Nat.blt n len then some n else none
 |.negSucc _=>none
def qw (i:Int)(len:Nat):Option Nat:=
 match i with
 |.ofNat n=>bif Nat.ble n len then some n else none
 |.negSucc _=>none
def AY (P:Program)(t:TypeId)(x aW:Value):Option Value:=
 match aW with
 |.int _ i=>
  match P.underlying t,x with
  |some (.array len elem),.pointer (some a)=>match a.spot with
   |some _=>none
   |none=>match uv i len,ef P elem with
    |some n,some sz=>some (.pointer (some ⟨a.block,a.off+n*sz,none⟩))
    |_,_=>none
  |some (.slice elem),.slice (some a) len _=>match a.spot with
   |some _=>none
   |none=>match uv i len,ef P elem with
    |some n,some sz=>some (.pointer (some ⟨a.block,a.off+n*sz,none⟩))
    |_,_=>none
  |_,_=>none
 |_=>none
def lE (d:Nat)(top:Nat):Option Value->Option Nat
 |none=>some d
 |some (.int _ i)=>qw i top
 |some _=>none
def oS (P:Program)(H:aA)(t:TypeId)(x:Value)(cm ao:Option Value):Option Value:=
 match P.underlying t,x with
 |some (.array n elem),.pointer (some a)=>match a.spot with
  |some _=>none
  |none=>match ef P elem with
   |none=>none
   |some sz=>bif !Nat.blt n cZ then none else match lE n n ao with
    |none=>none
    |some h=>match lE 0 h cm with
     |none=>none
     |some l=>some (.slice (some (bif Nat.beq n l then a else⟨a.block,a.off+l*sz,none⟩)) (Nat.sub h l) (Nat.sub n l))
 |some (.slice elem),.slice (some a) len cap=>match a.spot with
  |some _=>none
  |none=>match ef P elem with
   |none=>none
   |some sz=>
    bif Nat.beq cap cZ then
     match H.mem.get a.block with
     |some (.row _ el _ _ _ _)=>bif !Nat.beq el elem then none else
      (match lE len len ao with
      |none=>none
      |some h=>match lE 0 h cm with
       |none=>none
       |some l=>some (.slice (some ⟨a.block,a.off+l*sz,none⟩) (Nat.sub h l) cZ))
     |_=>none
    else
     match lE len cap ao with
     |none=>none
     |some h=>match lE 0 h cm with
      |none=>none
      |some l=>some (.slice (some (bif Nat.beq cap l then a else⟨a.block,a.off+l*sz,none⟩)) (Nat.sub h l) (Nat.sub cap l))
 |_,_=>none
def Sc (v:Value)(n:Nat):List Value:=Nat.rec (motive:=fun _=>List Value) [] (fun _ aI=>v::aI) n
def aqF (z:List Value)(n:Nat):List Value:=Nat.rec (motive:=fun _=>List Value) [] (fun _ aI=>z++aI) n
def gG (z:List Value)(n:Nat):List Value:=
 match z with
 |[]=>[]
 |[v]=>Sc v n
 |a::b::z=>aqF (a::b::z) n
def GP (P:Program)(H:aA)(t:TypeId)(l c:Value):Option (Value×aA):=
 match l,c,P.underlying t with
 |.int _ l,.int _ c,some (.slice elem)=>
  match fy P elem,vh P elem,ef P elem with
  |some z,some fO,some sz=>
   match qw c 1000000,qw l 1000000 with
   |some c,some l=>
    bif Nat.ble l c&&Nat.ble fO 1000000&&Nat.beq z.cells.toList.length sz&&z.cells.toList.all eM&&plain z then
     match uB H elem (gG z.cells.toList c) with
     |some (id,H)=>some (.slice (some ⟨id,0,none⟩) l c,H)
     |none=>none
    else none
   |_,_=>none
  |_,_,_=>none
 |_,_,_=>none
def js (H:aA)(sz n:Nat):Value->Option (List Value)
 |.slice (some a) _ _=>match n with
  |0=>some []
  |_=>match a.spot with
   |some _=>none
   |none=>match H.mem.get a.block with
    |some (.row cells _ _ _ _ _)=>takeN (n*sz) (nJ a.off cells)
    |_=>none
 |.slice none _ _=>match n with|0=>some []|_=>none
 |.string s=>match takeN n s.data.toList with
  |some l=>some (l.map fun b=>.int .u8 b.toNat)
  |none=>none
 |_=>none
def rS:Value->Option Nat
 |.slice _ n _=>some n
 |.string s=>some s.data.toList.length
 |_=>none
def y1 (H:aA)(id:Nat):List Nat->Option (List Nat×aA)
 |[]=>none
 |x::l=>bif Nat.beq x id then some (x::l,H) else
  match H.upd x .dead with|some H=>y1 H id l|none=>none
def Gy (H:aA)(l:List Nat)(same:Bool):Option (List Nat×aA):=
 bif same then some (l,H) else(match sX H H.ak l with|some H=>some ([],H)|none=>none)
def fresh (H:aA)(elem:TypeId)(cells:List Value)(len:Nat):Option (Value×aA):=
 match H.nl cells elem false with
 |some (id,H)=>some (.slice (some ⟨id,0,none⟩) len cZ,H)
 |none=>none
def zI:Option Addr->Bool
 |some a=>(match a.spot with|none=>true|some _=>false)
 |none=>true
def qc (P:Program)(H:aA)(hh:TypeId)(s x:Value):Option (Value×aA):=
 match P.underlying hh,s with
 |some (.slice elem),.slice base c' il=>
  match ef P elem,vh P elem,fy P elem,rS x with
  |some sz,some fO,some z,some n=>
   bif !(Nat.ble (c'+n) 1000000&&Nat.ble fO 1000000&&Nat.beq z.cells.toList.length sz) then none else
   match js H sz n x with
   |none=>none
   |some new=>
    bif !(new.all eM&&Nat.beq new.length (n*sz)) then none else
    bif Nat.beq il cZ then
     match base with
     |some a=>match a.spot with
      |some _=>none
      |none=>match H.mem.get a.block with
       |some (.row cells el true bI eA sh)=>
        bif !(Nat.beq el elem&&!Nat.blt a.block H.bW&&Nat.ble eA (a.off+c'*sz)) then none else
        bif Nat.beq n 0 then some (s,H) else
        bif !(Nat.beq a.off 0) then none else
        match takeN (c'*sz) cells with
        |none=>none
        |some ev=>
         match H.bI.get bI with
         |none=>none
         |some l=>
          match y1 H a.block l with
          |none=>none
          |some (l,H)=>
           match Gy H l (Nat.beq cells.length (c'*sz)) with
           |none=>none
           |some (l,H)=>
            match H.qK bI (H.ak::l) with
            |none=>none
            |some H=>match H.new (.row (ev++new) elem true bI eA sh) with
             |some (id,H)=>some (.slice (some ⟨id,0,none⟩) (c'+n) cZ,H)
             |none=>none
       |_=>none
     |none=>none
    else
     bif Nat.ble (c'+n) il then
      match base with
      |none=>bif Nat.beq n 0 then some (s,H) else none
      |some a=>match a.spot with
       |some _=>none
       |none=>match rl H a.block (a.off+c'*sz) new with
        |some H=>some (.slice base (c'+n) il,H)
        |none=>none
     else
      bif zI base then
       match js H sz c' s with
       |none=>none
       |some ev=>bif Nat.beq ev.length (c'*sz) then fresh H elem (ev++new) (c'+n) else none
      else none
  |_,_,_,_=>none
 |_,_=>none
def GM (P:Program)(H:aA)(r7:TypeId)(d s:Value):Option (Value×aA):=
 match P.underlying r7,d,rS s with
 |some (.slice elem),.slice base vp _,some c'=>
  match ef P elem with
  |none=>none
  |some sz=>
   let n:=bif Nat.ble c' vp then c' else vp
   match js H sz n s with
   |none=>none
   |some cells=>match base with
    |none=>some (.int .i64 n,H)
    |some a=>match a.spot with
     |some _=>none
     |none=>bif !(cells.all eM) then none else match rl H a.block a.off cells with
      |some H=>some (.int .i64 n,H)
      |none=>none
 |_,_,_=>none
def places (P:Program):List Field->Option (List (Nat×Nat))
 |[]=>some []
 |f::l=>match ef P f.type,places P l with
  |some n,some r=>some ((f.offset,n)::r)
  |_,_=>none
def nK (place:Nat->Option (Nat×Nat)):List Value->List (Nat×Value)->Option (List Value)
 |cells,[]=>some cells
 |cells,(i,v)::rest=>match place i with
  |none=>none
  |some (off,size)=>bif Nat.beq v.cells.toList.length size then
   (match gg off cells v.cells.toList with
    |some cells=>nK place cells rest
    |none=>none)
   else none
def GK (P:Program)(t:TypeId)(parts:List (Nat×Value)):Option Value:=
 match fy P t,P.underlying t with
 |some z,some (.struct fields)=>bif plain z then
  match places P fields.toList with
  |some ew=>match nK (nth ew) z.cells.toList parts with
   |some cells=>some (.agg cells.toArray)
   |none=>none
  |none=>none
  else none
 |some z,some (.array _ elem)=>bif plain z then
  match ef P elem with
  |some sz=>match nK (fun i=>some (i*sz,sz)) z.cells.toList parts with
   |some cells=>some (.agg cells.toArray)
   |none=>none
  |none=>none
  else none
 |_,_=>none
def GL (P:Program)(H:aA)(t:TypeId)(len:Nat)(parts:List (Nat×Value)):Option (Value×aA):=
 match P.underlying t with
 |some (.slice elem)=>match ef P elem,fy P elem with
  |some sz,some z=>
   bif Nat.ble len 100000&&Nat.ble (len*sz) 100000&&plain z&&Nat.beq z.cells.toList.length sz then
    match nK (fun i=>some (i*sz,sz)) (gG z.cells.toList len) parts with
    |some cells=>bif cells.all eM then
     (match uB H elem cells with
      |some (id,H)=>some (.slice (some ⟨id,0,none⟩) len len,H)
      |none=>none)
     else none
    |none=>none
   else none
  |_,_=>none
 |_=>none
def ls (T:bg Value)(H:aA):List (Nat×Operand)->Option (List (Nat×Value))
 |[]=>some []
 |(i,x)::l=>match bj T H x with
  |some v=>match ls T H l with|some r=>some ((i,v)::r)|none=>none
  |none=>none
def y' (P:Program)(x:Value)(asserted:TypeId)(ok:Bool):Option Value:=
 let Ku:Option Value:=bif ok then(match fy P asserted with|some z=>bif plain z then some (.tuple #[z,.bool false]) else none|none=>none) else none
 match P.underlying asserted,x with
 |some (.interface _),.nilIface=>Ku
 |some (.interface want),.iface t _=>match P.info? t with
  |some i=>match Instr.missingMethod want i.methods with
   |none=>some (bif ok then .tuple #[x,.bool true] else x)
   |some _=>Ku
  |none=>none
 |some _,.nilIface=>Ku
 |some _,.iface t v=>bif Nat.beq t asserted then some (bif ok then .tuple #[v,.bool true] else v) else Ku
 |_,_=>none
def AW (P:Program)(H:aA)(src dst:TypeId)(x:Value):Option Value:=
 match P.underlying src,P.underlying dst,x with
 |some (.pointer t),some .unsafePointer,.pointer (some a)=>(match a.spot,ef P t,H.mem.get a.block with
  |none,some (_+1),some (.row cells _ _ _ _ _)=>bif Nat.blt a.off cells.length then some x else none
  |_,_,_=>none)
 |some .unsafePointer,some (.pointer u),.pointer (some a)=>(match a.spot,ef P u,H.mem.get a.block with
  |none,some (_+1),some (.row cells e false _ _ _)=>bif liesAt P P.depth e (cells.length / P.cellsOf e) a.off u 1 then some x else none
  |_,_,_=>none)
 |_,_,_=>none
def nF:List Value->Option (List UInt8)
 |[]=>some []
 |.int .u8 (.ofNat n)::l=>bif Nat.blt n 256 then(match nF l with|some r=>some (UInt8.ofNat n::r)|none=>none) else none
 |_::_=>none
def A0 (P:Program)(H:aA)(src dst:TypeId)(x:Value):Option Value:=
 match P.underlying src,P.underlying dst,x with
 |some (.slice e),some .string,.slice (some a) len _=>bif !(zI (some a)) then none else(match P.underlying e with
  |some (.int .u8)=>(match js H 1 len (.slice (some a) len 0) with
   |some cells=>(match nF cells with
    |some bs=>some (.string ⟨bs.toArray⟩)
    |none=>none)
   |none=>none)
  |_=>none)
 |some (.slice e),some .string,.slice none _ _=>(match P.underlying e with
  |some (.int .u8)=>some (.string .empty)
  |_=>none)
 |_,_,_=>none
def isByte (v:Value):Bool:=match v with
 |.int .u8 (.ofNat n)=>Nat.blt n 256
 |_=>false
def byteOf (v:Value):UInt8:=match v with
 |.int .u8 (.ofNat n)=>UInt8.ofNat n
 |_=>0
def alO (l:List Value):Option (List Value):=List.rec (motive:=fun _=>Option (List Value)) none (fun v t _=>Bool.rec (motive:=fun _=>Option (List Value)) none (some t) (isByte v)) l
def pu (k:Nat):List Value->Option (List Value):=
 Nat.rec (motive:=fun _=>List Value->Option (List Value)) alO (fun _ aI l=>Option.rec (motive:=fun _=>Option (List Value)) none aI (aI l)) k
def tG (k:Nat):Nat->List Value->Bool:=
 Nat.rec (motive:=fun _=>Nat->List Value->Bool) (fun n _=>Nat.beq n 0)
  (fun k aI n l=>Bool.rec (motive:=fun _=>Bool) (Option.rec (motive:=fun _=>Bool) false (fun r=>aI (Nat.sub n (Nat.pow 2 k)) r) (pu k l)) (aI n l) (Nat.blt n (Nat.pow 2 k))) k
def Mo (n:Nat)(l:List Value):List UInt8:=
 List.rec (motive:=fun _=>Nat->List UInt8) (fun _=>[]) (fun v _ aI n=>Nat.rec (motive:=fun _=>List UInt8) [] (fun m _=>byteOf v::aI m) n) l n
def Mu (len:Nat)(cells:List Value):Option Value:=bif tG 21 len cells then some (.string ⟨(Mo len cells).toArray⟩) else none
def Kt (P:Program)(H:aA)(src dst:TypeId)(x:Value):Option Value:=
 match P.underlying src,P.underlying dst,x with
 |some (.slice e),some .string,.slice (some a) len _=>(match P.underlying e,a.spot,H.mem.get a.block with
  |some (.int .u8),none,some (.row cells _ _ _ _ _)=>Mu len (nJ a.off cells)
  |_,_,_=>none)
 |_,_,_=>none
def Lv (x:Value):Bool:=match x with
 |.slice _ len _=>Nat.blt 256 len
 |_=>false
def DP (P:Program)(H:aA)(src dst:TypeId)(x:Value):Option Value:=
 bif Lv x then Kt P H src dst x else A0 P H src dst x
def isNil {α:Type}(l:List α):Bool:=List.rec (motive:=fun _=>Bool) true (fun _ _ _=>false) l
def aeq {α:Type}(l:List α):Option (List α):=List.rec (motive:=fun _=>Option (List α)) none (fun _ t _=>some t) l
def xc {α:Type}(k:Nat):List α->Option (List α):=
 Nat.rec (motive:=fun _=>List α->Option (List α)) aeq (fun _ aI l=>Option.rec (motive:=fun _=>Option (List α)) none aI (aI l)) k
def AU {α:Type}(k:Nat):Nat->List α->Option Nat:=
 Nat.rec (motive:=fun _=>Nat->List α->Option Nat) (fun n l=>Bool.rec (motive:=fun _=>Option Nat) none (some n) (isNil l))
  (fun k aI n l=>Option.rec (motive:=fun _=>Option Nat) (aI n l) (fun r=>aI (Nat.add n (Nat.pow 2 k)) r) (xc k l)) k
def BV {α:Type}(l:List α):Option Nat:=bif isNil (nJ 256 l) then some l.length else
 match AU 17 0 l with
 |some n=>some n
 |none=>match AU 21 0 l with
  |some n=>some n
  |none=>some l.length
def strCells (l:List UInt8):List Value:=List.rec (motive:=fun _=>List Value) [] (fun b _ r=>Value.int .u8 (.ofNat b.toNat)::r) l
def ae7 (n:Nat):Option (Nat×aA)->Option (Value×aA)
 |some (id,H)=>some (.slice (some ⟨id,0,none⟩) n cZ,H)
 |none=>none
def sC (P:Program)(H:aA)(src dst:TypeId)(s:ByteArray):Option (Value×aA):=
 match P.underlying src,P.underlying dst with
 |some .string,some (.slice e)=>(match P.underlying e with
  |some (.int .u8)=>bif Nat.beq (P.cellsOf e) 1 then ae7 s.data.toList.length (H.nl (strCells s.data.toList) e true) else none
  |_=>none)
 |_,_=>none
def GR (P:Program)(H:aA)(pe:TypeId)(p n:Value):Option (Value×aA):=
 match p,n with
 |.pointer (some a),.int .i64 (.ofNat 0)=>(match a.spot with|none=>some (.string .empty,H)|some _=>none)
 |.pointer none,.int .i64 (.ofNat 0)=>some (.string .empty,H)
 |.pointer (some a),.int .i64 (.ofNat (n+1))=>(match a.spot,P.underlying pe,H.mem.get a.block with
  |none,some (.pointer u),some (.row cells e opn bI eA sh)=>
   bif !(Nat.beq e u&&Nat.beq (P.cellsOf e) 1&&Nat.ble (n+1) 1000000&&!Nat.blt a.block H.bW&&Nat.beq a.off 0&&!sh) then none else
   (match takeN (n+1) cells with
   |none=>none
   |some l=>(match nF l with
    |none=>none
    |some bs=>
     match H.upd a.block (.row cells e opn bI (bif sh then sD else Nat.max eA (n+1)) sh) with
     |some H=>(match(bif opn then wb H a.block bI else some H) with
      |some H=>some (.string ⟨bs.toArray⟩,H)
      |none=>none)
     |none=>none))
  |_,_,_=>none)
 |_,_=>none
def vx (P:Program)(t:TypeId)(x y:Value):Option Bool:=
 match P.underlying t,x,y with
 |some (.pointer _),.pointer none,.pointer b=>some b.isNone
 |some (.pointer _),.pointer (some _),.pointer none=>some false
 |some (.pointer elem),.pointer (some a),.pointer (some b)=>(match ef P elem with
  |some (_+1)=>bif Nat.beq a.block b.block then some (a==b) else none
  |_=>none)
 |some (.slice _),.slice none _ _,.slice b _ _=>some b.isNone
 |some (.slice _),.slice (some _) _ _,.slice none _ _=>some false
 |some (.map _ _),.map none,.map b=>some b.isNone
 |some (.map _ _),.map (some _),.map none=>some false
 |some (.func _ _ _),.nilFunc,.func _ _ _=>some false
 |some (.func _ _ _),.func _ _ _,.nilFunc=>some false
 |some (.interface _),.nilIface,.iface _ _=>some false
 |some (.interface _),.iface _ _,.nilIface=>some false
 |_,_,_=>none
end
end Go.Cre
