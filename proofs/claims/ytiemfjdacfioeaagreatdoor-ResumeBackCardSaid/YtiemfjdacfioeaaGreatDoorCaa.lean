/- A part of the proof of ResumeBack. -/
import GoSem.Step
import Derived.Calls
import Derived.Defers
import Derived.Recover
set_option linter.unusedVariables false
set_option linter.unusedSimpArgs false
set_option linter.defProp false
namespace Go
noncomputable section
def aam:=@Array.all_eq_true_iff_forall_mem
def aan:=@Array.eq_empty_of_size_eq_zero
def s0:=@Array.ext'
def Fi:=@Array.ext_getElem?
def RR:=@Array.getElem?_append
def RS:=@Array.getElem?_append_left
def CD:=@Array.getElem?_eq_getElem
def s3:=@Array.getElem?_eq_none
def RT:=@Array.getElem?_eq_some_iff
def aao:=@Array.getElem?_modify
def Am:=@Array.getElem?_setIfInBounds
def aap:=@Array.getElem?_setIfInBounds_ne
def aaq:=@Array.mapM_eq_mapM_toList
def Jb:=@Array.mem_of_getElem?
def Fj:=@Array.mem_toList_iff
def RU:=@Array.size_push
def Jc:=@Array.size_setIfInBounds
def aar:=@Array.toArray_toList
def fU:=@Bool.and_eq_true
def wg:=@Bool.and_self
def wh:=@Bool.and_true
def RV:=@Bool.decide_eq_true
def o8:=@Bool.eq_iff_iff
def Fl:=@Bool.false_eq_true
def RW:=@Bool.false_ne_true
def qL:=@Bool.not_eq_true'
def Ml:=@Bool.not_false
def lK:=@Bool.not_true
def yj:=@Bool.or_eq_true
def Je:=@Bool.true_and
def qN:=@Classical.byContradiction
def aat:=@Classical.choose_spec
def gP:=@Classical.not_not
def aaz:=@Int.ediv_le_of_le_mul
def R3:=@Int.emod_lt_of_pos
def R4:=@Int.emod_nonneg
def R5:=@Int.le_of_lt
def yn:=@Int.le_refl
def Mo:=@Int.lt_tmod_of_pos
def R6:=@Int.mul_add
def R7:=@Int.mul_le_mul_of_nonneg_left
def Mp:=@Int.mul_le_mul_of_nonneg_right
def R8:=@Int.tdiv_eq_ediv_of_nonneg
def aaA:=@Int.tmod_eq_emod_of_nonneg
def Mq:=@Int.tmod_lt_of_pos
def cy:=@Int.toNat_natCast
def Aq:=@List.Perm.append_left
def Sc:=@List.Perm.refl
def pX:=@List.Sublist.append
def bA:=@List.Sublist.refl
def r1:=@List.all_cons
def s8:=@List.all_eq_true
def Fs:=@List.all_nil
def Jl:=@List.any_eq_true
def gH:=@List.append_assoc
def gg:=@List.append_nil
def Sd:=@List.cons_append
def Ar:=@List.drop_drop
def mO:=@List.drop_eq_getElem_cons
def wm:=@List.drop_eq_nil_of_le
def CL:=@List.drop_of_length_le
def Se:=@List.drop_succ_cons
def Ft:=@List.drop_take
def mP:=@List.drop_zero
def yq:=@List.eq_nil_of_length_eq_zero
def wo:=@List.eq_of_mem_replicate
def lp:=@List.ext_getElem?
def Sf:=@List.filterMap_cons
def Jm:=@List.flatMap_append
def Fu:=@List.flatMap_cons
def Jn:=@List.foldl_append
def Sg:=@List.forIn_cons
def Sh:=@List.getElem?_append
def lq:=@List.getElem?_append_left
def qT:=@List.getElem?_append_right
def yr:=@List.getElem?_cons_succ
def pY:=@List.getElem?_drop
def de:=@List.getElem?_eq_getElem
def fx:=@List.getElem?_eq_none
def dX:=@List.getElem?_eq_some_iff
def pb:=@List.getElem?_map
def aaD:=@List.getElem?_mapIdx
def Fv:=@List.getElem?_range
def CM:=@List.getElem?_replicate
def kH:=@List.getElem?_set
def kI:=@List.getElem?_take
def aaE:=@List.getElem?_toArray
def Si:=@List.getElem?_zip_eq_some
def Jo:=@List.getElem_mem
def dv:=@List.length_append
def iQ:=@List.length_cons
def lO:=@List.length_drop
def aaF:=@List.length_eq_one_iff
def s9:=@List.length_eq_zero_iff
def mc:=@List.length_map
def yt:=@List.length_nil
def Fw:=@List.length_pos_iff
def qU:=@List.length_replicate
def uT:=@List.length_reverse
def gu:=@List.length_set
def s':=@List.length_singleton
def h1:=@List.length_take
def Sj:=@List.mapM_cons
def Ms:=@List.map_append
def nR:=@List.map_cons
def kX:=@List.mem_append
def pc:=@List.mem_append_left
def h2:=@List.mem_append_right
def fg:=@List.mem_cons
def aaG:=@List.mem_cons_of_mem
def kj:=@List.mem_iff_getElem?
def As:=@List.mem_map
def Jp:=@List.mem_map_of_mem
def cd:=@List.mem_of_getElem?
def aaH:=@List.mem_of_mem_drop
def Sk:=@List.mem_of_mem_take
def CN:=@List.mem_or_eq_of_mem_set
def Sl:=@List.mem_range
def Sm:=@List.mem_singleton
def me:=@List.nil_append
def iR:=@List.nil_sublist
def Jq:=@List.nodup_append
def uU:=@List.nodup_cons
def Jr:=@List.not_mem_nil
def Sn:=@List.pairwise_cons
def So:=@List.pairwise_singleton
def hR:=@List.perm_append_comm
def aaI:=@List.perm_append_comm_assoc
def wq:=@List.perm_middle
def aaJ:=@List.range_eq_range'
def aaK:=@List.set_append_right
def Mt:=@List.set_eq_take_append_cons_drop
def Sp:=@List.size_toArray
def pZ:=@List.sublist_append_left
def Js:=@List.sublist_append_right
def Sq:=@List.sum_cons
def nS:=@List.take_add_one
def Mu:=@List.take_append_drop
def Sr:=@List.take_append_of_le_length
def qV:=@List.take_length
def et:=@List.take_of_length_le
def Mv:=@List.take_succ_cons
def yu:=@List.take_take
def Jt:=@List.take_zero
def nr:=@Nat.add_mul
def ta:=@Nat.add_zero
def hA:=@Nat.beq_refl
def lr:=@Nat.ble_eq_true_of_le
def eN:=@Nat.eq_of_beq_eq_true
def h3:=@Nat.le_of_ble_eq_true
def cZ:=@Nat.le_refl
def p0:=@Nat.le_trans
def Fx:=@Nat.lt_irrefl
def wu:=@Nat.lt_of_le_of_lt
def yv:=@Nat.lt_of_lt_of_le
def kY:=@Nat.lt_or_ge
def mf:=@Nat.min_eq_left
def Ss:=@Nat.mul_le_mul
def nt:=@Nat.mul_le_mul_right
def At:=@Nat.mul_one
def Mw:=@Nat.pow_succ
def tb:=@Nat.sub_self
def Au:=@Nat.sub_zero
def tc:=@Nat.succ_le_iff
def pe:=@Nat.succ_mul
def ls:=@Nat.zero_add
def cB:=@Nat.zero_le
def Jv:=@Nat.zero_mul
def aaL:=@Option.bind_eq_some_iff
def St:=@Option.bind_some
def Su:=@Option.getD_some
def aaM:=@Option.map_eq_some_iff
def Fz:=@Option.map_some
def cp:=@Option.some.injEq
def Sv:=@Option.toList_some
def dC:=@Prod.mk.injEq
def MM:=@beq_false
def dZ:=@cond_false
def cb:=@cond_true
def cC:=@congrArg
def Gi:=@decide_eq_false
def mm:=@decide_eq_false_iff_not
def yV:=@decide_eq_true
def Gj:=@decide_eq_true_eq
def lS:=@decide_eq_true_iff
def Ej:=@if_false
def ap:=@if_neg
def aE:=@if_pos
def Ek:=@if_true
def mA:=@of_decide_eq_true
end
end Go
namespace Go.Cre
noncomputable section
inductive bg (α:Type) where
 |leaf
 |node (v:Option α) (l r:bg α)
def bg.get {α:Type}(t:bg α):Nat->Option α:=
 bg.rec (motive:=fun _=>Nat->Option α) (fun _=>none)
  (fun v _ _ l r n=>Nat.rec (motive:=fun _=>Option α) v (fun m _=>Bool.rec (motive:=fun _=>Option α) (r (Nat.div m 2)) (l (Nat.div m 2)) (Nat.beq (Nat.mod m 2) 0)) n) t
def bg.left {α:Type}(v:Option α)(r:bg α)(l:Option (bg α)):Option (bg α):=Option.rec (motive:=fun _=>Option (bg α)) none (fun l=>some (.node v l r)) l
def bg.right {α:Type}(v:Option α)(l:bg α)(r:Option (bg α)):Option (bg α):=Option.rec (motive:=fun _=>Option (bg α)) none (fun r=>some (.node v l r)) r
def bg.put {α:Type}(a:α)(t:bg α):Nat->Option (bg α):=
 bg.rec (motive:=fun _=>Nat->Option (bg α))
  (fun n=>Nat.rec (motive:=fun _=>Option (bg α)) (some (.node (some a) .leaf .leaf)) (fun _ _=>none) n)
  (fun v l r pl B' n=>Nat.rec (motive:=fun _=>Option (bg α)) (some (.node (some a) l r))
   (fun m _=>Bool.rec (motive:=fun _=>Option (bg α)) (bg.right v l (B' (Nat.div m 2))) (bg.left v r (pl (Nat.div m 2))) (Nat.beq (Nat.mod m 2) 0)) n) t
def bg.set {α:Type}(_:Nat)(t:bg α)(n:Nat)(a:α):Option (bg α):=bg.put a t n
def bg.full {α:Type}(a:α)(d:Nat):bg α:=Nat.rec (motive:=fun _=>bg α) .leaf (fun _ t=>.node (some a) t t) d
def L5:Nat:=64
structure RO where
 state:LoopState
 pending:Option Code
 T:bg Value
 n:Nat
 params:List Tmp
 assign:Code
 body:Code
 iT:Nat
inductive ff where
 |row (cells:List Value) (elem:TypeId) (opn:Bool) (bM:Nat) (eB:Nat) (sh:Bool)
 |map (es:List MapEntry) (clock:Nat)
 |loop (l:RO)
 |iT (ds:Option (List Deferred))
 |dead
structure aB where
 mem:bg ff
 ak:Nat
 bM:bg (List Nat)
 ct:Nat
 bZ:Nat
structure bi where
 T:bg Value
 n:Nat
 ds:List Deferred
 b2:Bool
 bJ:FrameMode
 cJ:Option Nat
def c9:Nat:=1208925819614629174706176
def sl:Nat:=1208925819614629174706176
def aB.ZB (ak:Nat)(bM:bg (List Nat))(ct bZ:Nat):Option (bg ff)->Option aB
 |some m=>some ⟨m,ak,bM,ct,bZ⟩
 |none=>none
def aB.upd (H:aB)(id:Nat)(b:ff):Option aB:=
 match H with
 |⟨mem,ak,bM,ct,bZ⟩=>aB.ZB ak bM ct bZ (bg.put b mem id)
def aB.Xr (ak:Nat)(bM:bg (List Nat))(ct bZ:Nat)(m:bg ff):Nat->Option (Nat×aB)
 |0=>none
 |n+1=>some (ak,⟨m,n+1,bM,ct,bZ⟩)
def aB.Qp (ak:Nat)(bM:bg (List Nat))(ct bZ:Nat):Option (bg ff)->Option (Nat×aB)
 |some m=>aB.Xr ak bM ct bZ m (Nat.succ ak)
 |none=>none
def aB.new (H:aB)(b:ff):Option (Nat×aB):=
 match H with
 |⟨mem,ak,bM,ct,bZ⟩=>aB.Qp ak bM ct bZ (bg.put b mem ak)
def aB.YU (mem:bg ff)(ak ct bZ:Nat):Option (bg (List Nat))->Option aB
 |some f=>some ⟨mem,ak,f,ct,bZ⟩
 |none=>none
def aB.rS (H:aB)(f:Nat)(l:List Nat):Option aB:=
 match H with
 |⟨mem,ak,bM,ct,bZ⟩=>aB.YU mem ak ct bZ (bg.put l bM f)
def aB.Xs (mem:bg ff)(ak:Nat)(bM:bg (List Nat))(ct bZ:Nat):Nat->Option (Nat×aB)
 |0=>none
 |n+1=>some (ct,⟨mem,ak,bM,n+1,bZ⟩)
def aB.Qq (mem:bg ff)(ak ct bZ:Nat):Option (bg (List Nat))->Option (Nat×aB)
 |some f=>aB.Xs mem ak f ct bZ (Nat.succ ct)
 |none=>none
def aB.vU (H:aB):Option (Nat×aB):=
 match H with
 |⟨mem,ak,bM,ct,bZ⟩=>aB.Qq mem ak ct bZ (bg.put [ak] bM ct)
def aB.od (H:aB)(cells:List Value)(elem:TypeId)(sh:Bool):Option (Nat×aB):=
 match H.vU with
 |some (f,H)=>H.new (.row cells elem true f 0 sh)
 |none=>none
def iA:Nat->Value->Bool
 |0,_=>false
 |n+1,v=>
  match v with
  |.bool _|.int _ _|.float _ _|.string _|.nilFunc|.nilIface=>true
  |.pointer none|.slice none _ _|.map none=>true
  |.iface _ v=>iA n v
  |.agg cs=>cs.toList.all (iA n)
  |.tuple cs=>cs.toList.all (iA n)
  |.func (.func _) a b=>a.isEmpty&&b.isEmpty
  |_=>false
def plain (v:Value):Bool:=iA 8 v
def nth {α:Type}(l:List α):Nat->Option α:=
 List.rec (motive:=fun _=>Nat->Option α) (fun _=>none) (fun a _ r n=>Nat.rec (motive:=fun _=>Option α) (some a) (fun m _=>r m) n) l
def oG {α:Type}(n:Nat)(l:List α):List α:=
 List.rec (motive:=fun _=>Nat->List α) (fun _=>[]) (fun a t r n=>Nat.rec (motive:=fun _=>List α) (a::t) (fun m _=>r m) n) l n
def takeN {α:Type}:Nat->List α->Option (List α)
 |0,_=>some []
 |_+1,[]=>none
 |n+1,a::l=>match takeN n l with|some r=>some (a::r)|none=>none
def gD {α:Type}:Nat->List α->List α->Option (List α)
 |0,l,[]=>some l
 |0,[],_::_=>none
 |0,_::l,v::vs=>match gD 0 l vs with|some r=>some (v::r)|none=>none
 |_+1,[],_=>none
 |n+1,a::l,vs=>match gD n l vs with|some r=>some (a::r)|none=>none
def eQ:Value->Bool
 |.agg _=>false
 |.tuple _=>false
 |_=>true
def eP {α:Type}(P:Program):Sem α->Option α
 |.pure a=>some a
 |.program k=>eP P (k P)
 |.mark _ k=>eP P k
 |_=>none
def QH (H:aB)(g:Nat):Option Value:=
 bif Nat.blt g H.bZ then(match H.mem.get g with|some (.row _ _ _ _ _ _)=>some (.pointer (some ⟨g,0,none⟩))|_=>none) else none
def QG (v:Value):Option Value:=bif plain v then some v else none
def bk (T:bg Value)(H:aB)(x:Operand):Option Value:=
 Operand.rec (motive:=fun _=>Option Value) (fun t=>T.get t) QG (QH H) (fun f=>some (.func (.func f) #[] #[])) x
def ez (T:bg Value)(H:aB):List Operand->Option (List Value)
 |[]=>some []
 |x::l=>match bk T H x with
  |some v=>match ez T H l with|some vs=>some (v::vs)|none=>none
  |none=>none
def r6 (P:Program)(t:TypeId):Option (Option Nat):=
 match P.info? t with
 |none=>none
 |some i=>match P.underlying t with
  |some (.struct _)=>some (some i.size)
  |some (.array _ _)=>some (some i.size)
  |some _=>some none
  |none=>none
def ej (P:Program)(t:TypeId):Option Nat:=match P.info? t with|some i=>some i.size|none=>none
def fw (P:Program)(t:TypeId):Option Value:=match P.info? t with|some i=>i.zero|none=>none
def vb (P:Program)(t:TypeId):Option Nat:=match P.info? t with|some i=>some i.bytes|none=>none
def mo (P:Program)(t:TypeId)(cs:List Value)(off:Nat):Option Value:=
 match r6 P t with
 |some (some n)=>match takeN n (oG off cs) with|some l=>some (.agg l.toArray)|none=>none
 |some none=>nth cs off
 |none=>none
def Dx (P:Program)(H:aB)(t:TypeId)(a:Addr):Option Value:=
 match a.spot with
 |some _=>none
 |none=>match H.mem.get a.block with
  |some (.row cells _ _ _ _ _)=>mo P t cells a.off
  |_=>none
def AS (P:Program)(H:aB)(t:TypeId):Value->Option Value
 |.pointer (some a)=>Dx P H t a
 |_=>none
def sK (H:aB)(pA:Nat):List Nat->Option aB
 |[]=>some H
 |x::l=>bif Nat.beq x pA then sK H pA l else
  match H.upd x .dead with|some H=>sK H pA l|none=>none
def zx (H:aB)(id bM:Nat):Option aB:=
 match H.bM.get bM with
 |none=>none
 |some l=>
  match sK H id l with
  |none=>none
  |some H=>H.rS bM [id]
def sk (H:aB)(id off:Nat)(vs:List Value):Option aB:=
 match vs with
 |[]=>some H
 |_=>bif Nat.blt id H.bZ then none else
  match H.mem.get id with
  |some (.row cells elem opn bM eB sh)=>
   bif Nat.ble eB off&&vs.all eQ then
    match gD off cells vs with
    |none=>none
    |some cells=>
     match H.upd id (.row cells elem opn bM eB sh) with
     |none=>none
     |some H=>bif opn then zx H id bM else some H
   else none
  |_=>none
def AT (P:Program)(H:aB)(t:TypeId)(p v:Value):Option aB:=
 match p with
 |.pointer (some a)=>match a.spot with
  |some _=>none
  |none=>match ej P t with
   |some n=>bif Nat.beq v.cells.toList.length n then sk H a.block a.off v.cells.toList else none
   |none=>none
 |_=>none
def uu (H:aB)(elem:TypeId)(cells:List Value):Option (Nat×aB):=H.new (.row cells elem false 0 0 false)
def w4 (H:aB)(elem:TypeId)(v:Value):Option (Value×aB):=
 bif v.cells.toList.all eQ then
  match uu H elem v.cells.toList with
  |some (id,H)=>some (.pointer (some ⟨id,0,none⟩),H)
  |none=>none
 else none
def Gv (P:Program)(s:TypeId)(p:Value)(field:Nat):Option Value:=
 match p with
 |.pointer (some a)=>match a.spot with
  |some _=>none
  |none=>match P.underlying s with
   |some (.struct fields)=>match fields[field]? with
    |some f=>match ej P f.type with
     |some (_+1)=>some (.pointer (some ⟨a.block,a.off+f.offset,none⟩))
     |_=>none
    |none=>none
   |_=>none
 |_=>none
def uj (i:Int)(len:Nat):Option Nat:=
 match i with
 |.ofNat n=>bif Nat.blt n len then some n else none
 |.negSucc _=>none
def qt (i:Int)(len:Nat):Option Nat:=
 match i with
 |.ofNat n=>bif Nat.ble n len then some n else none
 |.negSucc _=>none
def AR (P:Program)(t:TypeId)(x aX:Value):Option Value:=
 match aX with
 |.int _ i=>
  match P.underlying t,x with
  |some (.array len elem),.pointer (some a)=>match a.spot with
   |some _=>none
   |none=>match uj i len,ej P elem with
    |some n,some sz=>some (.pointer (some ⟨a.block,a.off+n*sz,none⟩))
    |_,_=>none
  |some (.slice elem),.slice (some a) len _=>match a.spot with
   |some _=>none
   |none=>match uj i len,ej P elem with
    |some n,some sz=>some (.pointer (some ⟨a.block,a.off+n*sz,none⟩))
    |_,_=>none
  |_,_=>none
 |_=>none
def lx (d:Nat)(top:Nat):Option Value->Option Nat
 |none=>some d
 |some (.int _ i)=>qt i top
 |some _=>none
def oJ (P:Program)(H:aB)(t:TypeId)(x:Value)(cm ao:Option Value):Option Value:=
 match P.underlying t,x with
 |some (.array n elem),.pointer (some a)=>match a.spot with
  |some _=>none
  |none=>match ej P elem with
   |none=>none
   |some sz=>bif !Nat.blt n c9 then none else match lx n n ao with
    |none=>none
    |some h=>match lx 0 h cm with
     |none=>none
     |some l=>some (.slice (some (bif Nat.beq n l then a else⟨a.block,a.off+l*sz,none⟩)) (Nat.sub h l) (Nat.sub n l))
 |some (.slice elem),.slice (some a) len cap=>match a.spot with
  |some _=>none
  |none=>match ej P elem with
   |none=>none
   |some sz=>
    bif Nat.beq cap c9 then
     match H.mem.get a.block with
     |some (.row _ el _ _ _ _)=>bif !Nat.beq el elem then none else
      (match lx len len ao with
      |none=>none
      |some h=>match lx 0 h cm with
       |none=>none
       |some l=>some (.slice (some ⟨a.block,a.off+l*sz,none⟩) (Nat.sub h l) c9))
     |_=>none
    else
     match lx len cap ao with
     |none=>none
     |some h=>match lx 0 h cm with
      |none=>none
      |some l=>some (.slice (some (bif Nat.beq cap l then a else⟨a.block,a.off+l*sz,none⟩)) (Nat.sub h l) (Nat.sub cap l))
 |_,_=>none
def RK (v:Value)(n:Nat):List Value:=Nat.rec (motive:=fun _=>List Value) [] (fun _ aK=>v::aK) n
def apT (z:List Value)(n:Nat):List Value:=Nat.rec (motive:=fun _=>List Value) [] (fun _ aK=>z++aK) n
def gG (z:List Value)(n:Nat):List Value:=
 match z with
 |[]=>[]
 |[v]=>RK v n
 |a::b::z=>apT (a::b::z) n
def Gw (P:Program)(H:aB)(t:TypeId)(l c:Value):Option (Value×aB):=
 match l,c,P.underlying t with
 |.int _ l,.int _ c,some (.slice elem)=>
  match fw P elem,vb P elem,ej P elem with
  |some z,some gS,some sz=>
   match qt c 1000000,qt l 1000000 with
   |some c,some l=>
    bif Nat.ble l c&&Nat.ble gS 1000000&&Nat.beq z.cells.toList.length sz&&z.cells.toList.all eQ&&plain z then
     match uu H elem (gG z.cells.toList c) with
     |some (id,H)=>some (.slice (some ⟨id,0,none⟩) l c,H)
     |none=>none
    else none
   |_,_=>none
  |_,_,_=>none
 |_,_,_=>none
def jM (H:aB)(sz n:Nat):Value->Option (List Value)
 |.slice (some a) _ _=>match n with
  |0=>some []
  |_=>match a.spot with
   |some _=>none
   |none=>match H.mem.get a.block with
    |some (.row cells _ _ _ _ _)=>takeN (n*sz) (oG a.off cells)
    |_=>none
 |.slice none _ _=>match n with|0=>some []|_=>none
 |.string s=>match takeN n s.data.toList with
  |some l=>some (l.map fun b=>.int .u8 b.toNat)
  |none=>none
 |_=>none
def rF:Value->Option Nat
 |.slice _ n _=>some n
 |.string s=>some s.data.toList.length
 |_=>none
def yS (H:aB)(id:Nat):List Nat->Option (List Nat×aB)
 |[]=>none
 |x::l=>bif Nat.beq x id then some (x::l,H) else
  match H.upd x .dead with|some H=>yS H id l|none=>none
def Gg (H:aB)(l:List Nat)(same:Bool):Option (List Nat×aB):=
 bif same then some (l,H) else(match sK H H.ak l with|some H=>some ([],H)|none=>none)
def fresh (H:aB)(elem:TypeId)(cells:List Value)(len:Nat):Option (Value×aB):=
 match H.od cells elem false with
 |some (id,H)=>some (.slice (some ⟨id,0,none⟩) len c9,H)
 |none=>none
def zF:Option Addr->Bool
 |some a=>(match a.spot with|none=>true|some _=>false)
 |none=>true
def p6 (P:Program)(H:aB)(hi:TypeId)(s x:Value):Option (Value×aB):=
 match P.underlying hi,s with
 |some (.slice elem),.slice base db ic=>
  match ej P elem,vb P elem,fw P elem,rF x with
  |some sz,some gS,some z,some n=>
   bif !(Nat.ble (db+n) 1000000&&Nat.ble gS 1000000&&Nat.beq z.cells.toList.length sz) then none else
   match jM H sz n x with
   |none=>none
   |some new=>
    bif !(new.all eQ&&Nat.beq new.length (n*sz)) then none else
    bif Nat.beq ic c9 then
     match base with
     |some a=>match a.spot with
      |some _=>none
      |none=>match H.mem.get a.block with
       |some (.row cells el true bM eB sh)=>
        bif !(Nat.beq el elem&&!Nat.blt a.block H.bZ&&Nat.ble eB (a.off+db*sz)) then none else
        bif Nat.beq n 0 then some (s,H) else
        bif !(Nat.beq a.off 0) then none else
        match takeN (db*sz) cells with
        |none=>none
        |some ew=>
         match H.bM.get bM with
         |none=>none
         |some l=>
          match yS H a.block l with
          |none=>none
          |some (l,H)=>
           match Gg H l (Nat.beq cells.length (db*sz)) with
           |none=>none
           |some (l,H)=>
            match H.rS bM (H.ak::l) with
            |none=>none
            |some H=>match H.new (.row (ew++new) elem true bM eB sh) with
             |some (id,H)=>some (.slice (some ⟨id,0,none⟩) (db+n) c9,H)
             |none=>none
       |_=>none
     |none=>none
    else
     bif Nat.ble (db+n) ic then
      match base with
      |none=>bif Nat.beq n 0 then some (s,H) else none
      |some a=>match a.spot with
       |some _=>none
       |none=>match sk H a.block (a.off+db*sz) new with
        |some H=>some (.slice base (db+n) ic,H)
        |none=>none
     else
      bif zF base then
       match jM H sz db s with
       |none=>none
       |some ew=>bif Nat.beq ew.length (db*sz) then fresh H elem (ew++new) (db+n) else none
      else none
  |_,_,_,_=>none
 |_,_=>none
def Gt (P:Program)(H:aB)(rV:TypeId)(d s:Value):Option (Value×aB):=
 match P.underlying rV,d,rF s with
 |some (.slice elem),.slice base vj _,some db=>
  match ej P elem with
  |none=>none
  |some sz=>
   let n:=bif Nat.ble db vj then db else vj
   match jM H sz n s with
   |none=>none
   |some cells=>match base with
    |none=>some (.int .i64 n,H)
    |some a=>match a.spot with
     |some _=>none
     |none=>bif !(cells.all eQ) then none else match sk H a.block a.off cells with
      |some H=>some (.int .i64 n,H)
      |none=>none
 |_,_,_=>none
def places (P:Program):List Field->Option (List (Nat×Nat))
 |[]=>some []
 |f::l=>match ej P f.type,places P l with
  |some n,some r=>some ((f.offset,n)::r)
  |_,_=>none
def nC (place:Nat->Option (Nat×Nat)):List Value->List (Nat×Value)->Option (List Value)
 |cells,[]=>some cells
 |cells,(i,v)::rest=>match place i with
  |none=>none
  |some (off,size)=>bif Nat.beq v.cells.toList.length size then
   (match gD off cells v.cells.toList with
    |some cells=>nC place cells rest
    |none=>none)
   else none
def Gr (P:Program)(t:TypeId)(parts:List (Nat×Value)):Option Value:=
 match fw P t,P.underlying t with
 |some z,some (.struct fields)=>bif plain z then
  match places P fields.toList with
  |some eG=>match nC (nth eG) z.cells.toList parts with
   |some cells=>some (.agg cells.toArray)
   |none=>none
  |none=>none
  else none
 |some z,some (.array _ elem)=>bif plain z then
  match ej P elem with
  |some sz=>match nC (fun i=>some (i*sz,sz)) z.cells.toList parts with
   |some cells=>some (.agg cells.toArray)
   |none=>none
  |none=>none
  else none
 |_,_=>none
def Gs (P:Program)(H:aB)(t:TypeId)(len:Nat)(parts:List (Nat×Value)):Option (Value×aB):=
 match P.underlying t with
 |some (.slice elem)=>match ej P elem,fw P elem with
  |some sz,some z=>
   bif Nat.ble len 100000&&Nat.ble (len*sz) 100000&&plain z&&Nat.beq z.cells.toList.length sz then
    match nC (fun i=>some (i*sz,sz)) (gG z.cells.toList len) parts with
    |some cells=>bif cells.all eQ then
     (match uu H elem cells with
      |some (id,H)=>some (.slice (some ⟨id,0,none⟩) len len,H)
      |none=>none)
     else none
    |none=>none
   else none
  |_,_=>none
 |_=>none
def lj (T:bg Value)(H:aB):List (Nat×Operand)->Option (List (Nat×Value))
 |[]=>some []
 |(i,x)::l=>match bk T H x with
  |some v=>match lj T H l with|some r=>some ((i,v)::r)|none=>none
  |none=>none
def Gy (P:Program)(x:Value)(asserted:TypeId)(ok:Bool):Option Value:=
 let J8:Option Value:=bif ok then(match fw P asserted with|some z=>bif plain z then some (.tuple #[z,.bool false]) else none|none=>none) else none
 match P.underlying asserted,x with
 |some (.interface _),.nilIface=>J8
 |some (.interface want),.iface t _=>match P.info? t with
  |some i=>match Instr.missingMethod want i.methods with
   |none=>some (bif ok then .tuple #[x,.bool true] else x)
   |some _=>J8
  |none=>none
 |some _,.nilIface=>J8
 |some _,.iface t v=>bif Nat.beq t asserted then some (bif ok then .tuple #[v,.bool true] else v) else J8
 |_,_=>none
def AP (P:Program)(H:aB)(src dst:TypeId)(x:Value):Option Value:=
 match P.underlying src,P.underlying dst,x with
 |some (.pointer t),some .unsafePointer,.pointer (some a)=>(match a.spot,ej P t,H.mem.get a.block with
  |none,some (_+1),some (.row cells _ _ _ _ _)=>bif Nat.blt a.off cells.length then some x else none
  |_,_,_=>none)
 |some .unsafePointer,some (.pointer u),.pointer (some a)=>(match a.spot,ej P u,H.mem.get a.block with
  |none,some (_+1),some (.row cells e false _ _ _)=>bif liesAt P P.depth e (cells.length / P.cellsOf e) a.off u 1 then some x else none
  |_,_,_=>none)
 |_,_,_=>none
def oz:List Value->Option (List UInt8)
 |[]=>some []
 |.int .u8 (.ofNat n)::l=>bif Nat.blt n 256 then(match oz l with|some r=>some (UInt8.ofNat n::r)|none=>none) else none
 |_::_=>none
def Dz (P:Program)(H:aB)(src dst:TypeId)(x:Value):Option Value:=
 match P.underlying src,P.underlying dst,x with
 |some (.slice e),some .string,.slice (some a) len _=>bif !(zF (some a)) then none else(match P.underlying e with
  |some (.int .u8)=>(match jM H 1 len (.slice (some a) len 0) with
   |some cells=>(match oz cells with
    |some bs=>some (.string ⟨bs.toArray⟩)
    |none=>none)
   |none=>none)
  |_=>none)
 |some (.slice e),some .string,.slice none _ _=>(match P.underlying e with
  |some (.int .u8)=>some (.string .empty)
  |_=>none)
 |_,_,_=>none
def isByte (v:Value):Bool:=match v with
 |.int .u8 (.ofNat n)=>Nat.blt n 256
 |_=>false
def byteOf (v:Value):UInt8:=match v with
 |.int .u8 (.ofNat n)=>UInt8.ofNat n
 |_=>0
def ala (l:List Value):Option (List Value):=List.rec (motive:=fun _=>Option (List Value)) none (fun v t _=>Bool.rec (motive:=fun _=>Option (List Value)) none (some t) (isByte v)) l
def wW (k:Nat):List Value->Option (List Value):=
 Nat.rec (motive:=fun _=>List Value->Option (List Value)) ala (fun _ aK l=>Option.rec (motive:=fun _=>Option (List Value)) none aK (aK l)) k
def AL (k:Nat):Nat->List Value->Bool:=
 Nat.rec (motive:=fun _=>Nat->List Value->Bool) (fun n _=>Nat.beq n 0)
  (fun k aK n l=>Bool.rec (motive:=fun _=>Bool) (Option.rec (motive:=fun _=>Bool) false (fun r=>aK (Nat.sub n (Nat.pow 2 k)) r) (wW k l)) (aK n l) (Nat.blt n (Nat.pow 2 k))) k
def Zn (n:Nat)(l:List Value):List UInt8:=
 List.rec (motive:=fun _=>Nat->List UInt8) (fun _=>[]) (fun v _ aK n=>Nat.rec (motive:=fun _=>List UInt8) [] (fun m _=>byteOf v::aK m) n) l n
def Zr (len:Nat)(cells:List Value):Option Value:=bif AL 21 len cells then some (.string ⟨(Zn len cells).toArray⟩) else none
def ND (P:Program)(H:aB)(src dst:TypeId)(x:Value):Option Value:=
 match P.underlying src,P.underlying dst,x with
 |some (.slice e),some .string,.slice (some a) len _=>(match P.underlying e,a.spot,H.mem.get a.block with
  |some (.int .u8),none,some (.row cells _ _ _ _ _)=>Zr len (oG a.off cells)
  |_,_,_=>none)
 |_,_,_=>none
def Qf (x:Value):Bool:=match x with
 |.slice _ len _=>Nat.blt 256 len
 |_=>false
def NC (P:Program)(H:aB)(src dst:TypeId)(x:Value):Option Value:=
 bif Qf x then ND P H src dst x else Dz P H src dst x
def isNil {α:Type}(l:List α):Bool:=List.rec (motive:=fun _=>Bool) true (fun _ _ _=>false) l
def adT {α:Type}(l:List α):Option (List α):=List.rec (motive:=fun _=>Option (List α)) none (fun _ t _=>some t) l
def wV {α:Type}(k:Nat):List α->Option (List α):=
 Nat.rec (motive:=fun _=>List α->Option (List α)) adT (fun _ aK l=>Option.rec (motive:=fun _=>Option (List α)) none aK (aK l)) k
def AM {α:Type}(k:Nat):Nat->List α->Option Nat:=
 Nat.rec (motive:=fun _=>Nat->List α->Option Nat) (fun n l=>Bool.rec (motive:=fun _=>Option Nat) none (some n) (isNil l))
  (fun k aK n l=>Option.rec (motive:=fun _=>Option Nat) (aK n l) (fun r=>aK (Nat.add n (Nat.pow 2 k)) r) (wV k l)) k
def BL {α:Type}(l:List α):Option Nat:=bif isNil (oG 256 l) then some l.length else
 match AM 17 0 l with
 |some n=>some n
 |none=>match AM 21 0 l with
  |some n=>some n
  |none=>some l.length
def strCells (l:List UInt8):List Value:=List.rec (motive:=fun _=>List Value) [] (fun b _ r=>Value.int .u8 (.ofNat b.toNat)::r) l
def aeA (n:Nat):Option (Nat×aB)->Option (Value×aB)
 |some (id,H)=>some (.slice (some ⟨id,0,none⟩) n c9,H)
 |none=>none
def w7 (P:Program)(H:aB)(src dst:TypeId)(s:ByteArray):Option (Value×aB):=
 match P.underlying src,P.underlying dst with
 |some .string,some (.slice e)=>(match P.underlying e with
  |some (.int .u8)=>bif Nat.beq (P.cellsOf e) 1 then aeA s.data.toList.length (H.od (strCells s.data.toList) e true) else none
  |_=>none)
 |_,_=>none
def Gz (P:Program)(H:aB)(o5:TypeId)(p n:Value):Option (Value×aB):=
 match p,n with
 |.pointer (some a),.int .i64 (.ofNat 0)=>(match a.spot with|none=>some (.string .empty,H)|some _=>none)
 |.pointer none,.int .i64 (.ofNat 0)=>some (.string .empty,H)
 |.pointer (some a),.int .i64 (.ofNat (n+1))=>(match a.spot,P.underlying o5,H.mem.get a.block with
  |none,some (.pointer u),some (.row cells e opn bM eB sh)=>
   bif !(Nat.beq e u&&Nat.beq (P.cellsOf e) 1&&Nat.ble (n+1) 1000000&&!Nat.blt a.block H.bZ&&Nat.beq a.off 0&&!sh) then none else
   (match takeN (n+1) cells with
   |none=>none
   |some l=>(match oz l with
    |none=>none
    |some bs=>
     match H.upd a.block (.row cells e opn bM (bif sh then sl else Nat.max eB (n+1)) sh) with
     |some H=>(match(bif opn then zx H a.block bM else some H) with
      |some H=>some (.string ⟨bs.toArray⟩,H)
      |none=>none)
     |none=>none))
  |_,_,_=>none)
 |_,_=>none
def tA (P:Program)(t:TypeId)(x y:Value):Option Bool:=
 match P.underlying t,x,y with
 |some (.pointer _),.pointer none,.pointer b=>some b.isNone
 |some (.pointer _),.pointer (some _),.pointer none=>some false
 |some (.pointer elem),.pointer (some a),.pointer (some b)=>(match ej P elem with
  |some (_+1)=>bif Nat.beq a.block b.block then some (a==b) else none
  |_=>none)
 |some (.slice _),.slice none _ _,.slice b _ _=>some b.isNone
 |some (.slice _),.slice (some _) _ _,.slice none _ _=>some false
 |some (.map _ _),.map none,.map b=>some b.isNone
 |some (.map _ _),.map (some _),.map none=>some false
 |some (.func _ _ _),.nilFunc,.func _ _ _=>some false
 |some (.func _ _ _),.func _ _ _,.nilFunc=>some false
 |some (.interface _),.nilIface,.iface _ _=>some false
 |some (.interface _),.iface _ _,.nilIface=>some false
 |_,_,_=>none
end
end Go.Cre
