/- A part of the proof of SampleParts. -/
import GoSem.Step
import Derived.Calls
import Derived.Defers
import Derived.Recover
set_option linter.unusedVariables false
set_option linter.unusedSimpArgs false
set_option linter.defProp false
namespace Go
noncomputable section
def Xl:=@Array.all_eq_true_iff_forall_mem
def Xm:=@Array.eq_empty_of_size_eq_zero
def qI:=@Array.ext'
def CF:=@Array.ext_getElem?
def Po:=@Array.getElem?_append
def Xn:=@Array.getElem?_append_left
def Aj:=@Array.getElem?_eq_getElem
def rT:=@Array.getElem?_eq_none
def Pp:=@Array.getElem?_eq_some_iff
def Xo:=@Array.getElem?_modify
def yk:=@Array.getElem?_setIfInBounds
def Pq:=@Array.getElem?_setIfInBounds_ne
def Xp:=@Array.mapM_eq_mapM_toList
def Gi:=@Array.mem_of_getElem?
def CG:=@Array.mem_toList_iff
def Pr:=@Array.size_push
def Gj:=@Array.size_setIfInBounds
def Xq:=@Array.toArray_toList
def fR:=@Bool.and_eq_true
def wm:=@Bool.and_self
def Gk:=@Bool.and_true
def oc:=@Bool.eq_iff_iff
def yl:=@Bool.false_eq_true
def Ps:=@Bool.false_ne_true
def pJ:=@Bool.not_eq_true'
def Pt:=@Bool.not_false
def lK:=@Bool.not_true
def wo:=@Bool.or_eq_true
def JT:=@Bool.true_and
def CI:=@Classical.byContradiction
def Pu:=@Classical.choose_spec
def uH:=@Classical.not_not
def Xy:=@Int.ediv_le_of_le_mul
def Xz:=@Int.fdiv_eq_ediv_of_nonneg
def Gp:=@Int.le_of_lt
def Ap:=@Int.le_refl
def Pz:=@Int.lt_or_le
def Gq:=@Int.mul_add
def XA:=@Int.mul_le_mul_of_nonneg_left
def JX:=@Int.mul_le_mul_of_nonneg_right
def XB:=@Int.mul_tdiv_add_tmod
def XC:=@Int.tdiv_eq_ediv_of_nonneg
def XD:=@Int.tmod_eq_emod_of_nonneg
def JY:=@Int.tmod_lt_of_pos
def PA:=@Int.tmod_nonneg
def ea:=@Int.toNat_natCast
def J2:=@List.Perm.append_left
def PE:=@List.Perm.refl
def bV:=@List.Sublist.refl
def CO:=@List.all_cons
def qK:=@List.all_eq_true
def PF:=@List.any_eq_false
def J3:=@List.any_eq_true
def j0:=@List.append_assoc
def fb:=@List.append_nil
def CP:=@List.count_append
def CQ:=@List.count_cons
def CR:=@List.count_nil
def XH:=@List.drop_append_of_le_length
def Aq:=@List.drop_drop
def od:=@List.drop_eq_getElem_cons
def wv:=@List.drop_eq_nil_of_le
def Ar:=@List.drop_of_length_le
def CS:=@List.drop_take
def m7:=@List.drop_zero
def wx:=@List.eq_nil_of_length_eq_zero
def J4:=@List.eq_of_mem_replicate
def mb:=@List.ext_getElem?
def J5:=@List.filter_cons
def J6:=@List.filter_nil
def PG:=@List.flatMap_cons
def PH:=@List.foldl_append
def J7:=@List.foldl_cons
def PI:=@List.forIn_cons
def oe:=@List.getD_eq_getElem?_getD
def PJ:=@List.getElem?_append
def og:=@List.getElem?_append_left
def rY:=@List.getElem?_append_right
def wy:=@List.getElem?_cons_succ
def o2:=@List.getElem?_drop
def du:=@List.getElem?_eq_getElem
def hg:=@List.getElem?_eq_none
def dv:=@List.getElem?_eq_some_iff
def gG:=@List.getElem?_map
def XI:=@List.getElem?_mapIdx
def uL:=@List.getElem?_of_mem
def wz:=@List.getElem?_range
def Gt:=@List.getElem?_replicate
def j1:=@List.getElem?_set
def kr:=@List.getElem?_take
def XJ:=@List.getElem?_toArray
def J8:=@List.getElem?_zipWith
def As:=@List.getElem_mem
def er:=@List.length_append
def j2:=@List.length_cons
def jJ:=@List.length_drop
def XK:=@List.length_eq_one_iff
def qL:=@List.length_eq_zero_iff
def J9:=@List.length_filter_le
def ig:=@List.length_map
def CT:=@List.length_nil
def yr:=@List.length_range
def kJ:=@List.length_replicate
def CU:=@List.length_reverse
def hW:=@List.length_set
def Gu:=@List.length_singleton
def fc:=@List.length_take
def PK:=@List.length_zipWith
def PL:=@List.mapM_cons
def CV:=@List.map_append
def PM:=@List.map_congr_left
def k2:=@List.map_cons
def PN:=@List.map_set
def PO:=@List.map_take
def lL:=@List.mem_append
def rZ:=@List.mem_append_left
def lm:=@List.mem_append_right
def ft:=@List.mem_cons
def XL:=@List.mem_cons_of_mem
def At:=@List.mem_filter
def lM:=@List.mem_iff_getElem?
def m8:=@List.mem_map
def CW:=@List.mem_map_of_mem
def cV:=@List.mem_of_getElem?
def XM:=@List.mem_of_mem_drop
def uM:=@List.mem_of_mem_take
def J':=@List.mem_or_eq_of_mem_set
def wA:=@List.mem_range
def mB:=@List.nil_append
def mc:=@List.nil_sublist
def CX:=@List.nodup_append
def r0:=@List.nodup_cons
def PQ:=@List.not_mem_nil
def PR:=@List.pairwise_cons
def XN:=@List.pairwise_iff_getElem
def PS:=@List.pairwise_singleton
def jn:=@List.perm_append_comm
def Ka:=@List.perm_append_singleton
def CY:=@List.perm_iff_count
def Au:=@List.perm_middle
def XO:=@List.range_eq_range'
def PT:=@List.range_succ
def PU:=@List.replicate_zero
def Gv:=@List.set_append_right
def Kb:=@List.set_eq_take_append_cons_drop
def PV:=@List.size_toArray
def oh:=@List.sublist_append_left
def CZ:=@List.sublist_append_right
def C0:=@List.sublist_cons_self
def Av:=@List.sum_cons
def pM:=@List.take_add_one
def PW:=@List.take_append_drop
def PX:=@List.take_append_of_le_length
def Aw:=@List.take_length
def fZ:=@List.take_of_length_le
def Kc:=@List.take_succ_cons
def uN:=@List.take_take
def Gw:=@List.take_zero
def mC:=@Nat.add_mul
def XP:=@Nat.add_sub_cancel_left
def s9:=@Nat.add_zero
def hX:=@Nat.beq_refl
def kK:=@Nat.ble_eq_true_of_le
def eK:=@Nat.eq_of_beq_eq_true
def hC:=@Nat.le_of_ble_eq_true
def dH:=@Nat.le_refl
def m9:=@Nat.le_trans
def C1:=@Nat.lt_irrefl
def r1:=@Nat.lt_of_le_of_lt
def uO:=@Nat.lt_of_lt_of_le
def jo:=@Nat.lt_or_ge
def k4:=@Nat.min_eq_left
def PY:=@Nat.mul_le_mul
def mD:=@Nat.mul_le_mul_right
def s':=@Nat.mul_one
def Kd:=@Nat.not_lt_zero
def PZ:=@Nat.pow_succ
def ta:=@Nat.sub_self
def yt:=@Nat.sub_zero
def tb:=@Nat.succ_le_iff
def pN:=@Nat.succ_mul
def lN:=@Nat.zero_add
def dV:=@Nat.zero_le
def Gy:=@Nat.zero_mul
def XU:=@Option.bind_eq_some_iff
def P1:=@Option.getD_some
def P2:=@Option.map_eq_some_iff
def C3:=@Option.map_some
def b6:=@Option.some.injEq
def da:=@Prod.mk.injEq
def Kx:=@beq_false
def dN:=@cond_false
def cc:=@cond_true
def fl:=@congrArg
def tx:=@decide_eq_false
def nG:=@decide_eq_false_iff_not
def o8:=@decide_eq_true
def He:=@decide_eq_true_eq
def mN:=@decide_eq_true_iff
def xA:=@if_false
def aq:=@if_neg
def aF:=@if_pos
def B7:=@of_decide_eq_true
end
end Go
namespace Go.Cre
noncomputable section
inductive aX (α:Type) where
 |leaf
 |node (v:Option α) (l r:aX α)
def aX.get {α:Type}(t:aX α):Nat->Option α:=
 aX.rec (motive:=fun _=>Nat->Option α) (fun _=>none)
  (fun v _ _ l r n=>Nat.rec (motive:=fun _=>Option α) v (fun m _=>Bool.rec (motive:=fun _=>Option α) (r (Nat.div m 2)) (l (Nat.div m 2)) (Nat.beq (Nat.mod m 2) 0)) n) t
def aX.left {α:Type}(v:Option α)(r:aX α)(l:Option (aX α)):Option (aX α):=Option.rec (motive:=fun _=>Option (aX α)) none (fun l=>some (.node v l r)) l
def aX.right {α:Type}(v:Option α)(l:aX α)(r:Option (aX α)):Option (aX α):=Option.rec (motive:=fun _=>Option (aX α)) none (fun r=>some (.node v l r)) r
def aX.put {α:Type}(a:α)(t:aX α):Nat->Option (aX α):=
 aX.rec (motive:=fun _=>Nat->Option (aX α))
  (fun n=>Nat.rec (motive:=fun _=>Option (aX α)) (some (.node (some a) .leaf .leaf)) (fun _ _=>none) n)
  (fun v l r pl sR n=>Nat.rec (motive:=fun _=>Option (aX α)) (some (.node (some a) l r))
   (fun m _=>Bool.rec (motive:=fun _=>Option (aX α)) (aX.right v l (sR (Nat.div m 2))) (aX.left v r (pl (Nat.div m 2))) (Nat.beq (Nat.mod m 2) 0)) n) t
def aX.set {α:Type}(_:Nat)(t:aX α)(n:Nat)(a:α):Option (aX α):=aX.put a t n
def aX.full {α:Type}(a:α)(d:Nat):aX α:=Nat.rec (motive:=fun _=>aX α) .leaf (fun _ t=>.node (some a) t t) d
def Cu:Nat:=64
structure pI where
 state:LoopState
 pending:Option Code
 T:aX Value
 n:Nat
 params:List Tmp
 assign:Code
 body:Code
 gh:Nat
inductive fa where
 |row (cells:List Value) (elem:TypeId) (opn:Bool) (br:Nat) (eD:Nat) (sh:Bool)
 |map (es:List MapEntry) (clock:Nat)
 |loop (l:pI)
 |gh (ds:Option (List Deferred))
 |dead
structure ao where
 mem:aX fa
 af:Nat
 br:aX (List Nat)
 cd:Nat
 bq:Nat
structure aQ where
 T:aX Value
 n:Nat
 ds:List Deferred
 b0:Bool
 b8:FrameMode
 cB:Option Nat
def cR:Nat:=1208925819614629174706176
def se:Nat:=1208925819614629174706176
def ao.WG (af:Nat)(br:aX (List Nat))(cd bq:Nat):Option (aX fa)->Option ao
 |some m=>some ⟨m,af,br,cd,bq⟩
 |none=>none
def ao.upd (H:ao)(id:Nat)(b:fa):Option ao:=
 match H with
 |⟨mem,af,br,cd,bq⟩=>ao.WG af br cd bq (aX.put b mem id)
def ao.UC (af:Nat)(br:aX (List Nat))(cd bq:Nat)(m:aX fa):Nat->Option (Nat×ao)
 |0=>none
 |n+1=>some (af,⟨m,n+1,br,cd,bq⟩)
def ao.NE (af:Nat)(br:aX (List Nat))(cd bq:Nat):Option (aX fa)->Option (Nat×ao)
 |some m=>ao.UC af br cd bq m (Nat.succ af)
 |none=>none
def ao.new (H:ao)(b:fa):Option (Nat×ao):=
 match H with
 |⟨mem,af,br,cd,bq⟩=>ao.NE af br cd bq (aX.put b mem af)
def ao.V3 (mem:aX fa)(af cd bq:Nat):Option (aX (List Nat))->Option ao
 |some f=>some ⟨mem,af,f,cd,bq⟩
 |none=>none
def ao.qx (H:ao)(f:Nat)(l:List Nat):Option ao:=
 match H with
 |⟨mem,af,br,cd,bq⟩=>ao.V3 mem af cd bq (aX.put l br f)
def ao.UD (mem:aX fa)(af:Nat)(br:aX (List Nat))(cd bq:Nat):Nat->Option (Nat×ao)
 |0=>none
 |n+1=>some (cd,⟨mem,af,br,n+1,bq⟩)
def ao.NF (mem:aX fa)(af cd bq:Nat):Option (aX (List Nat))->Option (Nat×ao)
 |some f=>ao.UD mem af f cd bq (Nat.succ cd)
 |none=>none
def ao.uk (H:ao):Option (Nat×ao):=
 match H with
 |⟨mem,af,br,cd,bq⟩=>ao.NF mem af cd bq (aX.put [af] br cd)
def ao.nq (H:ao)(cells:List Value)(elem:TypeId)(sh:Bool):Option (Nat×ao):=
 match H.uk with
 |some (f,H)=>H.new (.row cells elem true f 0 sh)
 |none=>none
def h9:Nat->Value->Bool
 |0,_=>false
 |n+1,v=>
  match v with
  |.bool _|.int _ _|.float _ _|.string _|.nilFunc|.nilIface=>true
  |.pointer none|.slice none _ _|.map none=>true
  |.iface _ v=>h9 n v
  |.agg cs=>cs.toList.all (h9 n)
  |.tuple cs=>cs.toList.all (h9 n)
  |.func (.func _) a b=>a.isEmpty&&b.isEmpty
  |_=>false
def plain (v:Value):Bool:=h9 8 v
def nth {α:Type}(l:List α):Nat->Option α:=
 List.rec (motive:=fun _=>Nat->Option α) (fun _=>none) (fun a _ r n=>Nat.rec (motive:=fun _=>Option α) (some a) (fun m _=>r m) n) l
def nI {α:Type}(n:Nat)(l:List α):List α:=
 List.rec (motive:=fun _=>Nat->List α) (fun _=>[]) (fun a t r n=>Nat.rec (motive:=fun _=>List α) (a::t) (fun m _=>r m) n) l n
def takeN {α:Type}:Nat->List α->Option (List α)
 |0,_=>some []
 |_+1,[]=>none
 |n+1,a::l=>match takeN n l with|some r=>some (a::r)|none=>none
def gE {α:Type}:Nat->List α->List α->Option (List α)
 |0,l,[]=>some l
 |0,[],_::_=>none
 |0,_::l,v::vs=>match gE 0 l vs with|some r=>some (v::r)|none=>none
 |_+1,[],_=>none
 |n+1,a::l,vs=>match gE n l vs with|some r=>some (a::r)|none=>none
def eT:Value->Bool
 |.agg _=>false
 |.tuple _=>false
 |_=>true
def fI {α:Type}(P:Program):Sem α->Option α
 |.pure a=>some a
 |.program k=>fI P (k P)
 |.mark _ k=>fI P k
 |_=>none
def NT (H:ao)(g:Nat):Option Value:=
 bif Nat.blt g H.bq then(match H.mem.get g with|some (.row _ _ _ _ _ _)=>some (.pointer (some ⟨g,0,none⟩))|_=>none) else none
def NS (v:Value):Option Value:=bif plain v then some v else none
def a6 (T:aX Value)(H:ao)(x:Operand):Option Value:=
 Operand.rec (motive:=fun _=>Option Value) (fun t=>T.get t) NS (NT H) (fun f=>some (.func (.func f) #[] #[])) x
def fQ (T:aX Value)(H:ao):List Operand->Option (List Value)
 |[]=>some []
 |x::l=>match a6 T H x with
  |some v=>match fQ T H l with|some vs=>some (v::vs)|none=>none
  |none=>none
def qR (P:Program)(t:TypeId):Option (Option Nat):=
 match P.info? t with
 |none=>none
 |some i=>match P.underlying t with
  |some (.struct _)=>some (some i.size)
  |some (.array _ _)=>some (some i.size)
  |some _=>some none
  |none=>none
def eB (P:Program)(t:TypeId):Option Nat:=match P.info? t with|some i=>some i.size|none=>none
def fO (P:Program)(t:TypeId):Option Value:=match P.info? t with|some i=>i.zero|none=>none
def tp (P:Program)(t:TypeId):Option Nat:=match P.info? t with|some i=>some i.bytes|none=>none
def lS (P:Program)(t:TypeId)(cs:List Value)(off:Nat):Option Value:=
 match qR P t with
 |some (some n)=>match takeN n (nI off cs) with|some l=>some (.agg l.toArray)|none=>none
 |some none=>nth cs off
 |none=>none
def AW (P:Program)(H:ao)(t:TypeId)(a:Addr):Option Value:=
 match a.spot with
 |some _=>none
 |none=>match H.mem.get a.block with
  |some (.row cells _ _ _ _ _)=>lS P t cells a.off
  |_=>none
def yW (P:Program)(H:ao)(t:TypeId):Value->Option Value
 |.pointer (some a)=>AW P H t a
 |_=>none
def rz (H:ao)(oH:Nat):List Nat->Option ao
 |[]=>some H
 |x::l=>bif Nat.beq x oH then rz H oH l else
  match H.upd x .dead with|some H=>rz H oH l|none=>none
def xE (H:ao)(id br:Nat):Option ao:=
 match H.br.get br with
 |none=>none
 |some l=>
  match rz H id l with
  |none=>none
  |some H=>H.qx br [id]
def pW (H:ao)(id off:Nat)(vs:List Value):Option ao:=
 match vs with
 |[]=>some H
 |_=>bif Nat.blt id H.bq then none else
  match H.mem.get id with
  |some (.row cells elem opn br eD sh)=>
   bif Nat.ble eD off&&vs.all eT then
    match gE off cells vs with
    |none=>none
    |some cells=>
     match H.upd id (.row cells elem opn br eD sh) with
     |none=>none
     |some H=>bif opn then xE H id br else some H
   else none
  |_=>none
def yX (P:Program)(H:ao)(t:TypeId)(p v:Value):Option ao:=
 match p with
 |.pointer (some a)=>match a.spot with
  |some _=>none
  |none=>match eB P t with
   |some n=>bif Nat.beq v.cells.toList.length n then pW H a.block a.off v.cells.toList else none
   |none=>none
 |_=>none
def sO (H:ao)(elem:TypeId)(cells:List Value):Option (Nat×ao):=H.new (.row cells elem false 0 0 false)
def vg (H:ao)(elem:TypeId)(v:Value):Option (Value×ao):=
 bif v.cells.toList.all eT then
  match sO H elem v.cells.toList with
  |some (id,H)=>some (.pointer (some ⟨id,0,none⟩),H)
  |none=>none
 else none
def DO (P:Program)(s:TypeId)(p:Value)(field:Nat):Option Value:=
 match p with
 |.pointer (some a)=>match a.spot with
  |some _=>none
  |none=>match P.underlying s with
   |some (.struct fields)=>match fields[field]? with
    |some f=>match eB P f.type with
     |some (_+1)=>some (.pointer (some ⟨a.block,a.off+f.offset,none⟩))
     |_=>none
    |none=>none
   |_=>none
 |_=>none
def sF (i:Int)(len:Nat):Option Nat:=
 match i with
 |.ofNat n=>bif Nat.blt n len then some n else none
 |.negSucc _=>none
def pt (i:Int)(len:Nat):Option Nat:=
 match i with
 |.ofNat n=>bif Nat.ble n len then some n else none
 |.negSucc _=>none
def yV (P:Program)(t:TypeId)(x bf:Value):Option Value:=
 match bf with
 |.int _ i=>
  match P.underlying t,x with
  |some (.array len elem),.pointer (some a)=>match a.spot with
   |some _=>none
   |none=>match sF i len,eB P elem with
    |some n,some aj=>some (.pointer (some ⟨a.block,a.off+n*aj,none⟩))
    |_,_=>none
  |some (.slice elem),.slice (some a) len _=>match a.spot with
   |some _=>none
   |none=>match sF i len,eB P elem with
    |some n,some aj=>some (.pointer (some ⟨a.block,a.off+n*aj,none⟩))
    |_,_=>none
  |_,_=>none
 |_=>none
def kt (d:Nat)(top:Nat):Option Value->Option Nat
 |none=>some d
 |some (.int _ i)=>pt i top
 |some _=>none
def mP (P:Program)(H:ao)(t:TypeId)(x:Value)(cL ak:Option Value):Option Value:=
 match P.underlying t,x with
 |some (.array n elem),.pointer (some a)=>match a.spot with
  |some _=>none
  |none=>match eB P elem with
   |none=>none
   |some aj=>bif !Nat.blt n cR then none else match kt n n ak with
    |none=>none
    |some h=>match kt 0 h cL with
     |none=>none
     |some l=>some (.slice (some (bif Nat.beq n l then a else⟨a.block,a.off+l*aj,none⟩)) (Nat.sub h l) (Nat.sub n l))
 |some (.slice elem),.slice (some a) len cap=>match a.spot with
  |some _=>none
  |none=>match eB P elem with
   |none=>none
   |some aj=>
    bif Nat.beq cap cR then
     match H.mem.get a.block with
     |some (.row _ el _ _ _ _)=>bif !Nat.beq el elem then none else
      (match kt len len ak with
      |none=>none
      |some h=>match kt 0 h cL with
       |none=>none
       |some l=>some (.slice (some ⟨a.block,a.off+l*aj,none⟩) (Nat.sub h l) cR))
     |_=>none
    else
     match kt len cap ak with
     |none=>none
     |some h=>match kt 0 h cL with
      |none=>none
      |some l=>some (.slice (some (bif Nat.beq cap l then a else⟨a.block,a.off+l*aj,none⟩)) (Nat.sub h l) (Nat.sub cap l))
 |_,_=>none
def Pk (v:Value)(n:Nat):List Value:=Nat.rec (motive:=fun _=>List Value) [] (fun _ aG=>v::aG) n
def alE (z:List Value)(n:Nat):List Value:=Nat.rec (motive:=fun _=>List Value) [] (fun _ aG=>z++aG) n
def gp (z:List Value)(n:Nat):List Value:=
 match z with
 |[]=>[]
 |[v]=>Pk v n
 |a::b::z=>alE (a::b::z) n
def DP (P:Program)(H:ao)(t:TypeId)(l c:Value):Option (Value×ao):=
 match l,c,P.underlying t with
 |.int _ l,.int _ c,some (.slice elem)=>
  match fO P elem,tp P elem,eB P elem with
  |some z,some hZ,some aj=>
   match pt c 1000000,pt l 1000000 with
   |some c,some l=>
    bif Nat.ble l c&&Nat.ble hZ 1000000&&Nat.beq z.cells.toList.length aj&&z.cells.toList.all eT&&plain z then
     match sO H elem (gp z.cells.toList c) with
     |some (id,H)=>some (.slice (some ⟨id,0,none⟩) l c,H)
     |none=>none
    else none
   |_,_=>none
  |_,_,_=>none
 |_,_,_=>none
def jt (H:ao)(aj n:Nat):Value->Option (List Value)
 |.slice (some a) _ _=>match n with
  |0=>some []
  |_=>match a.spot with
   |some _=>none
   |none=>match H.mem.get a.block with
    |some (.row cells _ _ _ _ _)=>takeN (n*aj) (nI a.off cells)
    |_=>none
 |.slice none _ _=>match n with|0=>some []|_=>none
 |.string s=>match takeN n s.data.toList with
  |some l=>some (l.map fun b=>.int .u8 b.toNat)
  |none=>none
 |_=>none
def ql:Value->Option Nat
 |.slice _ n _=>some n
 |.string s=>some s.data.toList.length
 |_=>none
def wY (H:ao)(id:Nat):List Nat->Option (List Nat×ao)
 |[]=>none
 |x::l=>bif Nat.beq x id then some (x::l,H) else
  match H.upd x .dead with|some H=>wY H id l|none=>none
def DF (H:ao)(l:List Nat)(same:Bool):Option (List Nat×ao):=
 bif same then some (l,H) else(match rz H H.af l with|some H=>some ([],H)|none=>none)
def fresh (H:ao)(elem:TypeId)(cells:List Value)(len:Nat):Option (Value×ao):=
 match H.nq cells elem false with
 |some (id,H)=>some (.slice (some ⟨id,0,none⟩) len cR,H)
 |none=>none
def xJ:Option Addr->Bool
 |some a=>(match a.spot with|none=>true|some _=>false)
 |none=>true
def pa (P:Program)(H:ao)(fN:TypeId)(s x:Value):Option (Value×ao):=
 match P.underlying fN,s with
 |some (.slice elem),.slice base c4 h3=>
  match eB P elem,tp P elem,fO P elem,ql x with
  |some aj,some hZ,some z,some n=>
   bif !(Nat.ble (c4+n) 1000000&&Nat.ble hZ 1000000&&Nat.beq z.cells.toList.length aj) then none else
   match jt H aj n x with
   |none=>none
   |some new=>
    bif !(new.all eT&&Nat.beq new.length (n*aj)) then none else
    bif Nat.beq h3 cR then
     match base with
     |some a=>match a.spot with
      |some _=>none
      |none=>match H.mem.get a.block with
       |some (.row cells el true br eD sh)=>
        bif !(Nat.beq el elem&&!Nat.blt a.block H.bq&&Nat.ble eD (a.off+c4*aj)) then none else
        bif Nat.beq n 0 then some (s,H) else
        bif !(Nat.beq a.off 0) then none else
        match takeN (c4*aj) cells with
        |none=>none
        |some eO=>
         match H.br.get br with
         |none=>none
         |some l=>
          match wY H a.block l with
          |none=>none
          |some (l,H)=>
           match DF H l (Nat.beq cells.length (c4*aj)) with
           |none=>none
           |some (l,H)=>
            match H.qx br (H.af::l) with
            |none=>none
            |some H=>match H.new (.row (eO++new) elem true br eD sh) with
             |some (id,H)=>some (.slice (some ⟨id,0,none⟩) (c4+n) cR,H)
             |none=>none
       |_=>none
     |none=>none
    else
     bif Nat.ble (c4+n) h3 then
      match base with
      |none=>bif Nat.beq n 0 then some (s,H) else none
      |some a=>match a.spot with
       |some _=>none
       |none=>match pW H a.block (a.off+c4*aj) new with
        |some H=>some (.slice base (c4+n) h3,H)
        |none=>none
     else
      bif xJ base then
       match jt H aj c4 s with
       |none=>none
       |some eO=>bif Nat.beq eO.length (c4*aj) then fresh H elem (eO++new) (c4+n) else none
      else none
  |_,_,_,_=>none
 |_,_=>none
def K9 (P:Program)(H:ao)(qC:TypeId)(d s:Value):Option (Value×ao):=
 match P.underlying qC,d,ql s with
 |some (.slice elem),.slice base tw _,some c4=>
  match eB P elem with
  |none=>none
  |some aj=>
   let n:=bif Nat.ble c4 tw then c4 else tw
   match jt H aj n s with
   |none=>none
   |some cells=>match base with
    |none=>some (.int .i64 n,H)
    |some a=>match a.spot with
     |some _=>none
     |none=>bif !(cells.all eT) then none else match pW H a.block a.off cells with
      |some H=>some (.int .i64 n,H)
      |none=>none
 |_,_,_=>none
def yT (P:Program)(H:ao)(t:TypeId)(x:Value):Option (Value×ao):=
 match P.underlying t,x with
 |some _,.slice none _ _=>some (.tuple #[],H)
 |some _,.slice (some _) 0 _=>some (.tuple #[],H)
 |some (.slice elem),.slice (some a) (n+1) _=>(match a.spot,fO P elem with
  |none,some z=>bif plain z then(match pW H a.block a.off (gp z.cells.toList (n+1)) with
   |some H=>some (.tuple #[],H)
   |none=>none) else none
  |_,_=>none)
 |_,_=>none
def places (P:Program):List Field->Option (List (Nat×Nat))
 |[]=>some []
 |f::l=>match eB P f.type,places P l with
  |some n,some r=>some ((f.offset,n)::r)
  |_,_=>none
def mQ (place:Nat->Option (Nat×Nat)):List Value->List (Nat×Value)->Option (List Value)
 |cells,[]=>some cells
 |cells,(i,v)::rest=>match place i with
  |none=>none
  |some (off,size)=>bif Nat.beq v.cells.toList.length size then
   (match gE off cells v.cells.toList with
    |some cells=>mQ place cells rest
    |none=>none)
   else none
def DL (P:Program)(t:TypeId)(parts:List (Nat×Value)):Option Value:=
 match fO P t,P.underlying t with
 |some z,some (.struct fields)=>bif plain z then
  match places P fields.toList with
  |some dx=>match mQ (nth dx) z.cells.toList parts with
   |some cells=>some (.agg cells.toArray)
   |none=>none
  |none=>none
  else none
 |some z,some (.array _ elem)=>bif plain z then
  match eB P elem with
  |some aj=>match mQ (fun i=>some (i*aj,aj)) z.cells.toList parts with
   |some cells=>some (.agg cells.toArray)
   |none=>none
  |none=>none
  else none
 |_,_=>none
def DM (P:Program)(H:ao)(t:TypeId)(len:Nat)(parts:List (Nat×Value)):Option (Value×ao):=
 match P.underlying t with
 |some (.slice elem)=>match eB P elem,fO P elem with
  |some aj,some z=>
   bif Nat.ble len 100000&&Nat.ble (len*aj) 100000&&plain z&&Nat.beq z.cells.toList.length aj then
    match mQ (fun i=>some (i*aj,aj)) (gp z.cells.toList len) parts with
    |some cells=>bif cells.all eT then
     (match sO H elem cells with
      |some (id,H)=>some (.slice (some ⟨id,0,none⟩) len len,H)
      |none=>none)
     else none
    |none=>none
   else none
  |_,_=>none
 |_=>none
def kX (T:aX Value)(H:ao):List (Nat×Operand)->Option (List (Nat×Value))
 |[]=>some []
 |(i,x)::l=>match a6 T H x with
  |some v=>match kX T H l with|some r=>some ((i,v)::r)|none=>none
  |none=>none
def Lc (P:Program)(x:Value)(asserted:TypeId)(ok:Bool):Option Value:=
 let Ho:Option Value:=bif ok then(match fO P asserted with|some z=>bif plain z then some (.tuple #[z,.bool false]) else none|none=>none) else none
 match P.underlying asserted,x with
 |some (.interface _),.nilIface=>Ho
 |some (.interface want),.iface t _=>match P.info? t with
  |some i=>match Instr.missingMethod want i.methods with
   |none=>some (bif ok then .tuple #[x,.bool true] else x)
   |some _=>Ho
  |none=>none
 |some _,.nilIface=>Ho
 |some _,.iface t v=>bif Nat.beq t asserted then some (bif ok then .tuple #[v,.bool true] else v) else Ho
 |_,_=>none
def K8 (P:Program)(H:ao)(src dst:TypeId)(x:Value):Option Value:=
 match P.underlying src,P.underlying dst,x with
 |some (.pointer t),some .unsafePointer,.pointer (some a)=>(match a.spot,eB P t,H.mem.get a.block with
  |none,some (_+1),some (.row cells _ _ _ _ _)=>bif Nat.blt a.off cells.length then some x else none
  |_,_,_=>none)
 |some .unsafePointer,some (.pointer u),.pointer (some a)=>(match a.spot,eB P u,H.mem.get a.block with
  |none,some (_+1),some (.row cells e false _ _ _)=>bif liesAt P P.depth e (cells.length / P.cellsOf e) a.off u 1 then some x else none
  |_,_,_=>none)
 |_,_,_=>none
def o6:List Value->Option (List UInt8)
 |[]=>some []
 |.int .u8 (.ofNat n)::l=>bif Nat.blt n 256 then(match o6 l with|some r=>some (UInt8.ofNat n::r)|none=>none) else none
 |_::_=>none
def A0 (P:Program)(H:ao)(src dst:TypeId)(x:Value):Option Value:=
 match P.underlying src,P.underlying dst,x with
 |some (.slice e),some .string,.slice (some a) len _=>bif !(xJ (some a)) then none else(match P.underlying e with
  |some (.int .u8)=>(match jt H 1 len (.slice (some a) len 0) with
   |some cells=>(match o6 cells with
    |some bs=>some (.string ⟨bs.toArray⟩)
    |none=>none)
   |none=>none)
  |_=>none)
 |some (.slice e),some .string,.slice none _ _=>(match P.underlying e with
  |some (.int .u8)=>some (.string .empty)
  |_=>none)
 |_,_,_=>none
def isByte (v:Value):Bool:=match v with
 |.int .u8 (.ofNat n)=>Nat.blt n 256
 |_=>false
def byteOf (v:Value):UInt8:=match v with
 |.int .u8 (.ofNat n)=>UInt8.ofNat n
 |_=>0
def agu (l:List Value):Option (List Value):=List.rec (motive:=fun _=>Option (List Value)) none (fun v t _=>Bool.rec (motive:=fun _=>Option (List Value)) none (some t) (isByte v)) l
def vb (k:Nat):List Value->Option (List Value):=
 Nat.rec (motive:=fun _=>List Value->Option (List Value)) agu (fun _ aG l=>Option.rec (motive:=fun _=>Option (List Value)) none aG (aG l)) k
def yL (k:Nat):Nat->List Value->Bool:=
 Nat.rec (motive:=fun _=>Nat->List Value->Bool) (fun n _=>Nat.beq n 0)
  (fun k aG n l=>Bool.rec (motive:=fun _=>Bool) (Option.rec (motive:=fun _=>Bool) false (fun r=>aG (Nat.sub n (Nat.pow 2 k)) r) (vb k l)) (aG n l) (Nat.blt n (Nat.pow 2 k))) k
def Wu (n:Nat)(l:List Value):List UInt8:=
 List.rec (motive:=fun _=>Nat->List UInt8) (fun _=>[]) (fun v _ aG n=>Nat.rec (motive:=fun _=>List UInt8) [] (fun m _=>byteOf v::aG m) n) l n
def Ww (len:Nat)(cells:List Value):Option Value:=bif yL 21 len cells then some (.string ⟨(Wu len cells).toArray⟩) else none
def Lb (P:Program)(H:ao)(src dst:TypeId)(x:Value):Option Value:=
 match P.underlying src,P.underlying dst,x with
 |some (.slice e),some .string,.slice (some a) len _=>(match P.underlying e,a.spot,H.mem.get a.block with
  |some (.int .u8),none,some (.row cells _ _ _ _ _)=>Ww len (nI a.off cells)
  |_,_,_=>none)
 |_,_,_=>none
def Nu (x:Value):Bool:=match x with
 |.slice _ len _=>Nat.blt 256 len
 |_=>false
def La (P:Program)(H:ao)(src dst:TypeId)(x:Value):Option Value:=
 bif Nu x then Lb P H src dst x else A0 P H src dst x
def isNil {α:Type}(l:List α):Bool:=List.rec (motive:=fun _=>Bool) true (fun _ _ _=>false) l
def aag {α:Type}(l:List α):Option (List α):=List.rec (motive:=fun _=>Option (List α)) none (fun _ t _=>some t) l
def u' {α:Type}(k:Nat):List α->Option (List α):=
 Nat.rec (motive:=fun _=>List α->Option (List α)) aag (fun _ aG l=>Option.rec (motive:=fun _=>Option (List α)) none aG (aG l)) k
def yM {α:Type}(k:Nat):Nat->List α->Option Nat:=
 Nat.rec (motive:=fun _=>Nat->List α->Option Nat) (fun n l=>Bool.rec (motive:=fun _=>Option Nat) none (some n) (isNil l))
  (fun k aG n l=>Option.rec (motive:=fun _=>Option Nat) (aG n l) (fun r=>aG (Nat.add n (Nat.pow 2 k)) r) (u' k l)) k
def zE {α:Type}(l:List α):Option Nat:=bif isNil (nI 256 l) then some l.length else
 match yM 17 0 l with
 |some n=>some n
 |none=>match yM 21 0 l with
  |some n=>some n
  |none=>some l.length
def strCells (l:List UInt8):List Value:=List.rec (motive:=fun _=>List Value) [] (fun b _ r=>Value.int .u8 (.ofNat b.toNat)::r) l
def aaZ (n:Nat):Option (Nat×ao)->Option (Value×ao)
 |some (id,H)=>some (.slice (some ⟨id,0,none⟩) n cR,H)
 |none=>none
def vh (P:Program)(H:ao)(src dst:TypeId)(s:ByteArray):Option (Value×ao):=
 match P.underlying src,P.underlying dst with
 |some .string,some (.slice e)=>(match P.underlying e with
  |some (.int .u8)=>bif Nat.beq (P.cellsOf e) 1 then aaZ s.data.toList.length (H.nq (strCells s.data.toList) e true) else none
  |_=>none)
 |_,_=>none
def Ld (P:Program)(H:ao)(rL:TypeId)(p n:Value):Option (Value×ao):=
 match p,n with
 |.pointer (some a),.int .i64 (.ofNat 0)=>(match a.spot with|none=>some (.string .empty,H)|some _=>none)
 |.pointer none,.int .i64 (.ofNat 0)=>some (.string .empty,H)
 |.pointer (some a),.int .i64 (.ofNat (n+1))=>(match a.spot,P.underlying rL,H.mem.get a.block with
  |none,some (.pointer u),some (.row cells e opn br eD sh)=>
   bif !(Nat.beq e u&&Nat.beq (P.cellsOf e) 1&&Nat.ble (n+1) 1000000&&!Nat.blt a.block H.bq&&Nat.beq a.off 0&&!sh) then none else
   (match takeN (n+1) cells with
   |none=>none
   |some l=>(match o6 l with
    |none=>none
    |some bs=>
     match H.upd a.block (.row cells e opn br (bif sh then se else Nat.max eD (n+1)) sh) with
     |some H=>(match(bif opn then xE H a.block br else some H) with
      |some H=>some (.string ⟨bs.toArray⟩,H)
      |none=>none)
     |none=>none))
  |_,_,_=>none)
 |_,_=>none
def w5 (P:Program)(t:TypeId)(x y:Value):Option Bool:=
 match P.underlying t,x,y with
 |some (.pointer _),.pointer none,.pointer b=>some b.isNone
 |some (.pointer _),.pointer (some _),.pointer none=>some false
 |some (.pointer elem),.pointer (some a),.pointer (some b)=>(match eB P elem with
  |some (_+1)=>bif Nat.beq a.block b.block then some (a==b) else none
  |_=>none)
 |some (.slice _),.slice none _ _,.slice b _ _=>some b.isNone
 |some (.slice _),.slice (some _) _ _,.slice none _ _=>some false
 |some (.map _ _),.map none,.map b=>some b.isNone
 |some (.map _ _),.map (some _),.map none=>some false
 |some (.func _ _ _),.nilFunc,.func _ _ _=>some false
 |some (.func _ _ _),.func _ _ _,.nilFunc=>some false
 |some (.interface _),.nilIface,.iface _ _=>some false
 |some (.interface _),.iface _ _,.nilIface=>some false
 |_,_,_=>none
end
end Go.Cre
