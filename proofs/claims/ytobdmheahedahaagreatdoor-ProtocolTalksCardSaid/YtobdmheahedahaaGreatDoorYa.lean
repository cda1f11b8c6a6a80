/- A part of the proof of ProtocolTalks. -/
import Derived.Test.YtobdmheahedahaaGreatDoorCreZ
import Derived.Test.YtobdmheahedahaaGreatDoorProg
import Derived.KernelRfl
set_option maxRecDepth 100000
namespace Go.Opn
open Go Go.Cre Go.RowKit Go.Proofs
def nums0 : List Int := [0, 1, 28, 2, 29, 14, 24, 3, 30, 22, 20, 15, 25, 17, 4, 8, 31, 27, 13, 23, 21, 19, 16, 7, 26, 12, 18, 6, 11, 5, 10, 9]
def cells0 : List Value := nums0.map fun z => Value.int .u8 z
def nums1 : List Int := [0, 1, 56, 2, 57, 49, 28, 3, 61, 58, 42, 50, 38, 29, 17, 4, 62, 47, 59, 36, 45, 43, 51, 22, 53, 39, 33, 30, 24, 18, 12, 5, 63, 55, 48, 27, 60, 41, 37, 16, 46, 35, 44, 21, 52, 32, 23, 11, 54, 26, 40, 15, 34, 20, 31, 10, 25, 14, 19, 9, 13, 8, 7, 6]
def cells1 : List Value := nums1.map fun z => Value.int .u8 z
def nums2 : List Int := [1, 10, 100, 1000, 10000, 100000, 1000000, 10000000, 100000000, 1000000000, 10000000000, 100000000000, 1000000000000, 10000000000000, 100000000000000, 1000000000000000, 10000000000000000, 100000000000000000, 1000000000000000000, 10000000000000000000]
def cells2 : List Value := nums2.map fun z => Value.int .u64 z
def nums3 : List Bool := [false, false, false, false, false, false, false, false, false, true, true, false, false, false, false, false, false, false, false, false, false, false, false, false, false, false, false, false, false, false, false, false, true]
def cells3 : List Value := nums3.map Value.bool
def nums4 : List Bool := [false, false, false, false, false, false, false, false, false, false, false, false, false, false, false, false, false, false, false, false, false, false, false, false, false, false, false, false, false, false, false, false, false, true, false, false, false, true, false, false, true, true, true, true, true, true, true, true, false, false, false, false, false, false, false, false, false, false, true, true, true, true, true, false, false, false, false, false, false, false, false, false, false, false, false, false, false, false, false, false, false, false, false, false, false, false, false, false, false, false, false, false, false, false, false, false, false, false, false, false, false, false, false, false, false, false, false, false, false, false, false, false, false, false, false, false, false, false, false, false, false, false, false, true, false, true]
def cells4 : List Value := nums4.map Value.bool
def tabs : List (Nat × TypeId × List Value) := [(6, 169, cells0), (7, 170, cells1), (5, 161, cells2), (1, 124, cells3), (2, 125, cells4)]
noncomputable def H0 : Hp := firstHp 8 5 tabs
theorem awakeRun : isTrue ((evs Tryz.prog (ftOf Tryz.prog) 10000).body 4 [] false .run H0) = true := by kernel_rfl
end Go.Opn
