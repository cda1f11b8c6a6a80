/- The closed call parlour/parlourlaw31.TableKnown, run by the kernel through the evaluator: it is true. No conditions. -/
import Derived.Test.YtpkjbknpjoameaaGreatDoorCreZ
import Derived.Test.YtpkjbknpjoameaaGreatDoorChecked
import Derived.KernelRfl
namespace Go.Proofs.YtpkjbknpjoameaaGreatDoor.creTableKnown
open Go Go.Cre Go.Proofs
def nums0 : List Int := [0, 1, 56, 2, 57, 49, 28, 3, 61, 58, 42, 50, 38, 29, 17, 4, 62, 47, 59, 36, 45, 43, 51, 22, 53, 39, 33, 30, 24, 18, 12, 5, 63, 55, 48, 27, 60, 41, 37, 16, 46, 35, 44, 21, 52, 32, 23, 11, 54, 26, 40, 15, 34, 20, 31, 10, 25, 14, 19, 9, 13, 8, 7, 6]
def cells0 : List Value := nums0.map fun z => Value.int .u8 z
def tabs : List (Nat × TypeId × List Value) := [(2, 179, cells0)]
theorem run : isTrue ((evs Tryz.prog (ftOf Tryz.prog) 10000).body 3 [] false .run (firstHp 3 3 tabs)) = true := by kernel_rfl
end Go.Proofs.YtpkjbknpjoameaaGreatDoor.creTableKnown
