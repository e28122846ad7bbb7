/- math/bits.Mul64, Add64, Sub64 in this program: by the library's own contracts. No condition. -/
import Derived.Test.YtcecgbjpmegljaaLimP
import Derived.Shelf.Bits.Mul64
import Derived.Shelf.Spec.BitsCarry
namespace Go.Proofs.Ytcecgbjpmegljaa.Lm
open Go.RowKit Go.Shelf

def ren : Ren := ⟨fun _ => 40, fun t => if t = 46 then 71 else 85, fun g => g⟩
theorem lays : Lays.n264 Try.prog ren where
  mixed := by kernel_rfl
  f264 := Try.func40
  t46 := by kernel_rfl
  a46 := fun w => by kernel_rfl
  z46 := fun w => by kernel_rfl
  v46 := fun w => by kernel_rfl
  t53 := by kernel_rfl
  a53 := fun w => by kernel_rfl
  z53 := fun w => by kernel_rfl
  v53 := fun w => by kernel_rfl
theorem mul64 (x y : Nat) (hx : x < 18446744073709551616) (hy : y < 18446744073709551616) (w : World) :
    Calls Try.prog 40 #[.int .u64 x, .int .u64 y] w fun e w' => e = .returned (.tuple #[.int .u64 ((x * y / 18446744073709551616 : Nat) : Int), .int .u64 ((x * y % 18446744073709551616 : Nat) : Int)]) ∧ w' = w :=
  Any.bits_Mul64 lays x y hx hy w
end Go.Proofs.Ytcecgbjpmegljaa.Lm
