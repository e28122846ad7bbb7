/- A field's number as four cells, as 32 bytes, for regions told in symbols. No condition. -/
import Derived.Test.YtogebegdgfdijaaDoorFa
import Derived.Test.YtogebegdgfdijaaDoorSym
namespace Go.Proofs.YtogebegdgfdijaaDoor.Fp
open Go.RowKit Lm
theorem p_lt4x : p < 18446744073709551616 ^ 4 := by decide +kernel
theorem n4_ex {a : Nat} (h : a < p) : ∃ z : List Int, Hid (N4 z a) ∧ Hid (z.length = 4) ∧ Hid (∀ y, N4 y a → y = z) :=
  ⟨_, Lib.hid (n4_of a (Nat.lt_trans h p_lt4x)), Lib.hid (n4_of a (Nat.lt_trans h p_lt4x)).len, Lib.hid (fun _ h => h.1)⟩
theorem k32_ex {a : Nat} (h : a < p) : ∃ z : List Int, Hid (Sl.K32 z a) ∧ Hid (z.length = 32) ∧ Hid (∀ y, Sl.K32 y a → y = z) :=
  have h1 : Sl.K32 (nar (dig 256 32 a)) a := ⟨rfl, Nat.lt_trans h (by decide +kernel)⟩
  ⟨_, Lib.hid h1, Lib.hid h1.len, Lib.hid (fun _ h => h.1)⟩
theorem pick_lt {c a b : Nat} (ha : a < p) (hb : b < p) : (if c = 1 then b else a) < p := by split <;> assumption
theorem rowL : RowT Tryd.prog 53 4 := ⟨⟨_, Tryd.underlying53, rfl⟩, by kernel_rfl⟩
theorem rowN : RowT Tryd.prog 23 32 := ⟨⟨_, Tryd.underlying23, rfl⟩, by kernel_rfl⟩
theorem asz {k : IntKind} {xs : List Int} {n : Nat} (h : xs.length = n) : (arr k xs).size = n := by rw [arr_size, h]
end Go.Proofs.YtogebegdgfdijaaDoor.Fp
