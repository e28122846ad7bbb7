/- WrapOpens: it answers true. Condition: the document's table holds what its text lays. -/
import Derived.Test.YtogebegdgfdijaaDoorMm
import Derived.Test.YtogebegdgfdijaaDoorMaV
set_option maxRecDepth 100000
set_option maxHeartbeats 16000000
set_option linter.unusedSimpArgs false
set_option linter.unusedVariables false
namespace Go.Proofs.YtogebegdgfdijaaDoor.Wr
open Go.RowKit Lm Cu Sl Fp
theorem rowI_src {w : World} {a : Option Addr} {len cap : Nat} {zs : List Int} (h : RowI .u8 w a len cap zs) : Src w a len (zs.take len) ∧ bytes (zs.take len) ∧ len ≤ cap := by
  rcases h with ⟨rfl, rfl, rfl, rfl⟩ | ⟨x, rfl, hl, hm, hz, hc, hw⟩
  · exact ⟨⟨rfl, fun i hi => absurd hi (by omega)⟩, fun x hx => by simp at hx, Nat.le_refl _⟩
  · refine ⟨⟨by simp; omega, fun i hi => ⟨x, rfl, ?_⟩⟩, fun y hy => wf_u8 (hw y (List.mem_of_mem_take hy)), hl⟩
    rw [hc i (by omega)]
    simp [List.getD, hi]
theorem ures_len (S : Nat) (b : List Int) : (ures S b).1.length = 32 := by
  unfold ures
  split
  · split
    · exact n32_len _
    · split
      · rename_i h80 _ hok
        exact opened_len _ _ _ _ hok (by rw [List.length_drop, h80])
      · exact n32_len _
  · exact n32_len _
end Go.Proofs.YtogebegdgfdijaaDoor.Wr
