/- Plain facts on bytes as numbers. Condition: 32 bytes. -/
import Derived.Test.YtanjhngehfbpbaaSlD
import Derived.Test.YtanjhngehfbpbaaMa
namespace Go.Proofs.Ytanjhngehfbpbaa.Sl
open Go.RowKit Lm Fp

theorem sand127 : ∀ t : Nat, t < 256 → bits .and .u8 (t : Int) 127 = ((t % 128 : Nat) : Int) := by decide +kernel
theorem build_no (w : World) : (Instr.build 49 #[]).run Try.prog w = .ok (.agg (arr .u64 [0, 0, 0, 0])) w := by kernel_rfl
theorem K32.inj {xs ys : List Int} {a b : Nat} (hx : K32 xs a) (hy : K32 ys b) : (xs == ys) = decide (a = b) := by
  obtain ⟨rfl, h1⟩ := hx
  obtain ⟨rfl, h2⟩ := hy
  by_cases e : a = b
  · subst e; simp
  · rw [decide_eq_false e, beq_eq_false_iff_ne]
    intro h
    have h3 : dig 256 32 a = dig 256 32 b := by
      have := congrArg (List.map Int.toNat) h
      have e : ∀ l : List Nat, (nar l).map Int.toNat = l := fun l => by rw [nar, List.map_map]; exact List.map_id l
      rwa [e, e] at this
    have h4 := congrArg (val 256) h3
    rw [val_dig, val_dig, Nat.mod_eq_of_lt h1, Nat.mod_eq_of_lt h2] at h4
    exact e h4
theorem k32_zero : K32 (List.replicate 32 0) 0 := ⟨by decide +kernel, by decide⟩
theorem build_nil (w : World) : (Instr.build 23 #[]).run Try.prog w = .ok (.agg (arr .u8 (List.replicate 32 0))) w := by kernel_rfl

end Go.Proofs.Ytanjhngehfbpbaa.Sl
