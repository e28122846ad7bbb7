/- OtpCounts, at every input. No condition. -/
import Derived.Test.YtimlgkfhfofpbaaOtpCp
namespace Go.Proofs.Ytimlgkfhfofpbaa
open Go.RowKit

theorem oc_any (mo n : Int) (r sx : List Int) (hr : r.length = 32) (hs : sx.length = 32) (pa : Option Addr) (lp cp : Nat) (zs : List Int) (w : World) (h : RowI .i64 w pa lp cp zs) :
    Calls Try.prog 4 #[.int .i64 mo, .agg (arr .u8 r), .agg (arr .u8 sx), .slice pa lp cp, .int .i64 n] w fun e w' => e = .returned (.bool true) ∧ Below w.heap.size w w' := by
  by_cases he : n < 0 ∨ 60 < n ∨ (0 ≤ n ∧ n ≤ 60 ∧ 60 < lp)
  · exact oc_early mo n r sx pa lp cp w he
  · obtain ⟨k, rfl⟩ := Int.eq_ofNat_of_zero_le (show 0 ≤ n by omega)
    refine oc_go mo k r sx hr hs pa lp cp (fun i => zs.getD i 0) w (by omega) (by omega) (fun i hi => ?_)
    rcases h with ⟨rfl, rfl, rfl, rfl⟩ | ⟨x, rfl, h1, h2, h3, h4, h5⟩
    · omega
    · exact ⟨x, rfl, h4 i (by omega)⟩

end Go.Proofs.Ytimlgkfhfofpbaa
