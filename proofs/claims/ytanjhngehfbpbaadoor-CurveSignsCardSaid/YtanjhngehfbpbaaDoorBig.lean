/- portcullislaw5.Big: what it answers. Condition: the lists lie there. -/
import Derived.Test.YtanjhngehfbpbaaDoorMa
import Derived.StillTailTactics
namespace Go.Proofs.YtanjhngehfbpbaaDoor
open Go.RowKit

def bigL (L : List (List Int)) : Bool := decide (30 < L.length) || L.any (fun l => decide (1000 < l.length))

set_option maxRecDepth 100000 in
theorem big_any (sa : Option Addr) (n c : Nat) (L : List (List Int)) (w : World) (hs : SrcL w sa n L) :
    Calls Tryd.prog 13 #[.slice sa n c] w fun e w' => e = .returned (.bool (bigL L)) ∧ w' = w := by
  have hl := hs.len
  by_cases h30 : 30 < n
  · have hb : bigL L = true := by unfold bigL; rw [hl]; simp [h30]
    go_enter Tryd.func13, Tryd.ntmps13
    go_wp2
    go_ret
    rw [hb]
    exact ⟨rfl, rfl⟩
  · have HS := Lib.hid hs
    have HL := Lib.hid hl
    clear hs hl
    go_enter Tryd.func13, Tryd.ntmps13
    go_wp2_with fail
    go_loopw [3] (fun i wr => ∃ j : Nat, j ≤ n ∧ i = .int .i64 j ∧ (∀ k, k < j → (L.getD k []).length ≤ 1000) ∧ wr = w) (fun i _ => n - (intOf i).toNat)
    case atStart => exact ⟨0, Nat.zero_le _, rfl, fun k h => absurd h (by omega), rfl⟩
    case round =>
      obtain ⟨j, hj, rfl, hall, rfl⟩ := hrel
      by_cases hlt : j < n
      · obtain ⟨a, si, ci, rfl, x0, hci, hsi⟩ := HS.out.cell j hlt
        have hin : L.getD j [] ∈ L := by
          have : j < L.length := by rw [HL.out]; exact hlt
          simp only [List.getD, List.getElem?_eq_getElem this, Option.getD_some]
          exact List.getElem_mem this
        have HSI := Lib.hid hsi
        have HIN := Lib.hid hin
        have HALL := Lib.hid hall
        clear hsi hin hall
        by_cases hbig : 1000 < (L.getD j []).length
        · have hb : bigL L = true := by
            unfold bigL
            rw [Bool.or_eq_true]
            right
            rw [List.any_eq_true]
            exact ⟨_, HIN.out, by simpa using hbig⟩
          generalize (L.getD j []).length = m at x0 hbig hci
          go_wp2_with fail
          (try simp only [Exit.inBlock, Exit.then])
          go_ret
          rw [hb]
          exact ⟨rfl, rfl⟩
        · have hle : (L.getD j []).length ≤ 1000 := by omega
          have HLE := Lib.hid hle
          generalize (L.getD j []).length = m at x0 hbig hci hle
          go_wp2_with fail
          go_roundw
          case rel =>
            refine ⟨j + 1, by omega, by go_num, fun k hk => ?_, by first | rfl | trivial⟩
            rcases Nat.lt_or_ge k j with h | h
            · exact HALL.out k h
            · obtain rfl : k = j := by omega
              exact HLE.out
          case measure => simp [intOf]; omega
      · have hb : bigL L = false := by
          unfold bigL
          rw [Bool.or_eq_false_iff]
          refine ⟨by rw [HL.out]; simpa using h30, ?_⟩
          rw [List.any_eq_false]
          intro l hm
          obtain ⟨k, hk, rfl⟩ := List.getElem_of_mem hm
          have := hall k (by rw [HL.out] at hk; omega)
          simp only [List.getD, List.getElem?_eq_getElem hk, Option.getD_some] at this
          simp
          omega
        have HB := Lib.hid hb
        clear hall hb
        go_wp2_with fail
        (try simp only [Exit.inBlock, Exit.then])
        go_ret
        rw [HB.out]
        exact ⟨rfl, rfl⟩
end Go.Proofs.YtanjhngehfbpbaaDoor
