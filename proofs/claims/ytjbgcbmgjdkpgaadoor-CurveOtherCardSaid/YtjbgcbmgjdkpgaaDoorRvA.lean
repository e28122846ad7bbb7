/- The document's Less: what they answer. Condition: 32 bytes; lists of the call's size; the tables hold what their text lays. -/
import Derived.Test.YtjbgcbmgjdkpgaaDoorRsD
namespace Go.Proofs.YtjbgcbmgjdkpgaaDoor.Rd
open Go.RowKit Lm Fp Cu Sc
set_option linter.unusedSimpArgs false

theorem div_next (a i : Nat) : a / 256 ^ i = 256 * (a / 256 ^ (i + 1)) + a / 256 ^ i % 256 := by
  rw [Nat.pow_succ, ← Nat.div_div_eq_div_mul]
  omega
theorem lt_of_div {a b i : Nat} (h : a / 256 ^ i < b / 256 ^ i) : a < b := by
  apply Classical.byContradiction
  intro hn
  exact absurd (Nat.div_le_div_right (c := 256 ^ i) (Nat.not_lt.1 hn)) (by omega)
theorem less_digit (a b i : Nat) (he : a / 256 ^ (i + 1) = b / 256 ^ (i + 1)) (hne : a / 256 ^ i % 256 ≠ b / 256 ^ i % 256) : decide (a / 256 ^ i % 256 < b / 256 ^ i % 256) = decide (a < b) := by
  have h1 := div_next a i
  have h2 := div_next b i
  by_cases h : a / 256 ^ i % 256 < b / 256 ^ i % 256
  · rw [decide_eq_true h, decide_eq_true (lt_of_div (i := i) (by omega))]
  · rw [decide_eq_false h, decide_eq_false]
    have : b < a := lt_of_div (i := i) (by omega)
    omega

set_option maxRecDepth 100000 in
set_option maxHeartbeats 4000000 in
theorem rless_any (a : Nat) (w : World) (ha : a < 256 ^ 32) (hT : TabQ w) : Calls Tryd.prog 32 #[.agg (arr .u8 (nar (dig 256 32 a)))] w fun e w' => e = .returned (.bool (decide (a < q))) ∧ Below w.heap.size w w' := by
  obtain ⟨ks, hks⟩ : ∃ x, x = nar (dig 256 32 a) := ⟨_, rfl⟩
  have hkl : ks.length = 32 := by rw [hks, nar_len, dig_len]
  have hkg : ∀ i, i < 32 → ks.getD i 0 = ((a / 256 ^ i % 256 : Nat) : Int) := fun i hi => by rw [hks, nar_get, dig_get _ _ _ _ hi]
  have hqg : ∀ i, i < 32 → qL.getD i 0 = ((q / 256 ^ i % 256 : Nat) : Int) := fun i hi => by rw [qL_eq, nar_get, dig_get _ _ _ _ hi]
  have h0 : a / 256 ^ 32 = q / 256 ^ 32 := by rw [Nat.div_eq_of_lt ha, Nat.div_eq_of_lt q_lt32]
  rw [← hks]
  obtain ⟨Q, hQ⟩ : ∃ x, x = q := ⟨_, rfl⟩
  rw [← hQ] at hqg h0 ⊢
  have HKL := Lib.hid hkl
  have HKG := Lib.hid hkg
  have HQG := Lib.hid hqg
  have HT := Lib.hid hT
  have HS0 := Lib.hid (Blk.one w (arr .u8 ks) 23)
  have H0 := Lib.hid h0
  clear hks hkl hkg hqg h0 hT hQ ha
  go_enter Tryd.func32, Tryd.ntmps32
  go_wp2_with fail
  go_loopw [3] (fun v' wr => ∃ n : Nat, n ≤ 32 ∧ v' = .int .i64 (31 - (n : Int)) ∧ Hid (a / 256 ^ (32 - n) = Q / 256 ^ (32 - n)) ∧ Blk w wr [(w.heap.size, arr .u8 ks, 23)]) (fun v' _ => (intOf v' + 1).toNat)
  case atStart => exact ⟨0, Nat.zero_le _, rfl, H0, HS0.out⟩
  case round =>
  obtain ⟨n, hn, rfl, hd, hB⟩ := hrel
  have HB := Lib.hid hB
  by_cases hlt : n < 32
  · obtain ⟨i, hi⟩ : ∃ i : Nat, i + n = 31 := ⟨31 - n, by omega⟩
    have hz : (31 : Int) - (n : Int) = (i : Int) := by omega
    have hi2 : i < 32 := by omega
    have hd2 := hd.out
    rw [show 32 - n = i + 1 by omega] at hd2
    have HD := Lib.hid hd2
    rw [hz]
    have q0 := arr_get' (hB.get 0 rfl) i (by rw [HKL.out]; exact hi2)
    rw [HKG.out i hi2] at q0
    have q1 := (HT.out.below HB.out.below) i hi2
    rw [HQG.out i hi2] at q1
    have HI := Lib.hid hi
    have HLD := Lib.hid (less_digit a Q i hd2)
    have HE := Lib.hid (show a / 256 ^ i % 256 = Q / 256 ^ i % 256 → a / 256 ^ i = Q / 256 ^ i from fun h => by rw [div_next a i, div_next Q i, hd2, h])
    clear hd hd2 hz hi
    have hx9 : a / 256 ^ i % 256 < 256 := Nat.mod_lt _ (by decide)
    generalize a / 256 ^ i % 256 = x at q0 HLD HE hx9
    generalize Q / 256 ^ i % 256 = y at q1 HLD HE
    have hwx : wrap64 (x : Int) = (x : Int) := by unfold wrap64; omega
    clear hx9
    have q9 : 0 ≤ (i : Int) := by omega
    by_cases hxy : x = y
    · subst hxy
      go_upto_region 4 with fail
      go_region
      go_wp2_with fail
      go_roundw
      case rel => exact ⟨n + 1, by omega, by have e := HI.out; congr 1; omega, by rw [show 32 - (n + 1) = i by have e := HI.out; omega]; exact Lib.hid (HE.out rfl), HB.out.drew⟩
      case measure => simp [intOf]
    · have hne : ((x : Int) != (y : Int)) = true := by rw [bne_iff_ne]; omega
      have HRES := Lib.hid (HLD.out hxy)
      go_upto_region 4 with fail
      go_region
      go_upto_region 5 with fail
      go_region
      go_wp2_with fail
      (try simp only [Exit.inBlock, Exit.then])
      go_ret
      exact ⟨by rw [← HRES.out]; rfl, HB.out.drew.drew.below⟩
  · obtain rfl : n = 32 := by omega
    have hz : (31 : Int) - ((32 : Nat) : Int) = -1 := by omega
    rw [hz]
    have hd2 := hd.out
    rw [show 32 - 32 = 0 from rfl, Nat.pow_zero, Nat.div_one, Nat.div_one] at hd2
    clear hz hd
    have hres : decide (a < Q) = false := by rw [hd2]; simp
    have HRES := Lib.hid hres
    clear hres hd2
    go_wp2_with fail
    (try simp only [Exit.inBlock, Exit.then])
    go_ret
    exact ⟨by rw [HRES.out]; rfl, HB.out.below⟩

end Go.Proofs.YtjbgcbmgjdkpgaaDoor.Rd
