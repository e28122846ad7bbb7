/- portcullislaw18.ImageEnds: what it answers. No condition. -/
import Derived.Test.YtdaaigodpglnnaaImgB
namespace Go.Proofs.Ytdaaigodpglnnaa
open Go.RowKit

def fillN (N j : Nat) (v : Int) : List Int := List.replicate j v ++ List.replicate (N - j) 0
theorem fillN_len (N j : Nat) (v : Int) (h : j ≤ N) : (fillN N j v).length = N := by simp [fillN]; omega
theorem fillN_set (N j : Nat) (v : Int) (h : j < N) : (fillN N j v).set j v = fillN N (j + 1) v := by
  unfold fillN
  rw [List.set_append_right _ _ (by simp), List.length_replicate, Nat.sub_self, show N - j = (N - (j + 1)) + 1 by omega, List.replicate_succ, List.set_cons_zero, List.replicate_succ', List.append_assoc]
  rfl
theorem chunk_rep (N : Nat) (v : Int) (i k : Nat) (hk : k < 64) : (chunk (List.replicate N v) i).getD k 0 = if 64 * i + k < N then v else 0 := by
  unfold chunk zeros
  simp only [List.getD, List.drop_replicate, List.take_replicate, List.length_replicate]
  by_cases h : 64 * i + k < N
  · rw [if_pos h, List.getElem?_append_left (by simp; omega), List.getElem?_replicate, if_pos (by omega)]
    rfl
  · rw [if_neg h, List.getElem?_append_right (by simp; omega), List.getElem?_replicate, if_pos (by simp; omega)]
    rfl

set_option maxRecDepth 100000 in
set_option maxHeartbeats 2000000 in
theorem ends_long (N : Nat) (v : Int) (w : World) (hn : 2048 < N) (hn2 : N ≤ 3000) :
    Calls Try.prog 4 #[.int .i64 (N : Int), .int .u8 v] w fun e w' => e = .returned (.bool true) ∧ Below w.heap.size w w' := by
  have hmk := mk8 N (by omega)
  have HMK := Lib.hid hmk
  go_enter Try.func4, Try.ntmps4
  go_wp2_with (go_at_call 13; refine (alive18_any _).mono ?_; rintro e w1 ⟨rfl, hb1⟩; have HB1 := Lib.hid hb1; clear hb1)
  have hb0 : (w1.alloc (.cells (row8 (zeros N) []) 5)).heap[w1.heap.size]? = some (.cells (row8 (fillN N 0 v) []) 5 (0, 0)) := blk_new _ _
  have HB0 := Lib.hid hb0
  have HBA := Lib.hid ((HB1.out).alloc HB1.out.size (.cells (row8 (zeros N) []) 5))
  clear hb0
  go_loopw [7] (fun i wr => ∃ j : Nat, j ≤ N ∧ i = .int .i64 j ∧ wr.heap[w1.heap.size]? = some (.cells (row8 (fillN N j v) []) 5 (0, 0)) ∧ Below w.heap.size w wr) (fun i _ => N - (intOf i).toNat)
  case atStart => exact ⟨0, Nat.zero_le _, rfl, HB0.out, HBA.out⟩
  case round =>
    obtain ⟨j, hj, rfl, hb, hB⟩ := hrel
    by_cases hlt : j < N
    · have x0 : wr.cell? ⟨w1.heap.size, j, none⟩ = _ := (cell_blk hb j).trans (row8_get _ _ _ (by rw [fillN_len _ _ _ hj]; exact hlt))
      have x1 := free_blk hb j
      have h2 := blk_setCell (o := j) hb (.int .u8 v)
      rw [row8_set _ _ _ (by rw [fillN_len _ _ _ hj]; exact hlt), fillN_set N j v hlt] at h2
      have H2 := Lib.hid h2
      have hs1 := HB1.out.size
      have HB := Lib.hid (hB.setCell (p := ⟨w1.heap.size, j, none⟩) hs1 (.int .u8 v))
      clear hb hB h2
      go_wp2_with fail
      go_roundw
      case rel => exact ⟨j + 1, by omega, by go_num, H2.out, HB.out⟩
      case measure => simp [intOf]; omega
    · have HB := Lib.hid hB
      clear hb hB
      go_wp2_with (first | (go_at_call 14; refine (cut_long _ _ _ _ hn).mono ?_; rintro e w2 ⟨rfl, rfl⟩) | (go_at_call 16; refine (num18_any _ _).mono ?_; rintro e w' ⟨rfl, rfl⟩))
      (try simp only [Exit.inBlock, Exit.then])
      go_ret
      exact ⟨rfl, HB.out⟩

set_option maxRecDepth 100000 in
set_option maxHeartbeats 2000000 in
theorem ends_main (N : Nat) (v : Int) (w : World) (hn : N ≤ 2048) (h0 : 0 < N) :
    Calls Try.prog 4 #[.int .i64 (N : Int), .int .u8 v] w fun e w' => e = .returned (.bool true) ∧ Below w.heap.size w w' := by
  have hmk := mk8 N (by omega)
  have HMK := Lib.hid hmk
  go_enter Try.func4, Try.ntmps4
  go_wp2_with (go_at_call 13; refine (alive18_any _).mono ?_; rintro e w1 ⟨rfl, hb1⟩; have HB1 := Lib.hid hb1; clear hb1)
  have hb0 : (w1.alloc (.cells (row8 (zeros N) []) 5)).heap[w1.heap.size]? = some (.cells (row8 (fillN N 0 v) []) 5 (0, 0)) := blk_new _ _
  have HB0 := Lib.hid hb0
  have HBA := Lib.hid ((HB1.out).alloc HB1.out.size (.cells (row8 (zeros N) []) 5))
  clear hb0
  go_loopw [7] (fun i wr => ∃ j : Nat, j ≤ N ∧ i = .int .i64 j ∧ wr.heap[w1.heap.size]? = some (.cells (row8 (fillN N j v) []) 5 (0, 0)) ∧ Below w.heap.size w wr) (fun i _ => N - (intOf i).toNat)
  case atStart => exact ⟨0, Nat.zero_le _, rfl, HB0.out, HBA.out⟩
  case round =>
    obtain ⟨j, hj, rfl, hb, hB⟩ := hrel
    by_cases hlt : j < N
    · have x0 : wr.cell? ⟨w1.heap.size, j, none⟩ = _ := (cell_blk hb j).trans (row8_get _ _ _ (by rw [fillN_len _ _ _ hj]; exact hlt))
      have x1 := free_blk hb j
      have h2 := blk_setCell (o := j) hb (.int .u8 v)
      rw [row8_set _ _ _ (by rw [fillN_len _ _ _ hj]; exact hlt), fillN_set N j v hlt] at h2
      have H2 := Lib.hid h2
      have hs1 := HB1.out.size
      have HB := Lib.hid (hB.setCell (p := ⟨w1.heap.size, j, none⟩) hs1 (.int .u8 v))
      clear hb hB h2
      go_wp2_with fail
      go_roundw
      case rel => exact ⟨j + 1, by omega, by go_num, H2.out, HB.out⟩
      case measure => simp [intOf]; omega
    · have ej : j = N := by omega
      have hfe : fillN N j v = List.replicate N v := by rw [ej]; simp [fillN]
      rw [hfe] at hb
      have hsr := src_blk hb
      rw [List.length_replicate] at hsr
      have HC := Lib.hid (cut_any (some ⟨w1.heap.size, 0, none⟩) N N (List.replicate N v) wr hsr (Nat.le_refl _) hn)
      have HB := Lib.hid hB
      obtain ⟨m, hm⟩ : ∃ m, m = nblk N := ⟨_, rfl⟩
      obtain ⟨L, hL⟩ : ∃ L, L = cutL (List.replicate N v) := ⟨_, rfl⟩
      rw [← hL] at HC
      have hLen : L.length = m := by rw [hL, cutL_len, List.length_replicate, hm]
      have hm64 : m ≤ 64 := by rw [hm]; unfold nblk; split <;> omega
      have hq : ((N : Int) + 63) / 64 = (m : Int) := by rw [hm]; unfold nblk; rw [if_neg (by omega)]; omega
      have hLg : ∀ i, i < m → L.getD i [] = chunk (List.replicate N v) i := fun i hi => by rw [hL]; exact cutL_at _ i (by rw [List.length_replicate, ← hm]; exact hi)
      have HLEN := Lib.hid hLen
      have HLG := Lib.hid hLg
      clear hb hB hfe hsr hm hLen ej hL hLg
      go_wp2_with (first | (go_at_call 14; refine HC.out.mono ?_; rintro e w2 ⟨v2, rfl, ho2, hb2⟩; have HO2 := Lib.hid ho2; have HB2 := Lib.hid (HB.out.trans (hb2.mono HB.out.size)); obtain ⟨sa, cl, hv2, -, -, -⟩ := ho2.form; rw [HLEN.out] at hv2; subst hv2; clear ho2 hb2) | (go_at_call 16; refine (num18_any _ _).mono ?_; rintro e w' ⟨rfl, rfl⟩))
      obtain ⟨sa', cl', hve, -, hat⟩ := HO2.out.at
      rw [HLEN.out] at hve hat
      cases hve
      have HAT := Lib.hid hat
      clear hat HO2
      go_loopw [11] (fun i wr => ∃ j : Nat, j ≤ m ∧ i = .int .i64 j ∧ wr = w2) (fun i _ => m - (intOf i).toNat)
      case atStart => exact ⟨0, Nat.zero_le _, rfl, rfl⟩
      case round =>
        obtain ⟨j2, hj2, rfl, rfl⟩ := hrel
        by_cases hlt2 : j2 < m
        · obtain ⟨ad, g, ci, sp, rfl, x0, hg, hci, -⟩ := HAT.out j2 hlt2
          have hlen : (L.getD j2 []).length = 64 := by rw [HLG.out j2 hlt2, chunk_len]
          rw [hlen] at x0 hci
          have HG := Lib.hid hg
          have HLN := Lib.hid hlen
          clear hg hlen
          go_wp2_with fail
          go_loopw [12] (fun i w9 => ∃ k : Nat, k ≤ 64 ∧ i = .int .i64 k ∧ w9 = wr) (fun i _ => 64 - (intOf i).toNat)
          case atStart => exact ⟨0, Nat.zero_le _, rfl, rfl⟩
          case round =>
            obtain ⟨k, hk, rfl, rfl⟩ := hrel
            by_cases hlt3 : k < 64
            · have y0 := (cell_blk HG.out k).trans (row8_get _ _ _ (by rw [HLN.out]; exact hlt3))
              rw [HLG.out j2 hlt2, chunk_rep N v j2 k hlt3] at y0
              by_cases hin : 64 * j2 + k < N
              · rw [if_pos hin] at y0
                go_wp2_with fail
                go_roundw
                case rel => exact ⟨k + 1, by omega, by go_num, by first | rfl | trivial⟩
                case measure => simp [intOf]; omega
              · rw [if_neg hin] at y0
                go_wp2_with fail
                go_roundw
                case rel => exact ⟨k + 1, by omega, by go_num, by first | rfl | trivial⟩
                case measure => simp [intOf]; omega
            · go_wp2_with fail
              go_roundw
              case rel => exact ⟨j2 + 1, by omega, by go_num, by first | rfl | trivial⟩
              case measure => simp [intOf]; omega
        · go_wp2_with fail
          (try simp only [Exit.inBlock, Exit.then])
          go_ret
          exact ⟨rfl, HB2.out⟩

set_option maxRecDepth 100000 in
set_option maxHeartbeats 2000000 in
theorem ends_zero (v : Int) (w : World) :
    Calls Try.prog 4 #[.int .i64 0, .int .u8 v] w fun e w' => e = .returned (.bool true) ∧ Below w.heap.size w w' := by
  have hmk : ∀ w : World, (Instr.makeSlice 22 (.int .i64 0) (.int .i64 0)).run Try.prog w = .ok (.slice (some ⟨w.heap.size, 0, none⟩) 0 0) (w.alloc (.cells (row8 (zeros 0) []) 5)) := mk8 0 (by omega)
  go_enter Try.func4, Try.ntmps4
  go_wp2_with (go_at_call 13; refine (alive18_any _).mono ?_; rintro e w1 ⟨rfl, hb1⟩; have HB1 := Lib.hid hb1; clear hb1)
  have HBA := Lib.hid ((HB1.out).alloc HB1.out.size (.cells (row8 (zeros 0) []) 5))
  generalize w1.alloc (.cells (row8 (zeros 0) []) 5) = wa at HBA ⊢
  go_loopw [7] (fun i wr => i = .int .i64 0 ∧ wr = wa) (fun _ _ => 0)
  case atStart => exact ⟨rfl, rfl⟩
  case round =>
    obtain ⟨rfl, rfl⟩ := hrel
    have HC := Lib.hid (cut_none (some ⟨w1.heap.size, 0, none⟩) 0 wr)
    go_wp2_with (first | (go_at_call 14; refine HC.out.mono ?_; rintro e w2 ⟨v2, rfl, ho2, hb2⟩; have HO2 := Lib.hid ho2; have HB2 := Lib.hid (HBA.out.trans (hb2.mono HBA.out.size)); obtain ⟨sa, cl, hv2, -, -, -⟩ := ho2.form; rw [show [zeros 64].length = 1 from rfl] at hv2; subst hv2; clear ho2 hb2) | (go_at_call 16; refine (num18_any _ _).mono ?_; rintro e w' ⟨rfl, rfl⟩))
    obtain ⟨sa', cl', hve, -, hat⟩ := HO2.out.at
    rw [show [zeros 64].length = 1 from rfl] at hve hat
    cases hve
    have HAT := Lib.hid hat
    clear hat HO2
    go_loopw [11] (fun i wr => ∃ j : Nat, j ≤ 1 ∧ i = .int .i64 j ∧ wr = w2) (fun i _ => 1 - (intOf i).toNat)
    case atStart => exact ⟨0, Nat.zero_le _, rfl, rfl⟩
    case round =>
      obtain ⟨j2, hj2, rfl, rfl⟩ := hrel
      by_cases hlt2 : j2 < 1
      · obtain ⟨ad, g, ci, sp, rfl, x0, hg, hci, -⟩ := HAT.out j2 hlt2
        have hlen : ([zeros 64].getD j2 []).length = 64 := by rw [show j2 = 0 by omega]; simp [zeros]
        rw [hlen] at x0 hci
        have HG := Lib.hid hg
        have HLN := Lib.hid hlen
        clear hg hlen
        go_wp2_with fail
        go_loopw [12] (fun i w9 => ∃ k : Nat, k ≤ 64 ∧ i = .int .i64 k ∧ w9 = wr) (fun i _ => 64 - (intOf i).toNat)
        case atStart => exact ⟨0, Nat.zero_le _, rfl, rfl⟩
        case round =>
          obtain ⟨k, hk, rfl, rfl⟩ := hrel
          by_cases hlt3 : k < 64
          · have y0 := (cell_blk HG.out k).trans (row8_get _ _ _ (by rw [HLN.out]; exact hlt3))
            rw [show ([zeros 64].getD j2 []).getD k 0 = if 64 * j2 + k < 0 then v else 0 from (by rw [if_neg (Nat.not_lt_zero _), show j2 = 0 by omega]; exact zeros_get 64 k)] at y0
            rw [if_neg (Nat.not_lt_zero _)] at y0
            go_wp2_with fail
            go_roundw
            case rel => exact ⟨k + 1, by omega, by go_num, by first | rfl | trivial⟩
            case measure => simp [intOf]; omega
          · go_wp2_with fail
            go_roundw
            case rel => exact ⟨j2 + 1, by omega, by go_num, by first | rfl | trivial⟩
            case measure => simp [intOf]; omega
      · go_wp2_with fail
        (try simp only [Exit.inBlock, Exit.then])
        go_ret
        exact ⟨rfl, HB2.out⟩

theorem ends_any (n v : Int) (w : World) (hn : -9223372036854775808 ≤ n) :
    Calls Try.prog 4 #[.int .i64 n, .int .u8 v] w fun e w' => e = .returned (.bool true) ∧ Below w.heap.size w w' := by
  by_cases hf : n < 0 ∨ 3000 < n
  · go_enter Try.func4, Try.ntmps4
    rcases hf with hf | hf
    · go_wp2_with (go_at_call 13; refine (alive18_any _).mono ?_; rintro e w1 ⟨rfl, hb1⟩; have HB1 := Lib.hid hb1; clear hb1)
      go_ret
      exact ⟨rfl, HB1.out⟩
    · go_wp2_with (go_at_call 13; refine (alive18_any _).mono ?_; rintro e w1 ⟨rfl, hb1⟩; have HB1 := Lib.hid hb1; clear hb1)
      go_ret
      exact ⟨rfl, HB1.out⟩
  · obtain ⟨N, rfl⟩ := Int.eq_ofNat_of_zero_le (show 0 ≤ n by omega)
    rcases Nat.eq_zero_or_pos N with h0 | h0
    · subst h0
      exact ends_zero v w
    · rcases Nat.lt_or_ge 2048 N with h1 | h1
      · exact ends_long N v w h1 (by omega)
      · exact ends_main N v w h1 h0

end Go.Proofs.Ytdaaigodpglnnaa
