/- portcullislaw18.alive and ImageCuts: what they answer. Condition: the bytes lie there, within their capacity. -/
import Derived.Test.YtdaaigodpglnnaaImgA
namespace Go.Proofs.Ytdaaigodpglnnaa
open Go.RowKit

theorem cutL_len (xs : List Int) : (cutL xs).length = nblk xs.length := by simp [cutL]
theorem cutL_at (xs : List Int) (i : Nat) (h : i < nblk xs.length) : (cutL xs).getD i [] = chunk xs i := by simp [cutL, List.getD, h]

set_option maxRecDepth 100000 in
set_option maxHeartbeats 1000000 in
theorem alive18_any (w : World) : Calls Try.prog 13 #[] w fun e w' => e = .returned (.bool true) ∧ Below w.heap.size w w' := by
  have hmk : ∀ w : World, (Instr.makeSlice 22 (.int .i64 65) (.int .i64 65)).run Try.prog w = .ok (.slice (some ⟨w.heap.size, 0, none⟩) 65 65) (w.alloc (.cells (row8 (zeros 65) []) 5)) := mk8 65 (by omega)
  have hs := src_blk (blk_new w (.cells (row8 (zeros 65) []) 5))
  have hlen : (cutL (zeros 65)).length = 2 := by rw [cutL_len]; simp [zeros, nblk]
  have HC := Lib.hid (cut_any (some ⟨w.heap.size, 0, none⟩) 65 65 (zeros 65) _ hs (Nat.le_refl _) (by omega))
  have HLEN := Lib.hid hlen
  have HBW := Lib.hid ((Below.refl _ w).alloc (Nat.le_refl _) (.cells (row8 (zeros 65) []) 5))
  clear hs hlen
  go_enter Try.func13, Try.ntmps13
  go_wp2_with (first | (go_at_call 14; refine HC.out.mono ?_; rintro e w1 ⟨v, rfl, ho, hb⟩; obtain ⟨sa, c, hv, -⟩ := ho.form; rw [HLEN.out] at hv; subst hv; have HB := Lib.hid hb; clear ho hb) | (go_at_call 16; refine (num18_any _ _).mono ?_; rintro e w' ⟨rfl, rfl⟩))
  go_ret
  exact ⟨rfl, HBW.out.trans (HB.out.mono HBW.out.size)⟩

/-- The blocks, one behind the other, begin as the bytes do. -/
theorem cut_flat (xs : List Int) : ∀ k, k ≤ nblk xs.length → ((cutN xs k).flatten).length = 64 * k ∧ ((cutN xs k).flatten).take (min (64 * k) xs.length) = xs.take (64 * k) := by
  intro k
  induction k with
  | zero => intro _; simp [cutN]
  | succ k ih =>
    intro hk
    obtain ⟨h1, h2⟩ := ih (by omega)
    rw [cutN_succ, List.flatten_append]
    have e : [chunk xs k].flatten = chunk xs k := by simp
    rw [e]
    have hkl : 64 * k ≤ xs.length := by
      unfold nblk at hk
      split at hk
      · omega
      · omega
    refine ⟨by rw [List.length_append, h1, chunk_len]; omega, ?_⟩
    rw [Nat.min_eq_left hkl] at h2
    rw [List.take_append, h1]
    have h3 : (cutN xs k).flatten.take (min (64 * (k + 1)) xs.length) = (cutN xs k).flatten := List.take_of_length_le (by rw [h1]; omega)
    have h4 : (cutN xs k).flatten = xs.take (64 * k) := by
      rw [← h2, List.take_of_length_le (by omega)]
    rw [h3, h4]
    unfold chunk
    rw [List.take_append_of_le_length (by simp; omega), List.take_take]
    have e2 : min (min (64 * (k + 1)) xs.length - 64 * k) 64 = min (64 * (k + 1)) xs.length - 64 * k := by omega
    rw [e2]
    have e3 : xs.take (64 * (k + 1)) = xs.take (min (64 * (k + 1)) xs.length) := by
      rcases Nat.le_total (64 * (k + 1)) xs.length with h | h
      · rw [Nat.min_eq_left h]
      · rw [Nat.min_eq_right h, List.take_of_length_le (Nat.le_refl _), List.take_of_length_le h]
    rw [e3]
    have e4 : min (64 * (k + 1)) xs.length = 64 * k + (min (64 * (k + 1)) xs.length - 64 * k) := by omega
    rw [e4, List.take_add]
    congr 2
    omega
theorem cut_all (xs : List Int) : xs.length ≤ ((cutL xs).flatten).length ∧ ((cutL xs).flatten).take xs.length = xs := by
  obtain ⟨h1, h2⟩ := cut_flat xs (nblk xs.length) (Nat.le_refl _)
  have hn : xs.length ≤ 64 * nblk xs.length := by unfold nblk; split <;> omega
  rw [Nat.min_eq_right hn, List.take_of_length_le hn] at h2
  have e : cutL xs = cutN xs (nblk xs.length) := rfl
  rw [e]
  exact ⟨by omega, h2⟩

set_option maxRecDepth 100000 in
set_option maxHeartbeats 2000000 in
theorem cuts_main (a : Option Addr) (n c : Nat) (xs : List Int) (w : World) (hs : Src w a n xs) (hc : n ≤ c) (hn : n ≤ 2048) :
    Calls Try.prog 3 #[.slice a n c] w fun e w' => e = .returned (.bool true) ∧ Below w.heap.size w w' := by
  have hl := hs.len
  have HS := Lib.hid hs
  have HL := Lib.hid hl
  have HC := Lib.hid hc
  have hll : (cutL xs).length ≤ 64 := by rw [cutL_len, hl]; unfold nblk; split <;> omega
  have HLL := Lib.hid hll
  clear hs hl hll hc
  go_enter Try.func3, Try.ntmps3
  go_wp2_with (first | (go_at_call 13; refine (alive18_any _).mono ?_; rintro e w1 ⟨rfl, hb1⟩; have HB1 := Lib.hid hb1; clear hb1) | (go_at_call 14; refine (cut_any a n c xs _ (HS.out.below HB1.out) HC.out hn).mono ?_; rintro e w2 ⟨v2, rfl, ho2, hb2⟩; have HO2 := Lib.hid ho2; have HB2 := Lib.hid (HB1.out.trans (hb2.mono HB1.out.size)); clear ho2 hb2) | (go_at_call 15; refine (rcut_any a n c xs _ (HS.out.below HB2.out) HC.out hn).mono ?_; rintro e w3 ⟨v3, rfl, ho3, hb3⟩; have HO3 := Lib.hid ho3; have HO2' := Lib.hid (HO2.out.below hb3); have HB3 := Lib.hid (HB2.out.trans (hb3.mono HB2.out.size)); clear ho3 hb3) | (go_at_call 16; refine (num18_any _ _).mono ?_; rintro e w' ⟨rfl, rfl⟩) | (go_at_call 17; refine (same_any _ _ _ _ _ _ HO2'.out HO3.out (by have := HLL.out; omega)).mono ?_; rintro e w4 ⟨rfl, k4, rfl⟩))
  obtain ⟨sa, cl, hv2, -, -, -⟩ := HO2'.out.form
  subst hv2
  have ho2 := HO2'.out
  obtain ⟨L, hL⟩ : ∃ L, L = cutL xs := ⟨_, rfl⟩
  obtain ⟨m, hm⟩ : ∃ m, m = L.length := ⟨_, rfl⟩
  rw [← hL, ← hm] at ho2 ⊢
  obtain ⟨sa', cl', hve, -, hat⟩ := ho2.at
  rw [← hm] at hve hat
  cases hve
  have hm64 : m ≤ 64 := by rw [hm, hL]; exact HLL.out
  have hLf : L.flatten.length = 64 * m := by
    rw [hm, hL, cutL_len]
    exact (cut_flat xs (nblk xs.length) (Nat.le_refl _)).1
  have h64 : ∀ j, j < m → (L.getD j []).length = 64 := by
    intro j hj
    rw [hL, cutL_at xs j (by rw [hm, hL, cutL_len] at hj; exact hj), chunk_len]
  have HAT := Lib.hid hat
  have HLF := Lib.hid hLf
  have HM := Lib.hid hm
  have HLE := Lib.hid hL
  have H64 := Lib.hid h64
  have HO := Lib.hid ho2
  clear hat hLf hm hL h64 ho2 HO2 HO3 HO2'
  have hB0 : Below w3.heap.size w3 (w3.drewN k4) := Below.drewN (Below.refl _ _) _
  go_loopw [8, 9] (fun v i wr => ∃ j : Nat, j ≤ m ∧ i = .int .i64 j ∧ Own8 wr w3.heap.size v (L.take j).flatten ∧ Below w3.heap.size w3 wr) (fun _ i _ => m - (intOf i).toNat)
  case atStart => exact ⟨0, Nat.zero_le _, rfl, Own8.nil _ _, hB0⟩
  case round =>
    obtain ⟨j, hj, rfl, hO, hB⟩ := hrel
    by_cases hlt : j < m
    · obtain ⟨ad, g, ci, sp, rfl, hc, hg, -, -⟩ := HAT.out j hlt
      have x0 := below_cell hB hc
      have hsi' := src_blk (Below.blk hB hg (blk_lt hg))
      have hfl := flat_le L j (by rw [← HM.out]; exact hlt)
      rw [HLF.out] at hfl
      have HFS := Lib.hid (flat_snoc L j (by rw [← HM.out]; exact hlt))
      obtain ⟨va, vc, hv, -⟩ := hO.form
      obtain ⟨T, hT⟩ : ∃ T, T = (L.take j).flatten := ⟨_, rfl⟩
      obtain ⟨l, hlj⟩ : ∃ l, l = L.getD j [] := ⟨_, rfl⟩
      rw [← hlj] at x0 hsi' hfl HFS
      rw [← hT] at hO hv hfl HFS
      subst hv
      obtain ⟨mm, hmm⟩ : ∃ mm, mm = l.length := ⟨_, rfl⟩
      obtain ⟨t, ht⟩ : ∃ t, t = T.length := ⟨_, rfl⟩
      rw [← hmm] at x0 hsi' hfl
      rw [← ht] at hO hfl ⊢
      have HTL := Lib.hid ht.symm
      have HO9 := Lib.hid hO
      have HSI := Lib.hid hsi'
      have HB := Lib.hid hB
      clear hO hsi' hB hc hg hT hlj hmm ht
      go_wp2_with ((with_reducible show wpList _ _ _ (Oper.mk (some 50) _ _ _ _ _ :: _) _ _); refine wpList_app8 rfl (.tmp 45) (.tmp 49) rfl w3.heap.size (.slice va t vc) T rfl HO9.out _ mm ci l rfl HSI.out (by rw [HTL.out]; omega) HB.out.size ?_; intro v6 w6 ho6 hg6 hn6 hb6; have HO6 := Lib.hid ho6; have HG6 := Lib.hid hg6; clear ho6 hg6 hn6 hb6)
      go_roundw
      case rel => exact ⟨j + 1, by omega, by go_num, by rw [HFS.out]; exact HO6.out, app8_below HO9.out HG6.out HB.out HB.out.size⟩
      case measure => simp [intOf]; omega
    · have ej : L.take j = L := List.take_of_length_le (by rw [← HM.out]; omega)
      rw [ej] at hO
      obtain ⟨va, vc, hv, hvc, -, hsv, -⟩ := hO.form
      rw [HLF.out] at hv hsv hvc
      subst hv
      have hca := cut_all xs
      rw [← HLE.out, HLF.out, HL.out] at hca
      have hs2 := Src.take hsv n hca.1
      rw [hca.2] at hs2
      have hs3 := (HS.out.below HB3.out).below hB
      have q1 : ∀ k, (convert 22 9 (.slice va n vc)).run Try.prog (wr.drewN k) = .ok (.string (strOfNums xs)) (wr.drewN k) := fun k => src_string (w := wr.drewN k) (h := hs2.below (Below.drewN (Below.refl _ wr) k))
      have q2 : ∀ k, (convert 22 9 (.slice a n c)).run Try.prog (wr.drewN k) = .ok (.string (strOfNums xs)) (wr.drewN k) := fun k => src_string (w := wr.drewN k) (h := hs3.below (Below.drewN (Below.refl _ wr) k))
      have hge : n ≤ 64 * m := hca.1
      have hgb : decide ((n : Int) ≤ 64 * (m : Int)) = true := by simp; omega
      have HBF := Lib.hid (HB3.out.trans (hB.mono HB3.out.size))
      clear hO hB ej hsv hca hs2 hs3 HAT HO
      generalize strOfNums xs = S at q1 q2
      go_wp2_with fail
      go_quiet (fail)
      go_wp2_with fail
      go_ret
      exact ⟨rfl, Below.drewN HBF.out _⟩

set_option maxRecDepth 100000 in
set_option maxHeartbeats 1000000 in
theorem cuts_long (a : Option Addr) (n c : Nat) (w : World) (hn : 2048 < n) (hn2 : n ≤ 5000) :
    Calls Try.prog 3 #[.slice a n c] w fun e w' => e = .returned (.bool true) ∧ Below w.heap.size w w' := by
  go_enter Try.func3, Try.ntmps3
  go_wp2_with (first | (go_at_call 13; refine (alive18_any _).mono ?_; rintro e w1 ⟨rfl, hb1⟩; have HB1 := Lib.hid hb1; clear hb1) | (go_at_call 14; refine (cut_long a n c _ hn).mono ?_; rintro e w2 ⟨rfl, rfl⟩) | (go_at_call 15; refine (rcut_long a n c _ hn).mono ?_; rintro e w3 ⟨rfl, rfl⟩) | (go_at_call 16; refine (num18_any _ _).mono ?_; rintro e w' ⟨rfl, rfl⟩) | (go_at_call 17; refine (same_any 0 0 _ _ [] _ (OwnL.nil _ _) (OwnL.nil _ _) (by simp)).mono ?_; rintro e w4 ⟨rfl, k4, rfl⟩))
  go_loopw [9] (fun i wr => i = .int .i64 0 ∧ Below w.heap.size w wr) (fun _ _ => 0)
  case atStart => exact ⟨rfl, Below.drewN HB1.out _⟩
  case round =>
    obtain ⟨rfl, hB⟩ := hrel
    have HB := Lib.hid hB
    clear hB
    go_wp2_with fail
    go_quiet (fail)
    go_wp2_with fail
    go_ret
    exact ⟨rfl, Below.drewN HB.out _⟩

set_option maxRecDepth 100000 in
theorem cuts_far (a : Option Addr) (n c : Nat) (w : World) (hn : 5000 < n) :
    Calls Try.prog 3 #[.slice a n c] w fun e w' => e = .returned (.bool true) ∧ Below w.heap.size w w' := by
  go_enter Try.func3, Try.ntmps3
  go_wp2_with (go_at_call 13; refine (alive18_any _).mono ?_; rintro e w1 ⟨rfl, hb1⟩; have HB1 := Lib.hid hb1; clear hb1)
  go_ret
  exact ⟨rfl, HB1.out⟩

theorem cuts_any (a : Option Addr) (n c : Nat) (zs : List Int) (w : World) (h : RowI .u8 w a n c zs) :
    Calls Try.prog 3 #[.slice a n c] w fun e w' => e = .returned (.bool true) ∧ Below w.heap.size w w' := by
  obtain ⟨h1, _, h3⟩ := h.src
  rcases Nat.lt_or_ge 2048 n with hn | hn
  · rcases Nat.lt_or_ge 5000 n with hm | hm
    · exact cuts_far a n c w hm
    · exact cuts_long a n c w hn hm
  · exact cuts_main a n c _ w h1 h3 hn

end Go.Proofs.Ytdaaigodpglnnaa
