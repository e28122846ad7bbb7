/- aead.rest, aead.eight, mac.Same, the document's filled and length. Conditions: at most 2^40 bytes. -/
import Derived.Test.YtdaaigodpglnnaaAeP
import Derived.Test.YtdaaigodpglnnaaSrcA
import Derived.Deep.LoopGhost
import Derived.BigRegion
namespace Go.Proofs.Ytdaaigodpglnnaa.Ae
open Go.RowKit Lm Po Ch

theorem byte_of (n i : Nat) : IntKind.u8.wrap ((n : Int) / 2 ^ (8 * i)) = ((n / 256 ^ i % 256 : Nat) : Int) := by
  rw [IntKind.wrap_u8, show (256 : Nat) ^ i = 2 ^ (8 * i) by rw [Nat.pow_mul], Int.natCast_emod, Int.natCast_ediv, Int.natCast_pow]
  rfl

set_option maxRecDepth 100000 in
theorem rest_any (n : Nat) (hn : n ≤ 1099511627776) (w : World) :
    Calls Try.prog 57 #[.int .i64 (n : Int)] w fun e w' => ∃ sa, e = .returned (.slice sa (zr n) (zr n)) ∧ Src w' sa (zr n) (List.replicate (zr n) 0) ∧ Below w.heap.size w w' := by
  have e1 : (16 - (n : Int) % 16) % 16 = ((zr n : Nat) : Int) := by unfold zr; omega
  have hz : zr n < 16 := Nat.mod_lt _ (by decide)
  generalize zr n = z at e1 hz ⊢
  have hmk := mk8 z (by omega)
  have HZ := Lib.hid hz
  clear hz
  go_enter Try.func57, Try.ntmps57
  go_wp2
  go_ret
  refine ⟨_, rfl, ?_, (Below.refl _ w).alloc (Nat.le_refl _) _⟩
  have := src_blk (w := w.alloc (.cells (row8 (zeros z) []) 5)) (blk_new w _)
  simpa [zeros] using this

set_option maxRecDepth 100000 in
set_option maxHeartbeats 1000000 in
theorem eight_any (n : Nat) (w : World) :
    Calls Try.prog 58 #[.int .i64 (n : Int)] w fun e w' => ∃ sa, e = .returned (.slice sa 8 8) ∧ Src w' sa 8 (le8 n) ∧ Below w.heap.size w w' := by
  have hmk := mk8 8 (by decide)
  obtain ⟨F, hF⟩ : ∃ F : Nat → Nat, F = fun i => n / 256 ^ i % 256 := ⟨_, rfl⟩
  obtain ⟨z8, hz8⟩ : ∃ z, z = zeros 8 := ⟨_, rfl⟩
  have hz0 : z8 = nar (upto F 8 0) := by rw [upto_zero, nar_zeros, hz8]; rfl
  rw [← hz8] at hmk
  have hb : ∀ i, IntKind.u8.wrap ((n : Int) / 2 ^ (8 * i)) = ((F i : Nat) : Int) := fun i => by rw [hF]; exact byte_of n i
  have hend : nar (upto F 8 8) = le8 n := by rw [le8, dig_upto, hF]
  have b0 := blk_new w (.cells (row8 z8 []) 5)
  have w0 : Below w.heap.size w (w.alloc (.cells (row8 z8 []) 5)) := (Below.refl _ w).alloc (Nat.le_refl _) _
  have B0 := Lib.hid b0
  have W0 := Lib.hid w0
  have HZ := Lib.hid hz0
  have HB := Lib.hid hb
  have HE := Lib.hid hend
  clear b0 w0 hz0 hb hend hz8 hF
  have hmk2 : ∀ w : World, (Instr.makeSlice 22 (.int .i64 8) (.int .i64 8)).run Try.prog w = .ok (.slice (some ⟨w.heap.size, 0, none⟩) 8 8) (w.alloc (.cells (row8 z8 []) 5)) := hmk
  clear hmk
  go_enter Try.func58, Try.ntmps58
  go_wp2
  go_loopw [8] (fun v wr => ∃ i : Nat, i ≤ 8 ∧ v = .int .i64 i ∧ wr.heap[w.heap.size]? = some (.cells (row8 (nar (upto F 8 i)) []) 5 (0, 0)) ∧ Below w.heap.size w wr) (fun v _ => 8 - (intOf v).toNat)
  case atStart => exact ⟨0, Nat.zero_le _, rfl, by rw [← HZ.out]; exact B0.out, W0.out⟩
  clear B0 W0
  case round =>
  obtain ⟨i, hi, rfl, hb, hw⟩ := hrel
  by_cases hlt : i < 8
  · have hl : i < (nar (upto F 8 i)).length := by rw [nar_len, upto_len]; exact hlt
    have q2 := (cell_blk hb i).trans (row8_get _ [] i hl)
    have q3 := free_blk hb i
    have hb1 : (wr.setCell ⟨w.heap.size, i, none⟩ (.int .u8 (IntKind.u8.wrap ((n : Int) / 2 ^ (8 * i))))).heap[w.heap.size]? = some (.cells (row8 (nar (upto F 8 (i + 1))) []) 5 (0, 0)) := by
      rw [HB.out, blk_setCell hb, row8_set _ _ _ hl, ← nar_set, upto_set]
    have HB1 := Lib.hid hb1
    have HW1 := Lib.hid (hw.setCell (p := ⟨w.heap.size, i, none⟩) (Nat.le_refl _) (.int .u8 (IntKind.u8.wrap ((n : Int) / 2 ^ (8 * i)))))
    clear hb hw hb1 hl
    go_wp2
    go_roundw
    case rel => exact ⟨i + 1, by omega, by go_num, HB1.out, HW1.out⟩
    case measure => simp [intOf]; omega
  · have ei : i = 8 := by omega
    rw [ei, HE.out] at hb
    have HB1 := Lib.hid hb
    have HW1 := Lib.hid hw
    clear hb hw ei
    go_wp2
    go_ret
    refine ⟨_, rfl, ?_, HW1.out⟩
    have := src_blk HB1.out
    rwa [le8_len] at this

theorem or_zero (a b : Nat) : a ||| b = 0 ↔ a = 0 ∧ b = 0 := by
  constructor
  · intro h
    have h1 : a ≤ a ||| b := Nat.left_le_or
    have h2 : b ≤ a ||| b := Nat.right_le_or
    omega
  · rintro ⟨rfl, rfl⟩; rfl
theorem xor_zero (a b : Nat) : a ^^^ b = 0 ↔ a = b := by
  constructor
  · intro h
    have : a ^^^ b ^^^ b = b := by rw [h, Nat.zero_xor]
    rwa [Nat.xor_assoc, Nat.xor_self, Nat.xor_zero] at this
  · rintro rfl; exact Nat.xor_self _
theorem orx (o x y : Int) (ho : 0 ≤ o ∧ o ≤ 255) (hx : 0 ≤ x ∧ x ≤ 255) (hy : 0 ≤ y ∧ y ≤ 255) :
    (0 ≤ bits .or .u8 o (bits .xor .u8 x y) ∧ bits .or .u8 o (bits .xor .u8 x y) ≤ 255) ∧ (bits .or .u8 o (bits .xor .u8 x y) = 0 ↔ o = 0 ∧ x = y) := by
  obtain ⟨a, rfl⟩ : ∃ a : Nat, o = a := ⟨o.toNat, by omega⟩
  obtain ⟨b, rfl⟩ : ∃ a : Nat, x = a := ⟨x.toNat, by omega⟩
  obtain ⟨c, rfl⟩ : ∃ a : Nat, y = a := ⟨y.toNat, by omega⟩
  have ha : a < 2 ^ 8 := by omega
  have hb : b < 2 ^ 8 := by omega
  have hc : c < 2 ^ 8 := by omega
  have hbc := Nat.xor_lt_two_pow hb hc
  have hor := Nat.or_lt_two_pow ha hbc
  have k : ∀ a : Nat, a < 2 ^ 8 → (BitVec.ofInt 8 (a : Int)).toNat = a := fun a h => by rw [BitVec.ofInt_natCast, BitVec.toNat_ofNat]; exact Nat.mod_eq_of_lt h
  have e1 : bits .xor .u8 (b : Int) (c : Int) = ((b ^^^ c : Nat) : Int) := by
    show IntKind.u8.wrap ((BitVec.ofInt 8 (b : Int) ^^^ BitVec.ofInt 8 (c : Int)).toNat : Int) = _
    rw [BitVec.toNat_xor, k b hb, k c hc, IntKind.wrap_u8]
    omega
  have e2 : bits .or .u8 (a : Int) ((b ^^^ c : Nat) : Int) = ((a ||| (b ^^^ c) : Nat) : Int) := by
    show IntKind.u8.wrap ((BitVec.ofInt 8 (a : Int) ||| BitVec.ofInt 8 ((b ^^^ c : Nat) : Int)).toNat : Int) = _
    rw [BitVec.toNat_or, k a ha, k _ hbc, IntKind.wrap_u8]
    omega
  rw [e1, e2]
  refine ⟨by omega, ?_⟩
  have h1 := or_zero a (b ^^^ c)
  have h2 := xor_zero b c
  omega

set_option maxRecDepth 100000 in
set_option maxHeartbeats 1000000 in
theorem same_any' (sa sb : Option Addr) (n m c d : Nat) (xs ys : List Int) (w : World) (hs : Src w sa n xs) (ht : Src w sb m ys) (bx : bytes xs) (bb : bytes ys) (hn : n ≤ 1099511627776) :
    Calls Try.prog 36 #[.slice sa n c, .slice sb m d] w fun e w' => e = .returned (.bool (decide (xs = ys))) ∧ Below w.heap.size w w' := by
  have hxl := hs.len
  have hyl := ht.len
  by_cases hnm : n = m
  · have e0 : ((n : Int) != (m : Int)) = false := by rw [hnm]; simp
    obtain ⟨bv, hbv⟩ : ∃ b, b = decide (xs = ys) := ⟨_, rfl⟩
    rw [← hbv]
    have HBV := Lib.hid hbv
    have HS := Lib.hid hs
    have HT := Lib.hid ht
    have BX := Lib.hid bx
    have BB := Lib.hid bb
    have HXL := Lib.hid hxl
    have HYL := Lib.hid hyl
    have HNM := Lib.hid hnm
    clear hbv hs ht bx bb hxl hyl hnm
    go_enter Try.func36, Try.ntmps36
    go_wp2_with fail
    go_loopw [5, 14] (fun ov iv wr => ∃ (i : Nat) (o : Int), i ≤ n ∧ iv = .int .i64 i ∧ ov = .int .u8 o ∧ (0 ≤ o ∧ o ≤ 255) ∧ (o = 0 ↔ xs.take i = ys.take i) ∧ Below w.heap.size w wr) (fun _ iv _ => n - (intOf iv).toNat)
    case atStart => exact ⟨0, 0, Nat.zero_le _, rfl, rfl, ⟨by decide, by decide⟩, by simp, Below.refl _ w⟩
    case round =>
    obtain ⟨i, o, hi, rfl, rfl, ho, hoe, hw⟩ := hrel
    by_cases hlt : i < n
    · obtain ⟨ad, rfl, hc⟩ := HS.out.cell i hlt
      obtain ⟨ad2, rfl, hd⟩ := HT.out.cell i (by rw [← HNM.out]; exact hlt)
      have x0 := below_cell hw hc
      have x1 := below_cell hw hd
      have b0 := bytes_at BX.out i
      have b1 := bytes_at BB.out i
      obtain ⟨k1, k2⟩ := orx o _ _ ho b0 b1
      have hst : bits .or .u8 o (bits .xor .u8 (xs.getD i 0) (ys.getD i 0)) = 0 ↔ xs.take (i + 1) = ys.take (i + 1) := by
        rw [k2, hoe, take_snoc xs i 0 (by rw [HXL.out]; exact hlt), take_snoc ys i 0 (by rw [HYL.out, ← HNM.out]; exact hlt)]
        constructor
        · rintro ⟨h1, h2⟩; rw [h1, h2]
        · intro h
          have hl : (xs.take i).length = (ys.take i).length := by rw [List.length_take, List.length_take, HXL.out, HYL.out, HNM.out]
          have := List.append_inj h hl
          exact ⟨this.1, by simpa using this.2⟩
      generalize xs.getD i 0 = x at x0 b0 hst k1
      generalize ys.getD i 0 = y at x1 b1 hst k1
      have K1 := Lib.hid k1
      have HST := Lib.hid hst
      have HW := Lib.hid hw
      have hlt2 : (i : Int) < (m : Int) := by have := HNM.out; omega
      clear k1 k2 hst hw hoe hc hd ho b0 b1
      go_wp2_with fail
      go_region
      clear x0 x1 hlt2
      go_wp2_with fail
      go_roundw
      case rel => exact ⟨i + 1, _, by omega, by go_num, rfl, K1.out, HST.out, ⟨HW.out.os, HW.out.tape, HW.out.output, HW.out.size, HW.out.block⟩⟩
      case measure => simp [intOf]; omega
    · have ei : i = n := by omega
      rw [ei, List.take_of_length_le (by rw [HXL.out]; exact Nat.le_refl _), List.take_of_length_le (by rw [HYL.out, HNM.out]; exact Nat.le_refl _)] at hoe
      have hfin : (o == 0) = bv := by
        rw [HBV.out]
        by_cases h : xs = ys
        · rw [hoe.2 h, decide_eq_true h]; rfl
        · rw [decide_eq_false h, beq_eq_false_iff_ne]; exact fun h0 => h (hoe.1 h0)
      have HW := Lib.hid hw
      have HFIN := Lib.hid hfin
      clear hoe ei hfin hw
      go_wp2_with fail
      go_ret
      exact ⟨by rw [← HFIN.out]; rfl, HW.out⟩
  · have e0 : ((n : Int) != (m : Int)) = true := by simp; omega
    have hne : decide (xs = ys) = false := by
      rw [decide_eq_false_iff_not]; intro h; apply hnm; rw [← hxl, ← hyl, h]
    rw [hne]
    clear hs ht bx bb hxl hyl hnm hne
    go_enter Try.func36, Try.ntmps36
    go_wp2_with fail
    go_ret
    exact ⟨rfl, Below.refl _ w⟩
end Go.Proofs.Ytdaaigodpglnnaa.Ae
