/- mac.Same: are two lists of bytes alike? Condition: at most 2^40 bytes. -/
import Derived.Test.YtoljnogpegemjaaDoorSrcA
import Derived.Deep.LoopGhost
import Derived.BigRegion
namespace Go.Proofs.YtoljnogpegemjaaDoor.Sm
open Go.RowKit

theorem or_zero (a b : Nat) : a ||| b = 0 ↔ a = 0 ∧ b = 0 := by
  constructor
  · intro h
    have h1 : a ≤ a ||| b := Nat.left_le_or
    have h2 : b ≤ a ||| b := Nat.right_le_or
    omega
  · rintro ⟨rfl, rfl⟩; rfl
theorem xor_zero (a b : Nat) : a ^^^ b = 0 ↔ a = b := by
  constructor
  · intro h
    have : a ^^^ b ^^^ b = b := by rw [h, Nat.zero_xor]
    rwa [Nat.xor_assoc, Nat.xor_self, Nat.xor_zero] at this
  · rintro rfl; exact Nat.xor_self _
theorem orx (o x y : Int) (ho : 0 ≤ o ∧ o ≤ 255) (hx : 0 ≤ x ∧ x ≤ 255) (hy : 0 ≤ y ∧ y ≤ 255) :
    (0 ≤ bits .or .u8 o (bits .xor .u8 x y) ∧ bits .or .u8 o (bits .xor .u8 x y) ≤ 255) ∧ (bits .or .u8 o (bits .xor .u8 x y) = 0 ↔ o = 0 ∧ x = y) := by
  obtain ⟨a, rfl⟩ : ∃ a : Nat, o = a := ⟨o.toNat, by omega⟩
  obtain ⟨b, rfl⟩ : ∃ a : Nat, x = a := ⟨x.toNat, by omega⟩
  obtain ⟨c, rfl⟩ : ∃ a : Nat, y = a := ⟨y.toNat, by omega⟩
  have ha : a < 2 ^ 8 := by omega
  have hb : b < 2 ^ 8 := by omega
  have hc : c < 2 ^ 8 := by omega
  have hbc := Nat.xor_lt_two_pow hb hc
  have hor := Nat.or_lt_two_pow ha hbc
  have k : ∀ a : Nat, a < 2 ^ 8 → (BitVec.ofInt 8 (a : Int)).toNat = a := fun a h => by rw [BitVec.ofInt_natCast, BitVec.toNat_ofNat]; exact Nat.mod_eq_of_lt h
  have e1 : bits .xor .u8 (b : Int) (c : Int) = ((b ^^^ c : Nat) : Int) := by
    show IntKind.u8.wrap ((BitVec.ofInt 8 (b : Int) ^^^ BitVec.ofInt 8 (c : Int)).toNat : Int) = _
    rw [BitVec.toNat_xor, k b hb, k c hc, IntKind.wrap_u8]
    omega
  have e2 : bits .or .u8 (a : Int) ((b ^^^ c : Nat) : Int) = ((a ||| (b ^^^ c) : Nat) : Int) := by
    show IntKind.u8.wrap ((BitVec.ofInt 8 (a : Int) ||| BitVec.ofInt 8 ((b ^^^ c : Nat) : Int)).toNat : Int) = _
    rw [BitVec.toNat_or, k a ha, k _ hbc, IntKind.wrap_u8]
    omega
  rw [e1, e2]
  refine ⟨by omega, ?_⟩
  have h1 := or_zero a (b ^^^ c)
  have h2 := xor_zero b c
  omega

set_option maxRecDepth 100000 in
set_option maxHeartbeats 1000000 in
theorem same_any' (sa sb : Option Addr) (n m c d : Nat) (xs ys : List Int) (w : World) (hs : Src w sa n xs) (ht : Src w sb m ys) (bx : bytes xs) (bb : bytes ys) (hn : n ≤ 1099511627776) :
    Calls Tryd.prog 74 #[.slice sa n c, .slice sb m d] w fun e w' => e = .returned (.bool (decide (xs = ys))) ∧ Below w.heap.size w w' := by
  have hxl := hs.len
  have hyl := ht.len
  by_cases hnm : n = m
  · have e0 : ((n : Int) != (m : Int)) = false := by rw [hnm]; simp
    obtain ⟨bv, hbv⟩ : ∃ b, b = decide (xs = ys) := ⟨_, rfl⟩
    rw [← hbv]
    have HBV := Lib.hid hbv
    have HS := Lib.hid hs
    have HT := Lib.hid ht
    have BX := Lib.hid bx
    have BB := Lib.hid bb
    have HXL := Lib.hid hxl
    have HYL := Lib.hid hyl
    have HNM := Lib.hid hnm
    clear hbv hs ht bx bb hxl hyl hnm
    go_enter Tryd.func74, Tryd.ntmps74
    go_wp2_with fail
    go_loopw [5, 14] (fun ov iv wr => ∃ (i : Nat) (o : Int), i ≤ n ∧ iv = .int .i64 i ∧ ov = .int .u8 o ∧ (0 ≤ o ∧ o ≤ 255) ∧ (o = 0 ↔ xs.take i = ys.take i) ∧ Below w.heap.size w wr) (fun _ iv _ => n - (intOf iv).toNat)
    case atStart => exact ⟨0, 0, Nat.zero_le _, rfl, rfl, ⟨by decide, by decide⟩, by simp, Below.refl _ w⟩
    case round =>
    obtain ⟨i, o, hi, rfl, rfl, ho, hoe, hw⟩ := hrel
    by_cases hlt : i < n
    · obtain ⟨ad, rfl, hc⟩ := HS.out.cell i hlt
      obtain ⟨ad2, rfl, hd⟩ := HT.out.cell i (by rw [← HNM.out]; exact hlt)
      have x0 := below_cell hw hc
      have x1 := below_cell hw hd
      have b0 := bytes_at BX.out i
      have b1 := bytes_at BB.out i
      obtain ⟨k1, k2⟩ := orx o _ _ ho b0 b1
      have hst : bits .or .u8 o (bits .xor .u8 (xs.getD i 0) (ys.getD i 0)) = 0 ↔ xs.take (i + 1) = ys.take (i + 1) := by
        rw [k2, hoe, take_snoc xs i 0 (by rw [HXL.out]; exact hlt), take_snoc ys i 0 (by rw [HYL.out, ← HNM.out]; exact hlt)]
        constructor
        · rintro ⟨h1, h2⟩; rw [h1, h2]
        · intro h
          have hl : (xs.take i).length = (ys.take i).length := by rw [List.length_take, List.length_take, HXL.out, HYL.out, HNM.out]
          have := List.append_inj h hl
          exact ⟨this.1, by simpa using this.2⟩
      generalize xs.getD i 0 = x at x0 b0 hst k1
      generalize ys.getD i 0 = y at x1 b1 hst k1
      have K1 := Lib.hid k1
      have HST := Lib.hid hst
      have HW := Lib.hid hw
      have hlt2 : (i : Int) < (m : Int) := by have := HNM.out; omega
      clear k1 k2 hst hw hoe hc hd ho b0 b1
      go_wp2_with fail
      go_region
      clear x0 x1 hlt2
      go_wp2_with fail
      go_roundw
      case rel => exact ⟨i + 1, _, by omega, by go_num, rfl, K1.out, HST.out, ⟨HW.out.os, HW.out.tape, HW.out.output, HW.out.size, HW.out.block⟩⟩
      case measure => simp [intOf]; omega
    · have ei : i = n := by omega
      rw [ei, List.take_of_length_le (by rw [HXL.out]; exact Nat.le_refl _), List.take_of_length_le (by rw [HYL.out, HNM.out]; exact Nat.le_refl _)] at hoe
      have hfin : (o == 0) = bv := by
        rw [HBV.out]
        by_cases h : xs = ys
        · rw [hoe.2 h, decide_eq_true h]; rfl
        · rw [decide_eq_false h, beq_eq_false_iff_ne]; exact fun h0 => h (hoe.1 h0)
      have HW := Lib.hid hw
      have HFIN := Lib.hid hfin
      clear hoe ei hfin hw
      go_wp2_with fail
      go_ret
      exact ⟨by rw [← HFIN.out]; rfl, HW.out⟩
  · have e0 : ((n : Int) != (m : Int)) = true := by simp; omega
    have hne : decide (xs = ys) = false := by
      rw [decide_eq_false_iff_not]; intro h; apply hnm; rw [← hxl, ← hyl, h]
    rw [hne]
    clear hs ht bx bb hxl hyl hnm hne
    go_enter Tryd.func74, Tryd.ntmps74
    go_wp2_with fail
    go_ret
    exact ⟨rfl, Below.refl _ w⟩
end Go.Proofs.YtoljnogpegemjaaDoor.Sm
