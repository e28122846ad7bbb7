/- What is sealed, in plain words. No program here; no condition. aead.rest, aead.eight, mac.Same, the document's filled and length. Conditions: at most 2^40 bytes. The document's filled and length. Condition: at most 2^41 bytes. The document's tag. Conditions: key of 32 bytes, nonce of 12; at most 2^38 bytes. -/
import Derived.Test.YtoljnogpegemjaaChG
import Derived.Test.YtoljnogpegemjaaPolF
import Derived.Test.YtoljnogpegemjaaM1
import Derived.Deep.LoopGhost
import Derived.BigRegion
import Derived.Test.YtoljnogpegemjaaPorD
import Derived.Laws.CopyOwn
import Derived.StillTailTactics
namespace Go.Proofs.Ytoljnogpegemjaa.Ae
open Go.RowKit Lm Po Ch

/-- How many zeros follow so many bytes. -/
def zr (n : Nat) : Nat := (16 - n % 16) % 16
def le8 (n : Nat) : List Int := nar (dig 256 8 n)
/-- What the tag is summed over. -/
def msg (beside c : List Int) : List Int := beside ++ (List.replicate (zr beside.length) 0 ++ (c ++ (List.replicate (zr c.length) 0 ++ (le8 beside.length ++ le8 c.length))))
def toN (xs : List Int) : List Nat := xs.map Int.toNat
def tag (key nonce c beside : List Int) : List Int := nar (tagP (toN ((block key 0 nonce).take 32)) (toN (msg beside c)))
def seal' (key nonce plain beside : List Int) : List Int := turn key 1 nonce plain ++ tag key nonce (turn key 1 nonce plain) beside
def okay (key nonce b beside : List Int) : Bool := decide (16 ≤ b.length ∧ tag key nonce (b.take (b.length - 16)) beside = b.drop (b.length - 16))
def opened (key nonce b beside : List Int) : List Int := if okay key nonce b beside then turn key 1 nonce (b.take (b.length - 16)) else []
theorem toN_nar {xs : List Int} (h : bytes xs) : nar (toN xs) = xs := nar_of xs (fun x hx => (h x hx).1)
theorem toN_lt {xs : List Int} (h : bytes xs) : ∀ x ∈ toN xs, x < 256 := by
  intro x hx
  obtain ⟨y, hy, rfl⟩ := List.mem_map.1 hx
  have := h y hy
  omega
theorem toN_len (xs : List Int) : (toN xs).length = xs.length := by simp [toN]
theorem tag_len (key nonce c beside : List Int) : (tag key nonce c beside).length = 16 := by rw [tag, nar_len, tagP, dig_len]
theorem bytes_nar {xs : List Nat} (h : ∀ x ∈ xs, x < 256) : bytes (nar xs) := by
  intro x hx
  obtain ⟨y, hy, rfl⟩ := List.mem_map.1 hx
  have := h y hy
  show 0 ≤ (y : Int) ∧ (y : Int) ≤ 255
  omega
theorem bytes_tag (key nonce c beside : List Int) : bytes (tag key nonce c beside) := bytes_nar (dig_lt 256 (by decide) _ _)
theorem bytes_le8 (n : Nat) : bytes (le8 n) := bytes_nar (dig_lt 256 (by decide) _ _)
theorem le8_len (n : Nat) : (le8 n).length = 8 := by rw [le8, nar_len, dig_len]
theorem bytes_zeros (n : Nat) : bytes (List.replicate n 0) := by
  intro x hx
  rw [List.mem_replicate] at hx
  omega
theorem bytes_append {xs ys : List Int} (h : bytes xs) (k : bytes ys) : bytes (xs ++ ys) := by
  intro x hx
  rcases List.mem_append.1 hx with hx | hx
  · exact h x hx
  · exact k x hx
theorem bytes_take {xs : List Int} (h : bytes xs) (n : Nat) : bytes (xs.take n) := fun x hx => h x (List.mem_of_mem_take hx)
theorem bytes_drop {xs : List Int} (h : bytes xs) (n : Nat) : bytes (xs.drop n) := fun x hx => h x (List.mem_of_mem_drop hx)
theorem bytes_block (key : List Int) (c : Int) (nonce : List Int) : bytes (block key c nonce) := by
  intro x hx
  obtain ⟨i, _, rfl⟩ := List.mem_map.1 hx
  omega
theorem bytes_msg {beside c : List Int} (h : bytes beside) (k : bytes c) : bytes (msg beside c) :=
  bytes_append h (bytes_append (bytes_zeros _) (bytes_append k (bytes_append (bytes_zeros _) (bytes_append (bytes_le8 _) (bytes_le8 _)))))
theorem msg_len (beside c : List Int) : (msg beside c).length ≤ beside.length + c.length + 46 := by
  simp only [msg, List.length_append, List.length_replicate, le8_len]
  have h1 : zr beside.length < 16 := Nat.mod_lt _ (by decide)
  have h2 : zr c.length < 16 := Nat.mod_lt _ (by decide)
  omega
theorem xor_byte (x y : Int) : 0 ≤ bits .xor .u8 x y ∧ bits .xor .u8 x y ≤ 255 := by
  unfold bits
  simp only
  show 0 ≤ IntKind.u8.wrap _ ∧ IntKind.u8.wrap _ ≤ 255
  rw [IntKind.wrap_u8]
  omega
theorem bytes_turn (key : List Int) (c : Int) (nonce b : List Int) : bytes (turn key c nonce b) := by
  intro x hx
  obtain ⟨i, h, rfl⟩ := List.mem_mapIdx.1 hx
  exact xor_byte _ _
theorem xor8 (x y : Int) (h : 0 ≤ x ∧ x ≤ 255) (k : 0 ≤ y ∧ y ≤ 255) : bits .xor .u8 (bits .xor .u8 x y) y = x := by
  obtain ⟨a, rfl⟩ : ∃ a : Nat, x = a := ⟨x.toNat, by omega⟩
  obtain ⟨b, rfl⟩ : ∃ b : Nat, y = b := ⟨y.toNat, by omega⟩
  have ha : a < 2 ^ 8 := by omega
  have hb : b < 2 ^ 8 := by omega
  have e : ∀ a b : Nat, a < 2 ^ 8 → b < 2 ^ 8 → bits .xor .u8 (a : Int) (b : Int) = ((a ^^^ b : Nat) : Int) := by
    intro a b ha hb
    have h1 : (BitVec.ofInt 8 (a : Int)).toNat = a := by rw [BitVec.ofInt_natCast, BitVec.toNat_ofNat]; exact Nat.mod_eq_of_lt ha
    have h2 : (BitVec.ofInt 8 (b : Int)).toNat = b := by rw [BitVec.ofInt_natCast, BitVec.toNat_ofNat]; exact Nat.mod_eq_of_lt hb
    show IntKind.u8.wrap ((BitVec.ofInt 8 (a : Int) ^^^ BitVec.ofInt 8 (b : Int)).toNat : Int) = _
    rw [BitVec.toNat_xor, h1, h2, IntKind.wrap_u8]
    have := Nat.xor_lt_two_pow ha hb
    omega
  rw [e a b ha hb, e _ b (Nat.xor_lt_two_pow ha hb) hb, Nat.xor_assoc, Nat.xor_self, Nat.xor_zero]
theorem turn_turn (key : List Int) (c : Int) (nonce b : List Int) (h : bytes b) : turn key c nonce (turn key c nonce b) = b := by
  apply List.ext_getElem
  · rw [turn_len, turn_len]
  · intro i h1 h2
    have e1 := turn_at key c nonce (turn key c nonce b) i (by rw [turn_len]; exact h2)
    have e2 := turn_at key c nonce b i h2
    rw [e2] at e1
    have g1 : (turn key c nonce (turn key c nonce b)).getD i 0 = (turn key c nonce (turn key c nonce b))[i] := by simp [List.getD, h1]
    have g2 : b.getD i 0 = b[i] := by simp [List.getD, h2]
    rw [← g1, e1, ← g2]
    exact xor8 _ _ (bytes_at h i) (bytes_at (bytes_block _ _ _) _)
theorem seal_len (key nonce plain beside : List Int) : (seal' key nonce plain beside).length = plain.length + 16 := by rw [seal', List.length_append, turn_len, tag_len]
theorem bytes_seal (key nonce plain beside : List Int) : bytes (seal' key nonce plain beside) := bytes_append (bytes_turn _ _ _ _) (bytes_tag _ _ _ _)
theorem okay_seal (key nonce plain beside : List Int) : okay key nonce (seal' key nonce plain beside) beside = true := by
  have hl := seal_len key nonce plain beside
  have e : plain.length = (turn key 1 nonce plain).length := (turn_len _ _ _ _).symm
  unfold okay
  rw [hl, Nat.add_sub_cancel, seal', e, List.take_left, List.drop_left]
  simp [turn_len]
theorem opened_seal (key nonce plain beside : List Int) (h : bytes plain) : opened key nonce (seal' key nonce plain beside) beside = plain := by
  have hl := seal_len key nonce plain beside
  have e : plain.length = (turn key 1 nonce plain).length := (turn_len _ _ _ _).symm
  unfold opened
  rw [okay_seal, if_pos rfl, hl, Nat.add_sub_cancel, seal', e, List.take_left, turn_turn _ _ _ _ h]
end Go.Proofs.Ytoljnogpegemjaa.Ae
namespace Go.Proofs.Ytoljnogpegemjaa.Ae
open Go.RowKit Lm Po Ch

theorem byte_of (n i : Nat) : IntKind.u8.wrap ((n : Int) / 2 ^ (8 * i)) = ((n / 256 ^ i % 256 : Nat) : Int) := by
  rw [IntKind.wrap_u8, show (256 : Nat) ^ i = 2 ^ (8 * i) by rw [Nat.pow_mul], Int.natCast_emod, Int.natCast_ediv, Int.natCast_pow]
  rfl

set_option maxRecDepth 100000 in
theorem rest_any (n : Nat) (hn : n ≤ 1099511627776) (w : World) :
    Calls Try.prog 53 #[.int .i64 (n : Int)] w fun e w' => ∃ sa, e = .returned (.slice sa (zr n) (zr n)) ∧ Src w' sa (zr n) (List.replicate (zr n) 0) ∧ Below w.heap.size w w' := by
  have e1 : (16 - (n : Int) % 16) % 16 = ((zr n : Nat) : Int) := by unfold zr; omega
  have hz : zr n < 16 := Nat.mod_lt _ (by decide)
  generalize zr n = z at e1 hz ⊢
  have hmk := mk8 z (by omega)
  have HZ := Lib.hid hz
  clear hz
  go_enter Try.func53, Try.ntmps53
  go_wp2
  go_ret
  refine ⟨_, rfl, ?_, (Below.refl _ w).alloc (Nat.le_refl _) _⟩
  have := src_blk (w := w.alloc (.cells (row8 (zeros z) []) 5)) (blk_new w _)
  simpa [zeros] using this

set_option maxRecDepth 100000 in
set_option maxHeartbeats 1000000 in
theorem eight_any (n : Nat) (w : World) :
    Calls Try.prog 54 #[.int .i64 (n : Int)] w fun e w' => ∃ sa, e = .returned (.slice sa 8 8) ∧ Src w' sa 8 (le8 n) ∧ Below w.heap.size w w' := by
  have hmk := mk8 8 (by decide)
  obtain ⟨F, hF⟩ : ∃ F : Nat → Nat, F = fun i => n / 256 ^ i % 256 := ⟨_, rfl⟩
  obtain ⟨z8, hz8⟩ : ∃ z, z = zeros 8 := ⟨_, rfl⟩
  have hz0 : z8 = nar (upto F 8 0) := by rw [upto_zero, nar_zeros, hz8]; rfl
  rw [← hz8] at hmk
  have hb : ∀ i, IntKind.u8.wrap ((n : Int) / 2 ^ (8 * i)) = ((F i : Nat) : Int) := fun i => by rw [hF]; exact byte_of n i
  have hend : nar (upto F 8 8) = le8 n := by rw [le8, dig_upto, hF]
  have b0 := blk_new w (.cells (row8 z8 []) 5)
  have w0 : Below w.heap.size w (w.alloc (.cells (row8 z8 []) 5)) := (Below.refl _ w).alloc (Nat.le_refl _) _
  have B0 := Lib.hid b0
  have W0 := Lib.hid w0
  have HZ := Lib.hid hz0
  have HB := Lib.hid hb
  have HE := Lib.hid hend
  clear b0 w0 hz0 hb hend hz8 hF
  have hmk2 : ∀ w : World, (Instr.makeSlice 24 (.int .i64 8) (.int .i64 8)).run Try.prog w = .ok (.slice (some ⟨w.heap.size, 0, none⟩) 8 8) (w.alloc (.cells (row8 z8 []) 5)) := hmk
  clear hmk
  go_enter Try.func54, Try.ntmps54
  go_wp2
  go_loopw [8] (fun v wr => ∃ i : Nat, i ≤ 8 ∧ v = .int .i64 i ∧ wr.heap[w.heap.size]? = some (.cells (row8 (nar (upto F 8 i)) []) 5 (0, 0)) ∧ Below w.heap.size w wr) (fun v _ => 8 - (intOf v).toNat)
  case atStart => exact ⟨0, Nat.zero_le _, rfl, by rw [← HZ.out]; exact B0.out, W0.out⟩
  clear B0 W0
  case round =>
  obtain ⟨i, hi, rfl, hb, hw⟩ := hrel
  by_cases hlt : i < 8
  · have hl : i < (nar (upto F 8 i)).length := by rw [nar_len, upto_len]; exact hlt
    have q2 := (cell_blk hb i).trans (row8_get _ [] i hl)
    have q3 := free_blk hb i
    have hb1 : (wr.setCell ⟨w.heap.size, i, none⟩ (.int .u8 (IntKind.u8.wrap ((n : Int) / 2 ^ (8 * i))))).heap[w.heap.size]? = some (.cells (row8 (nar (upto F 8 (i + 1))) []) 5 (0, 0)) := by
      rw [HB.out, blk_setCell hb, row8_set _ _ _ hl, ← nar_set, upto_set]
    have HB1 := Lib.hid hb1
    have HW1 := Lib.hid (hw.setCell (p := ⟨w.heap.size, i, none⟩) (Nat.le_refl _) (.int .u8 (IntKind.u8.wrap ((n : Int) / 2 ^ (8 * i)))))
    clear hb hw hb1 hl
    go_wp2
    go_roundw
    case rel => exact ⟨i + 1, by omega, by go_num, HB1.out, HW1.out⟩
    case measure => simp [intOf]; omega
  · have ei : i = 8 := by omega
    rw [ei, HE.out] at hb
    have HB1 := Lib.hid hb
    have HW1 := Lib.hid hw
    clear hb hw ei
    go_wp2
    go_ret
    refine ⟨_, rfl, ?_, HW1.out⟩
    have := src_blk HB1.out
    rwa [le8_len] at this

theorem or_zero (a b : Nat) : a ||| b = 0 ↔ a = 0 ∧ b = 0 := by
  constructor
  · intro h
    have h1 : a ≤ a ||| b := Nat.left_le_or
    have h2 : b ≤ a ||| b := Nat.right_le_or
    omega
  · rintro ⟨rfl, rfl⟩; rfl
theorem xor_zero (a b : Nat) : a ^^^ b = 0 ↔ a = b := by
  constructor
  · intro h
    have : a ^^^ b ^^^ b = b := by rw [h, Nat.zero_xor]
    rwa [Nat.xor_assoc, Nat.xor_self, Nat.xor_zero] at this
  · rintro rfl; exact Nat.xor_self _
theorem orx (o x y : Int) (ho : 0 ≤ o ∧ o ≤ 255) (hx : 0 ≤ x ∧ x ≤ 255) (hy : 0 ≤ y ∧ y ≤ 255) :
    (0 ≤ bits .or .u8 o (bits .xor .u8 x y) ∧ bits .or .u8 o (bits .xor .u8 x y) ≤ 255) ∧ (bits .or .u8 o (bits .xor .u8 x y) = 0 ↔ o = 0 ∧ x = y) := by
  obtain ⟨a, rfl⟩ : ∃ a : Nat, o = a := ⟨o.toNat, by omega⟩
  obtain ⟨b, rfl⟩ : ∃ a : Nat, x = a := ⟨x.toNat, by omega⟩
  obtain ⟨c, rfl⟩ : ∃ a : Nat, y = a := ⟨y.toNat, by omega⟩
  have ha : a < 2 ^ 8 := by omega
  have hb : b < 2 ^ 8 := by omega
  have hc : c < 2 ^ 8 := by omega
  have hbc := Nat.xor_lt_two_pow hb hc
  have hor := Nat.or_lt_two_pow ha hbc
  have k : ∀ a : Nat, a < 2 ^ 8 → (BitVec.ofInt 8 (a : Int)).toNat = a := fun a h => by rw [BitVec.ofInt_natCast, BitVec.toNat_ofNat]; exact Nat.mod_eq_of_lt h
  have e1 : bits .xor .u8 (b : Int) (c : Int) = ((b ^^^ c : Nat) : Int) := by
    show IntKind.u8.wrap ((BitVec.ofInt 8 (b : Int) ^^^ BitVec.ofInt 8 (c : Int)).toNat : Int) = _
    rw [BitVec.toNat_xor, k b hb, k c hc, IntKind.wrap_u8]
    omega
  have e2 : bits .or .u8 (a : Int) ((b ^^^ c : Nat) : Int) = ((a ||| (b ^^^ c) : Nat) : Int) := by
    show IntKind.u8.wrap ((BitVec.ofInt 8 (a : Int) ||| BitVec.ofInt 8 ((b ^^^ c : Nat) : Int)).toNat : Int) = _
    rw [BitVec.toNat_or, k a ha, k _ hbc, IntKind.wrap_u8]
    omega
  rw [e1, e2]
  refine ⟨by omega, ?_⟩
  have h1 := or_zero a (b ^^^ c)
  have h2 := xor_zero b c
  omega

set_option maxRecDepth 100000 in
set_option maxHeartbeats 1000000 in
theorem same_any' (sa sb : Option Addr) (n m c d : Nat) (xs ys : List Int) (w : World) (hs : Src w sa n xs) (ht : Src w sb m ys) (bx : bytes xs) (bb : bytes ys) (hn : n ≤ 1099511627776) :
    Calls Try.prog 45 #[.slice sa n c, .slice sb m d] w fun e w' => e = .returned (.bool (decide (xs = ys))) ∧ Below w.heap.size w w' := by
  have hxl := hs.len
  have hyl := ht.len
  by_cases hnm : n = m
  · have e0 : ((n : Int) != (m : Int)) = false := by rw [hnm]; simp
    obtain ⟨bv, hbv⟩ : ∃ b, b = decide (xs = ys) := ⟨_, rfl⟩
    rw [← hbv]
    have HBV := Lib.hid hbv
    have HS := Lib.hid hs
    have HT := Lib.hid ht
    have BX := Lib.hid bx
    have BB := Lib.hid bb
    have HXL := Lib.hid hxl
    have HYL := Lib.hid hyl
    have HNM := Lib.hid hnm
    clear hbv hs ht bx bb hxl hyl hnm
    go_enter Try.func45, Try.ntmps45
    go_wp2_with fail
    go_loopw [5, 14] (fun ov iv wr => ∃ (i : Nat) (o : Int), i ≤ n ∧ iv = .int .i64 i ∧ ov = .int .u8 o ∧ (0 ≤ o ∧ o ≤ 255) ∧ (o = 0 ↔ xs.take i = ys.take i) ∧ Below w.heap.size w wr) (fun _ iv _ => n - (intOf iv).toNat)
    case atStart => exact ⟨0, 0, Nat.zero_le _, rfl, rfl, ⟨by decide, by decide⟩, by simp, Below.refl _ w⟩
    case round =>
    obtain ⟨i, o, hi, rfl, rfl, ho, hoe, hw⟩ := hrel
    by_cases hlt : i < n
    · obtain ⟨ad, rfl, hc⟩ := HS.out.cell i hlt
      obtain ⟨ad2, rfl, hd⟩ := HT.out.cell i (by rw [← HNM.out]; exact hlt)
      have x0 := below_cell hw hc
      have x1 := below_cell hw hd
      have b0 := bytes_at BX.out i
      have b1 := bytes_at BB.out i
      obtain ⟨k1, k2⟩ := orx o _ _ ho b0 b1
      have hst : bits .or .u8 o (bits .xor .u8 (xs.getD i 0) (ys.getD i 0)) = 0 ↔ xs.take (i + 1) = ys.take (i + 1) := by
        rw [k2, hoe, take_snoc xs i 0 (by rw [HXL.out]; exact hlt), take_snoc ys i 0 (by rw [HYL.out, ← HNM.out]; exact hlt)]
        constructor
        · rintro ⟨h1, h2⟩; rw [h1, h2]
        · intro h
          have hl : (xs.take i).length = (ys.take i).length := by rw [List.length_take, List.length_take, HXL.out, HYL.out, HNM.out]
          have := List.append_inj h hl
          exact ⟨this.1, by simpa using this.2⟩
      generalize xs.getD i 0 = x at x0 b0 hst k1
      generalize ys.getD i 0 = y at x1 b1 hst k1
      have K1 := Lib.hid k1
      have HST := Lib.hid hst
      have HW := Lib.hid hw
      have hlt2 : (i : Int) < (m : Int) := by have := HNM.out; omega
      clear k1 k2 hst hw hoe hc hd ho b0 b1
      go_wp2_with fail
      go_region
      clear x0 x1 hlt2
      go_wp2_with fail
      go_roundw
      case rel => exact ⟨i + 1, _, by omega, by go_num, rfl, K1.out, HST.out, ⟨HW.out.os, HW.out.tape, HW.out.output, HW.out.size, HW.out.block⟩⟩
      case measure => simp [intOf]; omega
    · have ei : i = n := by omega
      rw [ei, List.take_of_length_le (by rw [HXL.out]; exact Nat.le_refl _), List.take_of_length_le (by rw [HYL.out, HNM.out]; exact Nat.le_refl _)] at hoe
      have hfin : (o == 0) = bv := by
        rw [HBV.out]
        by_cases h : xs = ys
        · rw [hoe.2 h, decide_eq_true h]; rfl
        · rw [decide_eq_false h, beq_eq_false_iff_ne]; exact fun h0 => h (hoe.1 h0)
      have HW := Lib.hid hw
      have HFIN := Lib.hid hfin
      clear hoe ei hfin hw
      go_wp2_with fail
      go_ret
      exact ⟨by rw [← HFIN.out]; rfl, HW.out⟩
  · have e0 : ((n : Int) != (m : Int)) = true := by simp; omega
    have hne : decide (xs = ys) = false := by
      rw [decide_eq_false_iff_not]; intro h; apply hnm; rw [← hxl, ← hyl, h]
    rw [hne]
    clear hs ht bx bb hxl hyl hnm hne
    go_enter Try.func45, Try.ntmps45
    go_wp2_with fail
    go_ret
    exact ⟨rfl, Below.refl _ w⟩
end Go.Proofs.Ytoljnogpegemjaa.Ae
namespace Go.Proofs.Ytoljnogpegemjaa.Ae
open Go.RowKit Lm Po Ch

structure OwnR (B : Nat) (w wr : World) (v : Value) (xs : List Int) : Prop where
  own : Own8 wr B v xs
  below : Below B w wr
theorem OwnR.app {B : Nat} {w wr w' : World} {v v' : Value} {xs ys : List Int} (h : OwnR B w wr v xs) (hB : B ≤ wr.heap.size) (o : Obj) (h1 : Own8 w' B v' (xs ++ ys)) (hg : (wr.alloc o).grownBy w' v.ownBlock) : OwnR B w w' v' (xs ++ ys) :=
  ⟨h1, app8_below (h.own.alloc o) hg (h.below.alloc hB o) (Nat.le_trans hB (by simp))⟩
theorem rep_snoc (k : Nat) : List.replicate (k + 1) (0 : Int) = List.replicate k 0 ++ [0] := List.replicate_succ'

set_option maxRecDepth 100000 in
set_option maxHeartbeats 1000000 in
theorem filled_any (B : Nat) (v : Value) (xs : List Int) (w : World) (ho : Own8 w B v xs) (hB : B ≤ w.heap.size) (hn : xs.length ≤ 2199023255552) :
    Calls Try.prog 39 #[v] w fun e w' => ∃ v', e = .returned v' ∧ Own8 w' B v' (xs ++ List.replicate (zr xs.length) 0) ∧ Below B w w' := by
  obtain ⟨s0, c0, hv0, -⟩ := ho.form
  subst hv0
  obtain ⟨n, hnl⟩ : ∃ n, n = xs.length := ⟨_, rfl⟩
  rw [← hnl] at hn ⊢
  obtain ⟨Z, hZ⟩ : ∃ Z, Z = zr n := ⟨_, rfl⟩
  rw [← hZ]
  have hz16 : Z < 16 := by rw [hZ]; exact Nat.mod_lt _ (by decide)
  have hmod0 : ∀ k, k < Z → (n + k) % 16 ≠ 0 := by rw [hZ]; unfold zr; omega
  have hmod1 : (n + Z) % 16 = 0 := by rw [hZ]; unfold zr; omega
  have HO := Lib.hid ho
  have HNL := Lib.hid hnl
  have HM0 := Lib.hid hmod0
  have HM1 := Lib.hid hmod1
  clear ho hZ hmod0 hmod1

  clear hnl
  go_enter Try.func39, Try.ntmps39
  go_wp2_with fail
  go_loopg [0] Z (fun g m wr => ∃ (k l : Nat) (sv : Option Addr) (cv : Nat), g + k = Z ∧ l = n + k ∧ m = .slice sv l cv ∧ OwnR B w wr (.slice sv l cv) (xs ++ List.replicate k 0))
  case atStart => exact ⟨0, n, s0, c0, by omega, rfl, rfl, ⟨by rw [List.replicate_zero, List.append_nil, HNL.out]; exact HO.out, Below.refl _ w⟩⟩
  case round =>
    obtain ⟨k, l, sv, cv, hk, hl, rfl, hp⟩ := hrel
    obtain ⟨wo, rfl⟩ : ∃ wo : World, wo = wr := ⟨_, rfl⟩
    have hl1 : l ≤ 140737488355000 := by omega
    have HL := Lib.hid hl
    have hBw : B ≤ wo.heap.size := Nat.le_trans hB hp.below.size
    by_cases hlt : k < Z
    · have t1 : (((l : Int) % 16) != 0) = true := by have := HM0.out k hlt; simp; omega
      have HP := Lib.hid hp
      clear hp hl
      go_wp2_with ((with_reducible show wpList _ _ _ (Oper.mk (some 9) _ _ _ _ _ :: _) _ _); refine wpList_app8 rfl _ _ rfl B (.slice sv l cv) (xs ++ List.replicate k 0) rfl (HP.out.own.alloc _) (some ⟨wo.heap.size, 0, none⟩) 1 _ [0] rfl (src_one _ _) ?_ (Nat.le_trans hBw (by simp)) ?_; (rw [List.length_append, ← HNL.out, List.length_replicate]; omega); intro v5 w5 hown5 hgrow5 hnil5 hat5; have hp5 := HP.out.app hBw _ hown5 hgrow5; clear hown5 hgrow5 hnil5 hat5; rw [List.append_assoc, ← rep_snoc] at hp5; obtain ⟨s5, c5, hv5, -⟩ := hp5.own.form; rw [List.length_append, ← HNL.out, List.length_replicate, show n + (k + 1) = l + 1 by have := HL.out; omega] at hv5; subst hv5; have HP5 := Lib.hid hp5; clear hp5)
      go_roundg (gk - 1)
      case measure => omega
      case rel => exact ⟨k + 1, l + 1, s5, c5, by omega, by have := HL.out; omega, rfl, HP5.out⟩
    · have ek : k = Z := by omega
      have t1 : (((l : Int) % 16) != 0) = false := by have := HM1.out; simp; omega
      rw [ek] at hp
      have HP := Lib.hid hp
      clear hp hl ek
      go_wp2_with fail
      go_ret
      exact ⟨_, rfl, HP.out.own, HP.out.below⟩

set_option maxRecDepth 100000 in
set_option maxHeartbeats 1000000 in
theorem length_any (n : Nat) (hn : n ≤ 2199023255552) (w : World) :
    Calls Try.prog 40 #[.int .i64 (n : Int)] w fun e w' => ∃ v, e = .returned v ∧ Own8 w' w.heap.size v (le8 n) ∧ Below w.heap.size w w' := by
  obtain ⟨tk, htk⟩ : ∃ tk : Nat → List Int, tk = fun i => (le8 n).take i := ⟨_, rfl⟩
  have ht0 : tk 0 = [] := by rw [htk]; rfl
  have htl : ∀ i, i ≤ 8 → (tk i).length = i := by intro i hi; rw [htk]; show ((le8 n).take i).length = i; rw [List.length_take, le8_len]; omega
  have hts : ∀ i, i < 8 → tk i ++ [((n / 256 ^ i % 256 : Nat) : Int)] = tk (i + 1) := by
    intro i hi
    rw [htk]
    show (le8 n).take i ++ _ = (le8 n).take (i + 1)
    rw [take_snoc _ i 0 (by rw [le8_len]; exact hi), le8, nar_get, dig_get _ _ _ _ hi]
  have hte : tk 8 = le8 n := by rw [htk]; exact List.take_of_length_le (by rw [le8_len]; exact Nat.le_refl _)
  have hby : ∀ i, bits .and .i64 ((n : Int) / 2 ^ (8 * i)) 255 % 256 = ((n / 256 ^ i % 256 : Nat) : Int) := by
    intro i
    have e1 : (n : Int) / 2 ^ (8 * i) = ((n / 256 ^ i : Nat) : Int) := by
      rw [show (256 : Nat) ^ i = 2 ^ (8 * i) by rw [Nat.pow_mul], Int.natCast_ediv, Int.natCast_pow]
      rfl
    have hlt : n / 256 ^ i < 9223372036854775808 := Nat.lt_of_le_of_lt (Nat.div_le_self _ _) (by omega)
    have e2 : n / 256 ^ i &&& 255 = n / 256 ^ i % 256 := Nat.and_two_pow_sub_one_eq_mod _ 8
    have h1 : (BitVec.ofInt 64 ((n / 256 ^ i : Nat) : Int)).toNat = n / 256 ^ i := by rw [BitVec.ofInt_natCast, BitVec.toNat_ofNat]; exact Nat.mod_eq_of_lt (by omega)
    have h2 : (BitVec.ofInt 64 (255 : Int)).toNat = 255 := by decide
    have e3 : bits .and .i64 ((n / 256 ^ i : Nat) : Int) 255 = ((n / 256 ^ i % 256 : Nat) : Int) := by
      show IntKind.i64.wrap ((BitVec.ofInt 64 ((n / 256 ^ i : Nat) : Int) &&& BitVec.ofInt 64 (255 : Int)).toNat : Int) = _
      rw [BitVec.toNat_and, h1, h2, e2, IntKind.wrap_i64]
      omega
    rw [e1, e3]
    omega
  have T0 := Lib.hid ht0
  have TL := Lib.hid htl
  have TS := Lib.hid hts
  have TE := Lib.hid hte
  have BY := Lib.hid hby
  clear htk ht0 htl hts hte hby
  go_enter Try.func40, Try.ntmps40
  go_wp2_with fail
  go_loopg [3, 4] 8 (fun g m iv wr => ∃ (i : Nat) (sv : Option Addr) (cv : Nat), g + i = 8 ∧ iv = .int .i64 i ∧ m = .slice sv i cv ∧ OwnR w.heap.size w wr (.slice sv i cv) (tk i))
  case atStart => exact ⟨0, none, 0, rfl, rfl, rfl, ⟨by rw [T0.out]; exact Own8.nil _ _, Below.refl _ w⟩⟩
  case round =>
    obtain ⟨i, sv, cv, hi, rfl, rfl, hp⟩ := hrel
    obtain ⟨wo, rfl⟩ : ∃ wo : World, wo = wr := ⟨_, rfl⟩
    have hBw : w.heap.size ≤ wo.heap.size := hp.below.size
    have HP := Lib.hid hp
    clear hp
    by_cases hlt : i < 8
    · have e2 : (8 * (i : Int)).toNat = 8 * i := by omega
      have e3 : 0 ≤ 8 * (i : Int) := by omega
      have e4 : 8 * (i : Int) < 64 := by omega
      go_wp2_with ((with_reducible show wpList _ _ _ (Oper.mk (some 18) _ _ _ _ _ :: _) _ _); rw [BY.out]; refine wpList_app8 rfl _ _ rfl w.heap.size (.slice sv i cv) (tk i) rfl (HP.out.own.alloc _) (some ⟨wo.heap.size, 0, none⟩) 1 _ [((n / 256 ^ i % 256 : Nat) : Int)] rfl (src_one _ _) ?_ (Nat.le_trans hBw (by simp)) ?_; (rw [TL.out i (by omega)]; omega); intro v5 w5 hown5 hgrow5 hnil5 hat5; have hp5 := HP.out.app hBw _ hown5 hgrow5; clear hown5 hgrow5 hnil5 hat5; rw [TS.out i hlt] at hp5; obtain ⟨s5, c5, hv5, -⟩ := hp5.own.form; rw [TL.out (i + 1) (by omega)] at hv5; subst hv5; have HP5 := Lib.hid hp5; clear hp5)
      go_roundg (gk - 1)
      case measure => omega
      case rel => exact ⟨i + 1, s5, c5, by omega, by go_num, rfl, HP5.out⟩
    · have ei : i = 8 := by omega
      have hp2 : Own8 wo w.heap.size (.slice sv i cv) (le8 n) := by
        have := HP.out.own
        rw [show tk i = le8 n by rw [ei]; exact TE.out] at this
        exact this
      have HP2 := Lib.hid hp2
      clear ei hp2
      go_wp2_with fail
      go_ret
      exact ⟨_, rfl, HP2.out, HP.out.below⟩
end Go.Proofs.Ytoljnogpegemjaa.Ae
namespace Go.Proofs.Ytoljnogpegemjaa.Ae
open Go.RowKit Lm Po Ch

theorem zr_add (a b : Nat) (h : a % 16 = 0) : zr (a + b) = zr b := by unfold zr; omega
theorem zr_full (a : Nat) : (a + zr a) % 16 = 0 := by unfold zr; omega
/-- The document's way to what the tag is summed over. -/
theorem msg_ref (beside c : List Int) : ((((beside ++ List.replicate (zr beside.length) 0) ++ c) ++ List.replicate (zr ((beside ++ List.replicate (zr beside.length) 0) ++ c).length) 0) ++ le8 beside.length) ++ le8 c.length = msg beside c := by
  have h : zr ((beside ++ List.replicate (zr beside.length) 0) ++ c).length = zr c.length := by
    rw [List.length_append, List.length_append, List.length_replicate]
    exact zr_add _ _ (zr_full _)
  rw [h, msg]
  simp only [List.append_assoc]
theorem arrTag (xs : List Int) (hl : xs.length = 16) : (Try.prog.info? 61).map (·.size) = some (arr .u8 xs).size := by rw [arr_size, hl]; kernel_rfl
theorem arrSig (xs : List Int) (hl : xs.length = 64) : (Try.prog.info? 75).map (·.size) = some (arr .u8 xs).size := by rw [arr_size, hl]; kernel_rfl

theorem B3.of_below {w wr w' : World} {c0 c1 c2 : Array Value} {t0 t1 t2 : TypeId} {B b : Nat} (h : B3 w wr c0 c1 c2 t0 t1 t2) (h1 : b < B) (h2 : w.heap.size + 1 + 1 < b) (k : Below B wr w') : B3 w w' c0 c1 c2 t0 t1 t2 :=
  ⟨Below.blk k h.b0 (by omega), Below.blk k h.b1 (by omega), Below.blk k h.b2 (by omega), h.below.trans (k.mono (by omega))⟩

set_option maxRecDepth 100000 in
set_option maxHeartbeats 4000000 in
theorem rtag_any (key nonce c beside : List Int) (sc sb : Option Addr) (n1 n2 c1 c2 : Nat) (w : World) (hk : key.length = 32) (hn : nonce.length = 12) (bk : bytes key) (bn : bytes nonce) (hc : Src w sc n1 c) (hb : Src w sb n2 beside) (bc : bytes c) (bb : bytes beside) (l1 : n1 ≤ 274877906944) (l2 : n2 ≤ 274877906944) :
    Calls Try.prog 27 #[.agg (arr .u8 key), .agg (arr .u8 nonce), .slice sc n1 c1, .slice sb n2 c2] w fun e w' => e = .returned (.agg (arr .u8 (tag key nonce c beside))) ∧ Below w.heap.size w w' := by
  have hcl := hc.len
  have hbl := hb.len
  obtain ⟨zt, hzt⟩ : ∃ zs : List Int, zs = List.replicate 16 0 := ⟨_, rfl⟩
  have hyt : ∀ w, (zeroValue 61).run Try.prog w = .ok (.agg (arr .u8 zt)) w := by intro w; rw [hzt]; exact zeroTag w
  have hztl : zt.length = 16 := by rw [hzt]; rfl
  obtain ⟨zb, hzb⟩ : ∃ zs : List Int, zs = List.replicate 32 0 := ⟨_, rfl⟩
  have hyb : ∀ w, (zeroValue 23).run Try.prog w = .ok (.agg (arr .u8 zb)) w := by intro w; rw [hzb]; exact zero32' w
  have hzbl : zb.length = 32 := by rw [hzb]; rfl
  obtain ⟨zg, hzg⟩ : ∃ zs : List Int, zs = List.replicate 64 0 := ⟨_, rfl⟩
  have hyg : ∀ w, (zeroValue 75).run Try.prog w = .ok (.agg (arr .u8 zg)) w := by intro w; rw [hzg]; exact zero64 w
  have hzgl : zg.length = 64 := by rw [hzg]; rfl
  have M1 := fun w => rblock_any key nonce 0 w hk hn bk bn
  rw [show (0 : Int) % 4294967296 = 0 from rfl] at M1
  have hmsg := msg_ref beside c
  rw [hbl, hcl] at hmsg
  obtain ⟨tg, htg⟩ : ∃ x, x = tag key nonce c beside := ⟨_, rfl⟩
  have tgl : tg.length = 16 := by rw [htg, tag_len]
  obtain ⟨bl, hbl'⟩ : ∃ x, x = block key 0 nonce := ⟨_, rfl⟩
  have bll : bl.length = 64 := by rw [hbl', block_len]
  have blb : bytes bl := by rw [hbl']; exact bytes_block _ _ _
  obtain ⟨M, hM⟩ : ∃ x, x = msg beside c := ⟨_, rfl⟩
  have mb : bytes M := by rw [hM]; exact bytes_msg bb bc
  have ml : M.length ≤ 1099511627776 := by rw [hM]; have := msg_len beside c; omega
  obtain ⟨k32, hk32⟩ : ∃ x, x = bl.take 32 := ⟨_, rfl⟩
  have k32l : k32.length = 32 := by rw [hk32, List.length_take]; omega
  have k32b : bytes k32 := by rw [hk32]; exact bytes_take blb 32
  have htg2 : nar (tagP (toN k32) (toN M)) = tg := by rw [htg, tag, hk32, hbl', hM]
  have M5 := fun sa n cap w hs hn => poly_any sa n cap (toN k32) (toN M) w hs (toN_lt mb) (by rw [toN_len]; exact k32l) (toN_lt k32b) hn
  rw [toN_nar mb, toN_nar k32b, htg2] at M5
  rw [← hM] at hmsg
  rw [← hbl'] at M1
  rw [← htg]
  have S0 := B3.start w (arr .u8 key) (arr .u8 nonce) (arr .u8 zt) 23 46 61
  obtain ⟨cs, hcs⟩ : ∃ cs, cs = k32.map (Value.int .u8) := ⟨_, rfl⟩
  have csl : cs.length = 32 := by rw [hcs, List.length_map, k32l]
  have cso : ∀ v ∈ cs, v.oneCell' = true := by rw [hcs]; intro v hv; obtain ⟨y, _, rfl⟩ := List.mem_map.1 hv; rfl
  have hsp : (Go.splice (zb.map (Value.int .u8)) 0 cs).toArray = arr .u8 k32 := by
    unfold Go.splice arr
    rw [List.take_zero, List.nil_append, Nat.zero_add, csl, List.drop_of_length_le (by rw [List.length_map, hzbl]; exact Nat.le_refl _), List.append_nil, hcs]
  have hrg : ∀ (w' : World) (g : Nat), w'.heap[g]? = some (.cells (arr .u8 bl) 75 (0, 0)) → ∀ j v, cs[j]? = some v → w'.cell? (Addr.add ⟨g, 0, none⟩ j) = some v := by
    intro w' g hg j v hj
    have := range_part hg 0 cs (by rw [csl, List.drop_zero, arr_toList, ← List.map_take, ← hk32, hcs])
    have e : Addr.add ⟨g, 0, none⟩ j = ⟨g, 0 + j, none⟩ := by
      unfold Addr.add
      split
      · rename_i h0; rw [h0]
      · rfl
    rw [e]
    exact this j v hj
  obtain ⟨xa, hxa⟩ : ∃ x, x = beside ++ List.replicate (zr beside.length) 0 := ⟨_, rfl⟩
  obtain ⟨xb, hxb⟩ : ∃ x, x = xa ++ c := ⟨_, rfl⟩
  obtain ⟨xc, hxc⟩ : ∃ x, x = xb ++ List.replicate (zr xb.length) 0 := ⟨_, rfl⟩
  obtain ⟨xd, hxd⟩ : ∃ x, x = xc ++ le8 n2 := ⟨_, rfl⟩
  have hz1 : zr beside.length < 16 := Nat.mod_lt _ (by decide)
  have hz2 : zr xb.length < 16 := Nat.mod_lt _ (by decide)
  have xal : xa.length ≤ n2 + 16 := by rw [hxa, List.length_append, List.length_replicate]; omega
  have xbl : xb.length ≤ n1 + n2 + 16 := by rw [hxb, List.length_append]; omega
  have xcl : xc.length ≤ n1 + n2 + 32 := by rw [hxc, List.length_append, List.length_replicate]; omega
  have xdl : xd.length ≤ n1 + n2 + 40 := by rw [hxd, List.length_append, le8_len]; omega
  rw [← hbl, ← hxa, ← hxb, ← hxc, hbl, ← hxd] at hmsg
  have XA := Lib.hid hxa.symm
  have XB := Lib.hid hxb.symm
  have XC := Lib.hid hxc.symm
  have XD := Lib.hid hxd.symm
  have XE := Lib.hid hmsg
  have XAL := Lib.hid xal
  have XBL := Lib.hid xbl
  have XCL := Lib.hid xcl
  have XDL := Lib.hid xdl
  clear hxa hxb hxc hxd hz1 hz2 xal xbl xcl xdl
  have HS0 := Lib.hid S0
  have HK := Lib.hid hk
  have HN := Lib.hid hn
  have HC := Lib.hid hc
  have HB := Lib.hid hb
  have HCL := Lib.hid hcl
  have HBL := Lib.hid hbl
  have HYT := Lib.hid hyt
  have HZT := Lib.hid hztl
  have HYB := Lib.hid hyb
  have HZB := Lib.hid hzbl
  have HYG := Lib.hid hyg
  have HZG := Lib.hid hzgl
  have HM1 := Lib.hid M1
  have HM5 := Lib.hid M5
  have TGL := Lib.hid tgl
  have BLL := Lib.hid bll
  have ML := Lib.hid ml
  have K32L := Lib.hid k32l
  have CSL := Lib.hid csl
  have CSO := Lib.hid cso
  have HSP := Lib.hid hsp
  have HRG := Lib.hid hrg
  clear S0 hk hn hc hb hcl hbl hyt hztl hyb hzbl hyg hzgl M1 M5 hmsg tgl bll ml k32l csl cso hsp hrg hzt hzb hzg htg hbl' blb hM mb hk32 k32b htg2 bk bn bc bb hcs
  go_enter Try.func27, Try.ntmps27
  go_wp2_with (first | ((with_reducible show wpList _ _ _ (Oper.mk (some 8) _ _ _ _ _ :: _) _ _); refine wpList_alloc_row rfl 61 rfl _ (HYT.out _) ?_) | ((with_reducible show wpList _ _ _ (Oper.mk (some 12) _ _ _ _ _ :: _) _ _); refine wpList_load_part rfl 23 _ rfl w.heap.size 0 _ 23 (0, 0) _ HS0.out.b0 rfl .u8 key (arr_part _ _) Try.underlying23 rfl (by rw [HK.out]; exact size32) ?_) | ((with_reducible show wpList _ _ _ (Oper.mk (some 13) _ _ _ _ _ :: _) _ _); refine wpList_load_part rfl 46 _ rfl (w.heap.size + 1) 0 _ 46 (0, 0) _ HS0.out.b1 rfl .u8 nonce (arr_part _ _) Try.underlying46 rfl (by rw [HN.out]; exact size12) ?_) | ((with_reducible show Calls _ _ _ _ _); go_at_call 38; refine (HM1.out _).mono ?_; rintro e w1 ⟨rfl, hbw⟩; have HB1 := Lib.hid (HS0.out.after hbw); have hl1 := blk_lt HB1.out.b2; clear hbw) | ((with_reducible show wpList _ _ _ (Oper.mk (some 9) _ _ _ _ _ :: _) _ _); refine wpList_alloc_row rfl 75 rfl _ (HYG.out _) ?_; go_simp) | ((with_reducible show wpList _ _ _ (Oper.mk none (Op.store _ (Operand.tmp 9) _) _ _ _ _ :: _) _ _); refine wpList_store_whole rfl 75 _ _ rfl w1.heap.size _ _ 75 (blk_new _ _) rfl rfl (by rw [arr_size, arr_size, BLL.out, HZG.out]) (arrSig bl BLL.out) (all_arr _ _) ?_; intro w2 hb2 hk2 hz2; have HB2 := Lib.hid ((HB1.out.alloc (.cells (arr .u8 zg) 75)).farK hk2 (by rintro i rfl; omega)); have HG2 := Lib.hid hb2; have hl2 := blk_lt hb2; clear hb2 hk2 hz2) | ((with_reducible show wpList _ _ _ (Oper.mk (some 10) _ _ _ _ _ :: _) _ _); refine wpList_alloc_row rfl 23 rfl _ (HYB.out _) ?_))
  have HB3 := Lib.hid (HB2.out.alloc (.cells (arr .u8 zb) 23)).drew
  have HG3 : Hid ((w2.alloc (.cells (arr .u8 zb) 23)).drew.heap[w1.heap.size]? = some (.cells (arr .u8 bl) 75 (0, 0))) := Lib.hid (blk_alloc HG2.out (.cells (arr .u8 zb) 23))
  have HO3 : Hid ((w2.alloc (.cells (arr .u8 zb) 23)).drew.heap[w2.heap.size]? = some (.cells (arr .u8 zb) 23 (0, 0))) := Lib.hid (blk_new w2 (.cells (arr .u8 zb) 23))
  (try simp only [Act.put])
  go_still_tail 2, (by kernel_rfl)
  change wpList _ _ _ _ _ (w2.alloc (.cells (arr .u8 zb) 23)).drew
  generalize (w2.alloc (.cells (arr .u8 zb) 23)).drew = w3 at HB3 HG3 HO3 ⊢
  go_wp2_with (first | ((with_reducible show wpList _ _ _ (Oper.mk (some 17) _ _ _ _ _ :: _) _ _); refine wpList_copy_splice rfl (.tmp 15) (.tmp 16) 24 24 rfl 5 Try.underlying24 size_u8 _ _ _ _ _ _ rfl rfl w2.heap.size 0 (zb.map (Value.int .u8)) 23 HO3.out cs (by rw [CSL.out]; rfl) (fun _ => ⟨rfl, ⟨w1.heap.size, 0, none⟩, rfl, HRG.out _ _ HG3.out⟩) (by rw [CSL.out, List.length_map, HZB.out]; omega) CSO.out w2.heap.size w3 (Below.refl _ _) (Nat.le_refl _) ?_; intro w4 hb4 hw4; have hb4' := hb4.out; rw [HSP.out] at hb4'; have HO4 := Lib.hid hb4'; have HB4 := Lib.hid (B3.of_below HB3.out hl2 hl1 hw4); have hl4 := blk_lt hb4'; clear hb4 hb4' hw4) | ((with_reducible show wpList _ _ _ (Oper.mk (some 19) _ _ _ _ _ :: _) _ _); refine wpList_app8 rfl _ _ rfl w4.heap.size (.slice none 0 0) [] rfl (Own8.nil _ _) sb n2 c2 beside rfl (HB.out.below HB4.out.below) (by simp; omega) (Nat.le_refl _) ?_; intro v5 w5 ho5 hg5 hn5 ha5; rw [List.nil_append] at ho5; have HO5 := Lib.hid ho5; have HW5 := Lib.hid ((Below.refl w4.heap.size w4).grown hg5 (Nat.le_refl _) (fun k hk => by cases hk)); clear ho5 hg5 hn5 ha5) | ((with_reducible show Calls _ _ _ w5 _); go_at_call 39; refine (filled_any w4.heap.size v5 beside w5 HO5.out HW5.out.size (by rw [HBL.out]; omega)).mono ?_; rintro e w6 ⟨v6, rfl, ho6, hw6⟩; rw [XA.out] at ho6; have HO6 := Lib.hid ho6; have HW6 := Lib.hid (HW5.out.trans hw6); clear ho6 hw6) | ((with_reducible show wpList _ _ _ (Oper.mk (some 23) _ _ _ _ _ :: _) _ _); refine wpList_app8 rfl _ _ rfl w4.heap.size v6 xa rfl HO6.out sc n1 c1 c rfl ((HC.out.below HB4.out.below).below HW6.out) (by have := XAL.out; omega) HW6.out.size ?_; intro v7 w7 ho7 hg7 hn7 ha7; have hw7 := app8_below HO6.out hg7 HW6.out HW6.out.size; rw [XB.out] at ho7; have HO7 := Lib.hid ho7; have HW7 := Lib.hid hw7; clear ho7 hg7 hn7 ha7 hw7) | ((with_reducible show Calls _ _ _ w7 _); go_at_call 39; refine (filled_any w4.heap.size v7 xb w7 HO7.out HW7.out.size (by have := XBL.out; omega)).mono ?_; rintro e w8 ⟨v8, rfl, ho8, hw8⟩; rw [XC.out] at ho8; have HO8 := Lib.hid ho8; have HW8 := Lib.hid (HW7.out.trans hw8); clear ho8 hw8) | ((with_reducible show Calls _ _ _ w8 _); go_at_call 40; refine (length_any n2 (by omega) w8).mono ?_; rintro e w9 ⟨v9, rfl, ho9, hw9⟩; obtain ⟨s9, c9, hv9, -, -, hs9, -⟩ := ho9.form; rw [le8_len] at hv9 hs9; subst hv9; have HS9 := Lib.hid hs9; have HO9 := Lib.hid (HO8.out.below hw9); have HW9 := Lib.hid (HW8.out.trans (hw9.mono HW8.out.size)); clear ho9 hw9 hs9) | ((with_reducible show wpList _ _ _ (Oper.mk (some 29) _ _ _ _ _ :: _) _ _); refine wpList_app8 rfl _ _ rfl w4.heap.size v8 xc rfl HO9.out s9 8 c9 (le8 n2) rfl HS9.out (by have := XCL.out; omega) HW9.out.size ?_; intro va wa hoa hga hna haa; have hwa := app8_below HO9.out hga HW9.out HW9.out.size; rw [XD.out] at hoa; have HOa := Lib.hid hoa; have HWa := Lib.hid hwa; clear hoa hga hna haa hwa) | ((with_reducible show Calls _ _ _ wa _); go_at_call 40; refine (length_any n1 (by omega) wa).mono ?_; rintro e wb ⟨vb, rfl, hob, hwb⟩; obtain ⟨sb', cb, hvb, -, -, hsb, -⟩ := hob.form; rw [le8_len] at hvb hsb; subst hvb; have HSb := Lib.hid hsb; have HOb := Lib.hid (HOa.out.below hwb); have HWb := Lib.hid (HWa.out.trans (hwb.mono HWa.out.size)); clear hob hwb hsb) | ((with_reducible show wpList _ _ _ (Oper.mk (some 33) _ _ _ _ _ :: _) _ _); refine wpList_app8 rfl _ _ rfl w4.heap.size va xd rfl HOb.out sb' 8 cb (le8 n1) rfl HSb.out (by have := XDL.out; omega) HWb.out.size ?_; intro vc wc hoc hgc hnc hac; have hwc := app8_below HOb.out hgc HWb.out HWb.out.size; rw [XE.out] at hoc; obtain ⟨sm, cm, hvm, -, -, hsm, -⟩ := hoc.form; subst hvm; have HSM := Lib.hid hsm; have HWc := Lib.hid hwc; have HBc := Lib.hid (HB4.out.after hwc); have HOc := Lib.hid (Below.blk hwc HO4.out hl4); clear hoc hgc hnc hac hwc hsm) | ((with_reducible show wpList _ _ _ (Oper.mk (some 34) _ _ _ _ _ :: _) _ _); refine wpList_load_part rfl 23 _ rfl w2.heap.size 0 _ 23 (0, 0) _ HOc.out rfl .u8 k32 (arr_part _ _) Try.underlying23 rfl (by rw [K32L.out]; exact size32) ?_) | ((with_reducible show Calls _ _ _ wc _); go_at_call 41; refine (HM5.out _ _ _ _ HSM.out ML.out).mono ?_; rintro e wd ⟨rfl, hbw⟩; have HBd := Lib.hid (HBc.out.after hbw); clear hbw) | ((with_reducible show wpList _ _ _ (Oper.mk none (Op.store _ (Operand.tmp 8) _) _ _ _ _ :: _) _ _); refine wpList_store_whole rfl 61 _ _ rfl (w.heap.size + 1 + 1) _ _ 61 HBd.out.b2 rfl rfl (by rw [arr_size, arr_size, TGL.out, HZT.out]) (arrTag tg TGL.out) (all_arr _ _) ?_; intro we hbe hke hze; have HBe := Lib.hid (HBd.out.put2 hke hbe); clear hbe hke hze))
  (try simp only [Exit.inBlock, Exit.then])
  refine bodyPost_ret (results_cell_row rfl _ _ (w.heap.size + 1 + 1) 61 _ (0, 0) _ rfl HBe.out.b2 Try.underlying61 rfl (arrTag tg TGL.out)) rfl ?_
  exact ⟨rfl, HBe.out.below⟩
end Go.Proofs.Ytoljnogpegemjaa.Ae
