/- What is sealed, in plain words. Condition: as each theorem says. -/
import Derived.Test.YtogebegdgfdijaaDoorCb
import Derived.Test.YtogebegdgfdijaaDoorPa
import Derived.Test.YtogebegdgfdijaaDoorCa
import Derived.Deep.LoopGhost
import Derived.BigRegion
import Derived.Test.YtogebegdgfdijaaDoorPb
import Derived.Laws.CopyOwn
import Derived.StillTailTactics
import Derived.Test.YtogebegdgfdijaaDoorMa
import Derived.Laws.Cover3
set_option maxRecDepth 100000
set_option maxHeartbeats 16000000
set_option linter.unusedSimpArgs false
set_option linter.unusedVariables false
namespace Go.Proofs.YtogebegdgfdijaaDoor.Ae
open Go.RowKit Lm Po Ch
/-- How many zeros follow so many bytes. -/
def zr (n : Nat) : Nat := (16 - n % 16) % 16
def le8 (n : Nat) : List Int := nar (dig 256 8 n)
/-- What the tag is summed over. -/
def msg (beside c : List Int) : List Int := beside ++ (List.replicate (zr beside.length) 0 ++ (c ++ (List.replicate (zr c.length) 0 ++ (le8 beside.length ++ le8 c.length))))
def toN (xs : List Int) : List Nat := xs.map Int.toNat
def tag (key nonce c beside : List Int) : List Int := nar (tagP (toN ((block key 0 nonce).take 32)) (toN (msg beside c)))
def seal' (key nonce plain beside : List Int) : List Int := turn key 1 nonce plain ++ tag key nonce (turn key 1 nonce plain) beside
def okay (key nonce b beside : List Int) : Bool := decide (16 ≤ b.length ∧ tag key nonce (b.take (b.length - 16)) beside = b.drop (b.length - 16))
def opened (key nonce b beside : List Int) : List Int := if okay key nonce b beside then turn key 1 nonce (b.take (b.length - 16)) else []
theorem toN_nar {xs : List Int} (h : bytes xs) : nar (toN xs) = xs := nar_of xs (fun x hx => (h x hx).1)
theorem toN_lt {xs : List Int} (h : bytes xs) : ∀ x ∈ toN xs, x < 256 := by
  intro x hx
  obtain ⟨y, hy, rfl⟩ := List.mem_map.1 hx
  have := h y hy
  omega
theorem toN_len (xs : List Int) : (toN xs).length = xs.length := by simp [toN]
theorem tag_len (key nonce c beside : List Int) : (tag key nonce c beside).length = 16 := by rw [tag, nar_len, tagP, dig_len]
theorem bytes_nar {xs : List Nat} (h : ∀ x ∈ xs, x < 256) : bytes (nar xs) := by
  intro x hx
  obtain ⟨y, hy, rfl⟩ := List.mem_map.1 hx
  have := h y hy
  show 0 ≤ (y : Int) ∧ (y : Int) ≤ 255
  omega
theorem bytes_tag (key nonce c beside : List Int) : bytes (tag key nonce c beside) := bytes_nar (dig_lt 256 (by decide) _ _)
theorem bytes_le8 (n : Nat) : bytes (le8 n) := bytes_nar (dig_lt 256 (by decide) _ _)
theorem le8_len (n : Nat) : (le8 n).length = 8 := by rw [le8, nar_len, dig_len]
theorem bytes_zeros (n : Nat) : bytes (List.replicate n 0) := by
  intro x hx
  rw [List.mem_replicate] at hx
  omega
theorem bytes_append {xs ys : List Int} (h : bytes xs) (k : bytes ys) : bytes (xs ++ ys) := by
  intro x hx
  rcases List.mem_append.1 hx with hx | hx
  · exact h x hx
  · exact k x hx
theorem bytes_take {xs : List Int} (h : bytes xs) (n : Nat) : bytes (xs.take n) := fun x hx => h x (List.mem_of_mem_take hx)
theorem bytes_drop {xs : List Int} (h : bytes xs) (n : Nat) : bytes (xs.drop n) := fun x hx => h x (List.mem_of_mem_drop hx)
theorem bytes_block (key : List Int) (c : Int) (nonce : List Int) : bytes (block key c nonce) := by
  intro x hx
  obtain ⟨i, _, rfl⟩ := List.mem_map.1 hx
  omega
theorem bytes_msg {beside c : List Int} (h : bytes beside) (k : bytes c) : bytes (msg beside c) :=
  bytes_append h (bytes_append (bytes_zeros _) (bytes_append k (bytes_append (bytes_zeros _) (bytes_append (bytes_le8 _) (bytes_le8 _)))))
theorem msg_len (beside c : List Int) : (msg beside c).length ≤ beside.length + c.length + 46 := by
  simp only [msg, List.length_append, List.length_replicate, le8_len]
  have h1 : zr beside.length < 16 := Nat.mod_lt _ (by decide)
  have h2 : zr c.length < 16 := Nat.mod_lt _ (by decide)
  omega
theorem xor_byte (x y : Int) : 0 ≤ bits .xor .u8 x y ∧ bits .xor .u8 x y ≤ 255 := by
  unfold bits
  simp only
  show 0 ≤ IntKind.u8.wrap _ ∧ IntKind.u8.wrap _ ≤ 255
  rw [IntKind.wrap_u8]
  omega
theorem bytes_turn (key : List Int) (c : Int) (nonce b : List Int) : bytes (turn key c nonce b) := by
  intro x hx
  obtain ⟨i, h, rfl⟩ := List.mem_mapIdx.1 hx
  exact xor_byte _ _
theorem xor8 (x y : Int) (h : 0 ≤ x ∧ x ≤ 255) (k : 0 ≤ y ∧ y ≤ 255) : bits .xor .u8 (bits .xor .u8 x y) y = x := by
  obtain ⟨a, rfl⟩ : ∃ a : Nat, x = a := ⟨x.toNat, by omega⟩
  obtain ⟨b, rfl⟩ : ∃ b : Nat, y = b := ⟨y.toNat, by omega⟩
  have ha : a < 2 ^ 8 := by omega
  have hb : b < 2 ^ 8 := by omega
  have e : ∀ a b : Nat, a < 2 ^ 8 → b < 2 ^ 8 → bits .xor .u8 (a : Int) (b : Int) = ((a ^^^ b : Nat) : Int) := by
    intro a b ha hb
    have h1 : (BitVec.ofInt 8 (a : Int)).toNat = a := by rw [BitVec.ofInt_natCast, BitVec.toNat_ofNat]; exact Nat.mod_eq_of_lt ha
    have h2 : (BitVec.ofInt 8 (b : Int)).toNat = b := by rw [BitVec.ofInt_natCast, BitVec.toNat_ofNat]; exact Nat.mod_eq_of_lt hb
    show IntKind.u8.wrap ((BitVec.ofInt 8 (a : Int) ^^^ BitVec.ofInt 8 (b : Int)).toNat : Int) = _
    rw [BitVec.toNat_xor, h1, h2, IntKind.wrap_u8]
    have := Nat.xor_lt_two_pow ha hb
    omega
  rw [e a b ha hb, e _ b (Nat.xor_lt_two_pow ha hb) hb, Nat.xor_assoc, Nat.xor_self, Nat.xor_zero]
theorem turn_turn (key : List Int) (c : Int) (nonce b : List Int) (h : bytes b) : turn key c nonce (turn key c nonce b) = b := by
  apply List.ext_getElem
  · rw [turn_len, turn_len]
  · intro i h1 h2
    have e1 := turn_at key c nonce (turn key c nonce b) i (by rw [turn_len]; exact h2)
    have e2 := turn_at key c nonce b i h2
    rw [e2] at e1
    have g1 : (turn key c nonce (turn key c nonce b)).getD i 0 = (turn key c nonce (turn key c nonce b))[i] := by simp [List.getD, h1]
    have g2 : b.getD i 0 = b[i] := by simp [List.getD, h2]
    rw [← g1, e1, ← g2]
    exact xor8 _ _ (bytes_at h i) (bytes_at (bytes_block _ _ _) _)
theorem seal_len (key nonce plain beside : List Int) : (seal' key nonce plain beside).length = plain.length + 16 := by rw [seal', List.length_append, turn_len, tag_len]
theorem bytes_seal (key nonce plain beside : List Int) : bytes (seal' key nonce plain beside) := bytes_append (bytes_turn _ _ _ _) (bytes_tag _ _ _ _)
theorem okay_seal (key nonce plain beside : List Int) : okay key nonce (seal' key nonce plain beside) beside = true := by
  have hl := seal_len key nonce plain beside
  have e : plain.length = (turn key 1 nonce plain).length := (turn_len _ _ _ _).symm
  unfold okay
  rw [hl, Nat.add_sub_cancel, seal', e, List.take_left, List.drop_left]
  simp [turn_len]
theorem opened_seal (key nonce plain beside : List Int) (h : bytes plain) : opened key nonce (seal' key nonce plain beside) beside = plain := by
  have hl := seal_len key nonce plain beside
  have e : plain.length = (turn key 1 nonce plain).length := (turn_len _ _ _ _).symm
  unfold opened
  rw [okay_seal, if_pos rfl, hl, Nat.add_sub_cancel, seal', e, List.take_left, turn_turn _ _ _ _ h]
end Go.Proofs.YtogebegdgfdijaaDoor.Ae
namespace Go.Proofs.YtogebegdgfdijaaDoor.Ae
open Go.RowKit Lm Po Ch
theorem byte_of (n i : Nat) : IntKind.u8.wrap ((n : Int) / 2 ^ (8 * i)) = ((n / 256 ^ i % 256 : Nat) : Int) := by
  rw [IntKind.wrap_u8, show (256 : Nat) ^ i = 2 ^ (8 * i) by rw [Nat.pow_mul], Int.natCast_emod, Int.natCast_ediv, Int.natCast_pow]
  rfl
theorem rest_any (n : Nat) (hn : n ≤ 1099511627776) (w : World) :
    Calls Tryd.prog 40 #[.int .i64 (n : Int)] w fun e w' => ∃ sa, e = .returned (.slice sa (zr n) (zr n)) ∧ Src w' sa (zr n) (List.replicate (zr n) 0) ∧ Below w.heap.size w w' := by
  have e1 : (16 - (n : Int) % 16) % 16 = ((zr n : Nat) : Int) := by unfold zr; omega
  have hz : zr n < 16 := Nat.mod_lt _ (by decide)
  generalize zr n = z at e1 hz ⊢
  have hmk := mk8 z (by omega)
  have HZ := Lib.hid hz
  clear hz
  go_enter Tryd.func40, Tryd.ntmps40
  go_wp2
  go_ret
  refine ⟨_, rfl, ?_, (Below.refl _ w).alloc (Nat.le_refl _) _⟩
  have := src_blk (w := w.alloc (.cells (row8 (zeros z) []) 5)) (blk_new w _)
  simpa [zeros] using this
theorem eight_any (n : Nat) (w : World) :
    Calls Tryd.prog 41 #[.int .i64 (n : Int)] w fun e w' => ∃ sa, e = .returned (.slice sa 8 8) ∧ Src w' sa 8 (le8 n) ∧ Below w.heap.size w w' := by
  have hmk := mk8 8 (by decide)
  obtain ⟨F, hF⟩ : ∃ F : Nat → Nat, F = fun i => n / 256 ^ i % 256 := ⟨_, rfl⟩
  obtain ⟨z8, hz8⟩ : ∃ z, z = zeros 8 := ⟨_, rfl⟩
  have hz0 : z8 = nar (upto F 8 0) := by rw [upto_zero, nar_zeros, hz8]; rfl
  rw [← hz8] at hmk
  have hb : ∀ i, IntKind.u8.wrap ((n : Int) / 2 ^ (8 * i)) = ((F i : Nat) : Int) := fun i => by rw [hF]; exact byte_of n i
  have hend : nar (upto F 8 8) = le8 n := by rw [le8, dig_upto, hF]
  have b0 := blk_new w (.cells (row8 z8 []) 5)
  have w0 : Below w.heap.size w (w.alloc (.cells (row8 z8 []) 5)) := (Below.refl _ w).alloc (Nat.le_refl _) _
  have B0 := Lib.hid b0
  have W0 := Lib.hid w0
  have HZ := Lib.hid hz0
  have HB := Lib.hid hb
  have HE := Lib.hid hend
  clear b0 w0 hz0 hb hend hz8 hF
  have hmk2 : ∀ w : World, (Instr.makeSlice 25 (.int .i64 8) (.int .i64 8)).run Tryd.prog w = .ok (.slice (some ⟨w.heap.size, 0, none⟩) 8 8) (w.alloc (.cells (row8 z8 []) 5)) := hmk
  clear hmk
  go_enter Tryd.func41, Tryd.ntmps41
  go_wp2
  go_loopw [8] (fun v wr => ∃ i : Nat, i ≤ 8 ∧ v = .int .i64 i ∧ wr.heap[w.heap.size]? = some (.cells (row8 (nar (upto F 8 i)) []) 5 (0, 0)) ∧ Below w.heap.size w wr) (fun v _ => 8 - (intOf v).toNat)
  case atStart => exact ⟨0, Nat.zero_le _, rfl, by rw [← HZ.out]; exact B0.out, W0.out⟩
  clear B0 W0
  case round =>
  obtain ⟨i, hi, rfl, hb, hw⟩ := hrel
  by_cases hlt : i < 8
  · have hl : i < (nar (upto F 8 i)).length := by rw [nar_len, upto_len]; exact hlt
    have q2 := (cell_blk hb i).trans (row8_get _ [] i hl)
    have q3 := free_blk hb i
    have hb1 : (wr.setCell ⟨w.heap.size, i, none⟩ (.int .u8 (IntKind.u8.wrap ((n : Int) / 2 ^ (8 * i))))).heap[w.heap.size]? = some (.cells (row8 (nar (upto F 8 (i + 1))) []) 5 (0, 0)) := by
      rw [HB.out, blk_setCell hb, row8_set _ _ _ hl, ← nar_set, upto_set]
    have HB1 := Lib.hid hb1
    have HW1 := Lib.hid (hw.setCell (p := ⟨w.heap.size, i, none⟩) (Nat.le_refl _) (.int .u8 (IntKind.u8.wrap ((n : Int) / 2 ^ (8 * i)))))
    clear hb hw hb1 hl
    go_wp2
    go_roundw
    case rel => exact ⟨i + 1, by omega, by go_num, HB1.out, HW1.out⟩
    case measure => simp [intOf]; omega
  · have ei : i = 8 := by omega
    rw [ei, HE.out] at hb
    have HB1 := Lib.hid hb
    have HW1 := Lib.hid hw
    clear hb hw ei
    go_wp2
    go_ret
    refine ⟨_, rfl, ?_, HW1.out⟩
    have := src_blk HB1.out
    rwa [le8_len] at this
theorem or_zero (a b : Nat) : a ||| b = 0 ↔ a = 0 ∧ b = 0 := by
  constructor
  · intro h
    have h1 : a ≤ a ||| b := Nat.left_le_or
    have h2 : b ≤ a ||| b := Nat.right_le_or
    omega
  · rintro ⟨rfl, rfl⟩; rfl
theorem xor_zero (a b : Nat) : a ^^^ b = 0 ↔ a = b := by
  constructor
  · intro h
    have : a ^^^ b ^^^ b = b := by rw [h, Nat.zero_xor]
    rwa [Nat.xor_assoc, Nat.xor_self, Nat.xor_zero] at this
  · rintro rfl; exact Nat.xor_self _
theorem orx (o x y : Int) (ho : 0 ≤ o ∧ o ≤ 255) (hx : 0 ≤ x ∧ x ≤ 255) (hy : 0 ≤ y ∧ y ≤ 255) :
    (0 ≤ bits .or .u8 o (bits .xor .u8 x y) ∧ bits .or .u8 o (bits .xor .u8 x y) ≤ 255) ∧ (bits .or .u8 o (bits .xor .u8 x y) = 0 ↔ o = 0 ∧ x = y) := by
  obtain ⟨a, rfl⟩ : ∃ a : Nat, o = a := ⟨o.toNat, by omega⟩
  obtain ⟨b, rfl⟩ : ∃ a : Nat, x = a := ⟨x.toNat, by omega⟩
  obtain ⟨c, rfl⟩ : ∃ a : Nat, y = a := ⟨y.toNat, by omega⟩
  have ha : a < 2 ^ 8 := by omega
  have hb : b < 2 ^ 8 := by omega
  have hc : c < 2 ^ 8 := by omega
  have hbc := Nat.xor_lt_two_pow hb hc
  have hor := Nat.or_lt_two_pow ha hbc
  have k : ∀ a : Nat, a < 2 ^ 8 → (BitVec.ofInt 8 (a : Int)).toNat = a := fun a h => by rw [BitVec.ofInt_natCast, BitVec.toNat_ofNat]; exact Nat.mod_eq_of_lt h
  have e1 : bits .xor .u8 (b : Int) (c : Int) = ((b ^^^ c : Nat) : Int) := by
    show IntKind.u8.wrap ((BitVec.ofInt 8 (b : Int) ^^^ BitVec.ofInt 8 (c : Int)).toNat : Int) = _
    rw [BitVec.toNat_xor, k b hb, k c hc, IntKind.wrap_u8]
    omega
  have e2 : bits .or .u8 (a : Int) ((b ^^^ c : Nat) : Int) = ((a ||| (b ^^^ c) : Nat) : Int) := by
    show IntKind.u8.wrap ((BitVec.ofInt 8 (a : Int) ||| BitVec.ofInt 8 ((b ^^^ c : Nat) : Int)).toNat : Int) = _
    rw [BitVec.toNat_or, k a ha, k _ hbc, IntKind.wrap_u8]
    omega
  rw [e1, e2]
  refine ⟨by omega, ?_⟩
  have h1 := or_zero a (b ^^^ c)
  have h2 := xor_zero b c
  omega
theorem same_any' (sa sb : Option Addr) (n m c d : Nat) (xs ys : List Int) (w : World) (hs : Src w sa n xs) (ht : Src w sb m ys) (bx : bytes xs) (bb : bytes ys) (hn : n ≤ 1099511627776) :
    Calls Tryd.prog 32 #[.slice sa n c, .slice sb m d] w fun e w' => e = .returned (.bool (decide (xs = ys))) ∧ Below w.heap.size w w' := by
  have hxl := hs.len
  have hyl := ht.len
  by_cases hnm : n = m
  · have e0 : ((n : Int) != (m : Int)) = false := by rw [hnm]; simp
    obtain ⟨bv, hbv⟩ : ∃ b, b = decide (xs = ys) := ⟨_, rfl⟩
    rw [← hbv]
    have HBV := Lib.hid hbv
    have HS := Lib.hid hs
    have HT := Lib.hid ht
    have BX := Lib.hid bx
    have BB := Lib.hid bb
    have HXL := Lib.hid hxl
    have HYL := Lib.hid hyl
    have HNM := Lib.hid hnm
    clear hbv hs ht bx bb hxl hyl hnm
    go_enter Tryd.func32, Tryd.ntmps32
    go_wp2_with fail
    go_loopw [5, 14] (fun ov iv wr => ∃ (i : Nat) (o : Int), i ≤ n ∧ iv = .int .i64 i ∧ ov = .int .u8 o ∧ (0 ≤ o ∧ o ≤ 255) ∧ (o = 0 ↔ xs.take i = ys.take i) ∧ Below w.heap.size w wr) (fun _ iv _ => n - (intOf iv).toNat)
    case atStart => exact ⟨0, 0, Nat.zero_le _, rfl, rfl, ⟨by decide, by decide⟩, by simp, Below.refl _ w⟩
    case round =>
    obtain ⟨i, o, hi, rfl, rfl, ho, hoe, hw⟩ := hrel
    by_cases hlt : i < n
    · obtain ⟨ad, rfl, hc⟩ := HS.out.cell i hlt
      obtain ⟨ad2, rfl, hd⟩ := HT.out.cell i (by rw [← HNM.out]; exact hlt)
      have x0 := below_cell hw hc
      have x1 := below_cell hw hd
      have b0 := bytes_at BX.out i
      have b1 := bytes_at BB.out i
      obtain ⟨k1, k2⟩ := orx o _ _ ho b0 b1
      have hst : bits .or .u8 o (bits .xor .u8 (xs.getD i 0) (ys.getD i 0)) = 0 ↔ xs.take (i + 1) = ys.take (i + 1) := by
        rw [k2, hoe, take_snoc xs i 0 (by rw [HXL.out]; exact hlt), take_snoc ys i 0 (by rw [HYL.out, ← HNM.out]; exact hlt)]
        constructor
        · rintro ⟨h1, h2⟩; rw [h1, h2]
        · intro h
          have hl : (xs.take i).length = (ys.take i).length := by rw [List.length_take, List.length_take, HXL.out, HYL.out, HNM.out]
          have := List.append_inj h hl
          exact ⟨this.1, by simpa using this.2⟩
      generalize xs.getD i 0 = x at x0 b0 hst k1
      generalize ys.getD i 0 = y at x1 b1 hst k1
      have K1 := Lib.hid k1
      have HST := Lib.hid hst
      have HW := Lib.hid hw
      have hlt2 : (i : Int) < (m : Int) := by have := HNM.out; omega
      clear k1 k2 hst hw hoe hc hd ho b0 b1
      go_wp2_with fail
      go_region
      clear x0 x1 hlt2
      go_wp2_with fail
      go_roundw
      case rel => exact ⟨i + 1, _, by omega, by go_num, rfl, K1.out, HST.out, ⟨HW.out.os, HW.out.tape, HW.out.output, HW.out.size, HW.out.block⟩⟩
      case measure => simp [intOf]; omega
    · have ei : i = n := by omega
      rw [ei, List.take_of_length_le (by rw [HXL.out]; exact Nat.le_refl _), List.take_of_length_le (by rw [HYL.out, HNM.out]; exact Nat.le_refl _)] at hoe
      have hfin : (o == 0) = bv := by
        rw [HBV.out]
        by_cases h : xs = ys
        · rw [hoe.2 h, decide_eq_true h]; rfl
        · rw [decide_eq_false h, beq_eq_false_iff_ne]; exact fun h0 => h (hoe.1 h0)
      have HW := Lib.hid hw
      have HFIN := Lib.hid hfin
      clear hoe ei hfin hw
      go_wp2_with fail
      go_ret
      exact ⟨by rw [← HFIN.out]; rfl, HW.out⟩
  · have e0 : ((n : Int) != (m : Int)) = true := by simp; omega
    have hne : decide (xs = ys) = false := by
      rw [decide_eq_false_iff_not]; intro h; apply hnm; rw [← hxl, ← hyl, h]
    rw [hne]
    clear hs ht bx bb hxl hyl hnm hne
    go_enter Tryd.func32, Tryd.ntmps32
    go_wp2_with fail
    go_ret
    exact ⟨rfl, Below.refl _ w⟩
end Go.Proofs.YtogebegdgfdijaaDoor.Ae
namespace Go.Proofs.YtogebegdgfdijaaDoor.Ae
open Go.RowKit Lm Po Ch
structure OwnR (B : Nat) (w wr : World) (v : Value) (xs : List Int) : Prop where
  own : Own8 wr B v xs
  below : Below B w wr
theorem OwnR.app {B : Nat} {w wr w' : World} {v v' : Value} {xs ys : List Int} (h : OwnR B w wr v xs) (hB : B ≤ wr.heap.size) (o : Obj) (h1 : Own8 w' B v' (xs ++ ys)) (hg : (wr.alloc o).grownBy w' v.ownBlock) : OwnR B w w' v' (xs ++ ys) :=
  ⟨h1, app8_below (h.own.alloc o) hg (h.below.alloc hB o) (Nat.le_trans hB (by simp))⟩
theorem rep_snoc (k : Nat) : List.replicate (k + 1) (0 : Int) = List.replicate k 0 ++ [0] := List.replicate_succ'
theorem filled_any (B : Nat) (v : Value) (xs : List Int) (w : World) (ho : Own8 w B v xs) (hB : B ≤ w.heap.size) (hn : xs.length ≤ 2199023255552) :
    Calls Tryd.prog 62 #[v] w fun e w' => ∃ v', e = .returned v' ∧ Own8 w' B v' (xs ++ List.replicate (zr xs.length) 0) ∧ Below B w w' := by
  obtain ⟨s0, c0, hv0, -⟩ := ho.form
  subst hv0
  obtain ⟨n, hnl⟩ : ∃ n, n = xs.length := ⟨_, rfl⟩
  rw [← hnl] at hn ⊢
  obtain ⟨Z, hZ⟩ : ∃ Z, Z = zr n := ⟨_, rfl⟩
  rw [← hZ]
  have hz16 : Z < 16 := by rw [hZ]; exact Nat.mod_lt _ (by decide)
  have hmod0 : ∀ k, k < Z → (n + k) % 16 ≠ 0 := by rw [hZ]; unfold zr; omega
  have hmod1 : (n + Z) % 16 = 0 := by rw [hZ]; unfold zr; omega
  have HO := Lib.hid ho
  have HNL := Lib.hid hnl
  have HM0 := Lib.hid hmod0
  have HM1 := Lib.hid hmod1
  clear ho hZ hmod0 hmod1
  clear hnl
  go_enter Tryd.func62, Tryd.ntmps62
  go_wp2_with fail
  go_loopg [0] Z (fun g m wr => ∃ (k l : Nat) (sv : Option Addr) (cv : Nat), g + k = Z ∧ l = n + k ∧ m = .slice sv l cv ∧ OwnR B w wr (.slice sv l cv) (xs ++ List.replicate k 0))
  case atStart => exact ⟨0, n, s0, c0, by omega, rfl, rfl, ⟨by rw [List.replicate_zero, List.append_nil, HNL.out]; exact HO.out, Below.refl _ w⟩⟩
  case round =>
    obtain ⟨k, l, sv, cv, hk, hl, rfl, hp⟩ := hrel
    obtain ⟨wo, rfl⟩ : ∃ wo : World, wo = wr := ⟨_, rfl⟩
    have hl1 : l ≤ 140737488355000 := by omega
    have HL := Lib.hid hl
    have hBw : B ≤ wo.heap.size := Nat.le_trans hB hp.below.size
    by_cases hlt : k < Z
    · have t1 : (((l : Int) % 16) != 0) = true := by have := HM0.out k hlt; simp; omega
      have HP := Lib.hid hp
      clear hp hl
      go_wp2_with ((with_reducible refine aS 9 ?_); refine wpList_app8 rfl _ _ rfl B (.slice sv l cv) (xs ++ List.replicate k 0) rfl (HP.out.own.alloc _) (some ⟨wo.heap.size, 0, none⟩) 1 _ [0] rfl (src_one _ _) ?_ (Nat.le_trans hBw (by simp)) ?_; (rw [List.length_append, ← HNL.out, List.length_replicate]; omega); intro v5 w5 hown5 hgrow5 hnil5 hat5; have hp5 := HP.out.app hBw _ hown5 hgrow5; clear hown5 hgrow5 hnil5 hat5; rw [List.append_assoc, ← rep_snoc] at hp5; obtain ⟨s5, c5, hv5, -⟩ := hp5.own.form; rw [List.length_append, ← HNL.out, List.length_replicate, show n + (k + 1) = l + 1 by have := HL.out; omega] at hv5; subst hv5; have HP5 := Lib.hid hp5; clear hp5)
      go_roundg (gk - 1)
      case measure => omega
      case rel => exact ⟨k + 1, l + 1, s5, c5, by omega, by have := HL.out; omega, rfl, HP5.out⟩
    · have ek : k = Z := by omega
      have t1 : (((l : Int) % 16) != 0) = false := by have := HM1.out; simp; omega
      rw [ek] at hp
      have HP := Lib.hid hp
      clear hp hl ek
      go_wp2_with fail
      go_ret
      exact ⟨_, rfl, HP.out.own, HP.out.below⟩
theorem length_any (n : Nat) (hn : n ≤ 2199023255552) (w : World) :
    Calls Tryd.prog 63 #[.int .i64 (n : Int)] w fun e w' => ∃ v, e = .returned v ∧ Own8 w' w.heap.size v (le8 n) ∧ Below w.heap.size w w' := by
  obtain ⟨tk, htk⟩ : ∃ tk : Nat → List Int, tk = fun i => (le8 n).take i := ⟨_, rfl⟩
  have ht0 : tk 0 = [] := by rw [htk]; rfl
  have htl : ∀ i, i ≤ 8 → (tk i).length = i := by intro i hi; rw [htk]; show ((le8 n).take i).length = i; rw [List.length_take, le8_len]; omega
  have hts : ∀ i, i < 8 → tk i ++ [((n / 256 ^ i % 256 : Nat) : Int)] = tk (i + 1) := by
    intro i hi
    rw [htk]
    show (le8 n).take i ++ _ = (le8 n).take (i + 1)
    rw [take_snoc _ i 0 (by rw [le8_len]; exact hi), le8, nar_get, dig_get _ _ _ _ hi]
  have hte : tk 8 = le8 n := by rw [htk]; exact List.take_of_length_le (by rw [le8_len]; exact Nat.le_refl _)
  have hby : ∀ i, bits .and .i64 ((n : Int) / 2 ^ (8 * i)) 255 % 256 = ((n / 256 ^ i % 256 : Nat) : Int) := by
    intro i
    have e1 : (n : Int) / 2 ^ (8 * i) = ((n / 256 ^ i : Nat) : Int) := by
      rw [show (256 : Nat) ^ i = 2 ^ (8 * i) by rw [Nat.pow_mul], Int.natCast_ediv, Int.natCast_pow]
      rfl
    have hlt : n / 256 ^ i < 9223372036854775808 := Nat.lt_of_le_of_lt (Nat.div_le_self _ _) (by omega)
    have e2 : n / 256 ^ i &&& 255 = n / 256 ^ i % 256 := Nat.and_two_pow_sub_one_eq_mod _ 8
    have h1 : (BitVec.ofInt 64 ((n / 256 ^ i : Nat) : Int)).toNat = n / 256 ^ i := by rw [BitVec.ofInt_natCast, BitVec.toNat_ofNat]; exact Nat.mod_eq_of_lt (by omega)
    have h2 : (BitVec.ofInt 64 (255 : Int)).toNat = 255 := by decide
    have e3 : bits .and .i64 ((n / 256 ^ i : Nat) : Int) 255 = ((n / 256 ^ i % 256 : Nat) : Int) := by
      show IntKind.i64.wrap ((BitVec.ofInt 64 ((n / 256 ^ i : Nat) : Int) &&& BitVec.ofInt 64 (255 : Int)).toNat : Int) = _
      rw [BitVec.toNat_and, h1, h2, e2, IntKind.wrap_i64]
      omega
    rw [e1, e3]
    omega
  have T0 := Lib.hid ht0
  have TL := Lib.hid htl
  have TS := Lib.hid hts
  have TE := Lib.hid hte
  have BY := Lib.hid hby
  clear htk ht0 htl hts hte hby
  go_enter Tryd.func63, Tryd.ntmps63
  go_wp2_with fail
  go_loopg [3, 4] 8 (fun g m iv wr => ∃ (i : Nat) (sv : Option Addr) (cv : Nat), g + i = 8 ∧ iv = .int .i64 i ∧ m = .slice sv i cv ∧ OwnR w.heap.size w wr (.slice sv i cv) (tk i))
  case atStart => exact ⟨0, none, 0, rfl, rfl, rfl, ⟨by rw [T0.out]; exact Own8.nil _ _, Below.refl _ w⟩⟩
  case round =>
    obtain ⟨i, sv, cv, hi, rfl, rfl, hp⟩ := hrel
    obtain ⟨wo, rfl⟩ : ∃ wo : World, wo = wr := ⟨_, rfl⟩
    have hBw : w.heap.size ≤ wo.heap.size := hp.below.size
    have HP := Lib.hid hp
    clear hp
    by_cases hlt : i < 8
    · have e2 : (8 * (i : Int)).toNat = 8 * i := by omega
      have e3 : 0 ≤ 8 * (i : Int) := by omega
      have e4 : 8 * (i : Int) < 64 := by omega
      go_wp2_with ((with_reducible refine aS 18 ?_); rw [BY.out]; refine wpList_app8 rfl _ _ rfl w.heap.size (.slice sv i cv) (tk i) rfl (HP.out.own.alloc _) (some ⟨wo.heap.size, 0, none⟩) 1 _ [((n / 256 ^ i % 256 : Nat) : Int)] rfl (src_one _ _) ?_ (Nat.le_trans hBw (by simp)) ?_; (rw [TL.out i (by omega)]; omega); intro v5 w5 hown5 hgrow5 hnil5 hat5; have hp5 := HP.out.app hBw _ hown5 hgrow5; clear hown5 hgrow5 hnil5 hat5; rw [TS.out i hlt] at hp5; obtain ⟨s5, c5, hv5, -⟩ := hp5.own.form; rw [TL.out (i + 1) (by omega)] at hv5; subst hv5; have HP5 := Lib.hid hp5; clear hp5)
      go_roundg (gk - 1)
      case measure => omega
      case rel => exact ⟨i + 1, s5, c5, by omega, by go_num, rfl, HP5.out⟩
    · have ei : i = 8 := by omega
      have hp2 : Own8 wo w.heap.size (.slice sv i cv) (le8 n) := by
        have := HP.out.own
        rw [show tk i = le8 n by rw [ei]; exact TE.out] at this
        exact this
      have HP2 := Lib.hid hp2
      clear ei hp2
      go_wp2_with fail
      go_ret
      exact ⟨_, rfl, HP2.out, HP.out.below⟩
end Go.Proofs.YtogebegdgfdijaaDoor.Ae
namespace Go.Proofs.YtogebegdgfdijaaDoor.Ae
open Go.RowKit Lm Po Ch
theorem zr_add (a b : Nat) (h : a % 16 = 0) : zr (a + b) = zr b := by unfold zr; omega
theorem zr_full (a : Nat) : (a + zr a) % 16 = 0 := by unfold zr; omega
/-- The document's way to what the tag is summed over. -/
theorem msg_ref (beside c : List Int) : ((((beside ++ List.replicate (zr beside.length) 0) ++ c) ++ List.replicate (zr ((beside ++ List.replicate (zr beside.length) 0) ++ c).length) 0) ++ le8 beside.length) ++ le8 c.length = msg beside c := by
  have h : zr ((beside ++ List.replicate (zr beside.length) 0) ++ c).length = zr c.length := by
    rw [List.length_append, List.length_append, List.length_replicate]
    exact zr_add _ _ (zr_full _)
  rw [h, msg]
  simp only [List.append_assoc]
theorem arrTag (xs : List Int) (hl : xs.length = 16) : (Tryd.prog.info? 47).map (·.size) = some (arr .u8 xs).size := by rw [arr_size, hl]; kernel_rfl
theorem arrSig (xs : List Int) (hl : xs.length = 64) : (Tryd.prog.info? 65).map (·.size) = some (arr .u8 xs).size := by rw [arr_size, hl]; kernel_rfl
theorem B3.of_below {w wr w' : World} {c0 c1 c2 : Array Value} {t0 t1 t2 : TypeId} {B b : Nat} (h : B3 w wr c0 c1 c2 t0 t1 t2) (h1 : b < B) (h2 : w.heap.size + 1 + 1 < b) (k : Below B wr w') : B3 w w' c0 c1 c2 t0 t1 t2 :=
  ⟨Below.blk k h.b0 (by omega), Below.blk k h.b1 (by omega), Below.blk k h.b2 (by omega), h.below.trans (k.mono (by omega))⟩
theorem rtag_any (key nonce c beside : List Int) (sc sb : Option Addr) (n1 n2 c1 c2 : Nat) (w : World) (hk : key.length = 32) (hn : nonce.length = 12) (bk : bytes key) (bn : bytes nonce) (hc : Src w sc n1 c) (hb : Src w sb n2 beside) (bc : bytes c) (bb : bytes beside) (l1 : n1 ≤ 274877906944) (l2 : n2 ≤ 274877906944) :
    Calls Tryd.prog 34 #[.agg (arr .u8 key), .agg (arr .u8 nonce), .slice sc n1 c1, .slice sb n2 c2] w fun e w' => e = .returned (.agg (arr .u8 (tag key nonce c beside))) ∧ Below w.heap.size w w' := by
  have hcl := hc.len
  have hbl := hb.len
  obtain ⟨zt, hzt⟩ : ∃ zs : List Int, zs = List.replicate 16 0 := ⟨_, rfl⟩
  have hyt : ∀ w, (zeroValue 47).run Tryd.prog w = .ok (.agg (arr .u8 zt)) w := by intro w; rw [hzt]; exact zeroTag w
  have hztl : zt.length = 16 := by rw [hzt]; rfl
  obtain ⟨zb, hzb⟩ : ∃ zs : List Int, zs = List.replicate 32 0 := ⟨_, rfl⟩
  have hyb : ∀ w, (zeroValue 23).run Tryd.prog w = .ok (.agg (arr .u8 zb)) w := by intro w; rw [hzb]; exact zero32' w
  have hzbl : zb.length = 32 := by rw [hzb]; rfl
  obtain ⟨zg, hzg⟩ : ∃ zs : List Int, zs = List.replicate 64 0 := ⟨_, rfl⟩
  have hyg : ∀ w, (zeroValue 65).run Tryd.prog w = .ok (.agg (arr .u8 zg)) w := by intro w; rw [hzg]; exact zero64 w
  have hzgl : zg.length = 64 := by rw [hzg]; rfl
  have M1 := fun w => rblock_any key nonce 0 w hk hn bk bn
  rw [show (0 : Int) % 4294967296 = 0 from rfl] at M1
  have hmsg := msg_ref beside c
  rw [hbl, hcl] at hmsg
  obtain ⟨tg, htg⟩ : ∃ x, x = tag key nonce c beside := ⟨_, rfl⟩
  have tgl : tg.length = 16 := by rw [htg, tag_len]
  obtain ⟨bl, hbl'⟩ : ∃ x, x = block key 0 nonce := ⟨_, rfl⟩
  have bll : bl.length = 64 := by rw [hbl', block_len]
  have blb : bytes bl := by rw [hbl']; exact bytes_block _ _ _
  obtain ⟨M, hM⟩ : ∃ x, x = msg beside c := ⟨_, rfl⟩
  have mb : bytes M := by rw [hM]; exact bytes_msg bb bc
  have ml : M.length ≤ 1099511627776 := by rw [hM]; have := msg_len beside c; omega
  obtain ⟨k32, hk32⟩ : ∃ x, x = bl.take 32 := ⟨_, rfl⟩
  have k32l : k32.length = 32 := by rw [hk32, List.length_take]; omega
  have k32b : bytes k32 := by rw [hk32]; exact bytes_take blb 32
  have htg2 : nar (tagP (toN k32) (toN M)) = tg := by rw [htg, tag, hk32, hbl', hM]
  have M5 := fun sa n cap w hs hn => poly_any sa n cap (toN k32) (toN M) w hs (toN_lt mb) (by rw [toN_len]; exact k32l) (toN_lt k32b) hn
  rw [toN_nar mb, toN_nar k32b, htg2] at M5
  rw [← hM] at hmsg
  rw [← hbl'] at M1
  rw [← htg]
  have S0 := B3.start w (arr .u8 key) (arr .u8 nonce) (arr .u8 zt) 23 40 47
  obtain ⟨cs, hcs⟩ : ∃ cs, cs = k32.map (Value.int .u8) := ⟨_, rfl⟩
  have csl : cs.length = 32 := by rw [hcs, List.length_map, k32l]
  have cso : ∀ v ∈ cs, v.oneCell' = true := by rw [hcs]; intro v hv; obtain ⟨y, _, rfl⟩ := List.mem_map.1 hv; rfl
  have hsp : (Go.splice (zb.map (Value.int .u8)) 0 cs).toArray = arr .u8 k32 := by
    unfold Go.splice arr
    rw [List.take_zero, List.nil_append, Nat.zero_add, csl, List.drop_of_length_le (by rw [List.length_map, hzbl]; exact Nat.le_refl _), List.append_nil, hcs]
  have hrg : ∀ (w' : World) (g : Nat), w'.heap[g]? = some (.cells (arr .u8 bl) 65 (0, 0)) → ∀ j v, cs[j]? = some v → w'.cell? (Addr.add ⟨g, 0, none⟩ j) = some v := by
    intro w' g hg j v hj
    have := range_part hg 0 cs (by rw [csl, List.drop_zero, arr_toList, ← List.map_take, ← hk32, hcs])
    have e : Addr.add ⟨g, 0, none⟩ j = ⟨g, 0 + j, none⟩ := by
      unfold Addr.add
      split
      · rename_i h0; rw [h0]
      · rfl
    rw [e]
    exact this j v hj
  obtain ⟨xa, hxa⟩ : ∃ x, x = beside ++ List.replicate (zr beside.length) 0 := ⟨_, rfl⟩
  obtain ⟨xb, hxb⟩ : ∃ x, x = xa ++ c := ⟨_, rfl⟩
  obtain ⟨xc, hxc⟩ : ∃ x, x = xb ++ List.replicate (zr xb.length) 0 := ⟨_, rfl⟩
  obtain ⟨xd, hxd⟩ : ∃ x, x = xc ++ le8 n2 := ⟨_, rfl⟩
  have hz1 : zr beside.length < 16 := Nat.mod_lt _ (by decide)
  have hz2 : zr xb.length < 16 := Nat.mod_lt _ (by decide)
  have xal : xa.length ≤ n2 + 16 := by rw [hxa, List.length_append, List.length_replicate]; omega
  have xbl : xb.length ≤ n1 + n2 + 16 := by rw [hxb, List.length_append]; omega
  have xcl : xc.length ≤ n1 + n2 + 32 := by rw [hxc, List.length_append, List.length_replicate]; omega
  have xdl : xd.length ≤ n1 + n2 + 40 := by rw [hxd, List.length_append, le8_len]; omega
  rw [← hbl, ← hxa, ← hxb, ← hxc, hbl, ← hxd] at hmsg
  have XA := Lib.hid hxa.symm
  have XB := Lib.hid hxb.symm
  have XC := Lib.hid hxc.symm
  have XD := Lib.hid hxd.symm
  have XE := Lib.hid hmsg
  have XAL := Lib.hid xal
  have XBL := Lib.hid xbl
  have XCL := Lib.hid xcl
  have XDL := Lib.hid xdl
  clear hxa hxb hxc hxd hz1 hz2 xal xbl xcl xdl
  have HS0 := Lib.hid S0
  have HK := Lib.hid hk
  have HN := Lib.hid hn
  have HC := Lib.hid hc
  have HB := Lib.hid hb
  have HCL := Lib.hid hcl
  have HBL := Lib.hid hbl
  have HYT := Lib.hid hyt
  have HZT := Lib.hid hztl
  have HYB := Lib.hid hyb
  have HZB := Lib.hid hzbl
  have HYG := Lib.hid hyg
  have HZG := Lib.hid hzgl
  have HM1 := Lib.hid M1
  have HM5 := Lib.hid M5
  have TGL := Lib.hid tgl
  have BLL := Lib.hid bll
  have ML := Lib.hid ml
  have K32L := Lib.hid k32l
  have CSL := Lib.hid csl
  have CSO := Lib.hid cso
  have HSP := Lib.hid hsp
  have HRG := Lib.hid hrg
  clear S0 hk hn hc hb hcl hbl hyt hztl hyb hzbl hyg hzgl M1 M5 hmsg tgl bll ml k32l csl cso hsp hrg hzt hzb hzg htg hbl' blb hM mb hk32 k32b htg2 bk bn bc bb hcs
  go_enter Tryd.func34, Tryd.ntmps34
  go_wp2_with (first | ((with_reducible refine aS 8 ?_); refine wpList_alloc_row rfl 47 rfl _ (HYT.out _) ?_) | ((with_reducible refine aS 12 ?_); refine wpList_load_part rfl 23 _ rfl w.heap.size 0 _ 23 (0, 0) _ HS0.out.b0 rfl .u8 key (arr_part _ _) Tryd.underlying23 rfl (by rw [HK.out]; exact size32) ?_) | ((with_reducible refine aS 13 ?_); refine wpList_load_part rfl 40 _ rfl (w.heap.size + 1) 0 _ 40 (0, 0) _ HS0.out.b1 rfl .u8 nonce (arr_part _ _) Tryd.underlying40 rfl (by rw [HN.out]; exact size12) ?_) | ((with_reducible show Calls _ _ _ _ _); go_at_call 61; refine (HM1.out _).mono ?_; rintro e w1 ⟨rfl, hbw⟩; have HB1 := Lib.hid (HS0.out.after hbw); have hl1 := blk_lt HB1.out.b2; clear hbw) | ((with_reducible refine aS 9 ?_); refine wpList_alloc_row rfl 65 rfl _ (HYG.out _) ?_; go_simp) | ((with_reducible refine aT 9 ?_); refine wpList_store_whole rfl 65 _ _ rfl w1.heap.size _ _ 65 (blk_new _ _) rfl rfl (by rw [arr_size, arr_size, BLL.out, HZG.out]) (arrSig bl BLL.out) (all_arr _ _) ?_; intro w2 hb2 hk2 hz2; have HB2 := Lib.hid ((HB1.out.alloc (.cells (arr .u8 zg) 65)).farK hk2 (by rintro i rfl; omega)); have HG2 := Lib.hid hb2; have hl2 := blk_lt hb2; clear hb2 hk2 hz2) | ((with_reducible refine aS 10 ?_); refine wpList_alloc_row rfl 23 rfl _ (HYB.out _) ?_))
  have HB3 := Lib.hid (HB2.out.alloc (.cells (arr .u8 zb) 23)).drew
  have HG3 : Hid ((w2.alloc (.cells (arr .u8 zb) 23)).drew.heap[w1.heap.size]? = some (.cells (arr .u8 bl) 65 (0, 0))) := Lib.hid (blk_alloc HG2.out (.cells (arr .u8 zb) 23))
  have HO3 : Hid ((w2.alloc (.cells (arr .u8 zb) 23)).drew.heap[w2.heap.size]? = some (.cells (arr .u8 zb) 23 (0, 0))) := Lib.hid (blk_new w2 (.cells (arr .u8 zb) 23))
  (try simp only [Act.put])
  go_still_tail 2, (by kernel_rfl)
  change wpList _ _ _ _ _ (w2.alloc (.cells (arr .u8 zb) 23)).drew
  generalize (w2.alloc (.cells (arr .u8 zb) 23)).drew = w3 at HB3 HG3 HO3 ⊢
  go_wp2_with (first | ((with_reducible refine aS 17 ?_); refine wpList_copy_splice rfl (.tmp 15) (.tmp 16) 25 25 rfl 5 Tryd.underlying25 size_u8 _ _ _ _ _ _ rfl rfl w2.heap.size 0 (zb.map (Value.int .u8)) 23 HO3.out cs (by rw [CSL.out]; rfl) (fun _ => ⟨rfl, ⟨w1.heap.size, 0, none⟩, rfl, HRG.out _ _ HG3.out⟩) (by rw [CSL.out, List.length_map, HZB.out]; omega) CSO.out w2.heap.size w3 (Below.refl _ _) (Nat.le_refl _) ?_; intro w4 hb4 hw4; have hb4' := hb4.out; rw [HSP.out] at hb4'; have HO4 := Lib.hid hb4'; have HB4 := Lib.hid (B3.of_below HB3.out hl2 hl1 hw4); have hl4 := blk_lt hb4'; clear hb4 hb4' hw4) | ((with_reducible refine aS 19 ?_); refine wpList_app8 rfl _ _ rfl w4.heap.size (.slice none 0 0) [] rfl (Own8.nil _ _) sb n2 c2 beside rfl (HB.out.below HB4.out.below) (by simp; omega) (Nat.le_refl _) ?_; intro v5 w5 ho5 hg5 hn5 ha5; rw [List.nil_append] at ho5; have HO5 := Lib.hid ho5; have HW5 := Lib.hid ((Below.refl w4.heap.size w4).grown hg5 (Nat.le_refl _) (fun k hk => by cases hk)); clear ho5 hg5 hn5 ha5) | ((with_reducible show Calls _ _ _ w5 _); go_at_call 62; refine (filled_any w4.heap.size v5 beside w5 HO5.out HW5.out.size (by rw [HBL.out]; omega)).mono ?_; rintro e w6 ⟨v6, rfl, ho6, hw6⟩; rw [XA.out] at ho6; have HO6 := Lib.hid ho6; have HW6 := Lib.hid (HW5.out.trans hw6); clear ho6 hw6) | ((with_reducible refine aS 23 ?_); refine wpList_app8 rfl _ _ rfl w4.heap.size v6 xa rfl HO6.out sc n1 c1 c rfl ((HC.out.below HB4.out.below).below HW6.out) (by have := XAL.out; omega) HW6.out.size ?_; intro v7 w7 ho7 hg7 hn7 ha7; have hw7 := app8_below HO6.out hg7 HW6.out HW6.out.size; rw [XB.out] at ho7; have HO7 := Lib.hid ho7; have HW7 := Lib.hid hw7; clear ho7 hg7 hn7 ha7 hw7) | ((with_reducible show Calls _ _ _ w7 _); go_at_call 62; refine (filled_any w4.heap.size v7 xb w7 HO7.out HW7.out.size (by have := XBL.out; omega)).mono ?_; rintro e w8 ⟨v8, rfl, ho8, hw8⟩; rw [XC.out] at ho8; have HO8 := Lib.hid ho8; have HW8 := Lib.hid (HW7.out.trans hw8); clear ho8 hw8) | ((with_reducible show Calls _ _ _ w8 _); go_at_call 63; refine (length_any n2 (by omega) w8).mono ?_; rintro e w9 ⟨v9, rfl, ho9, hw9⟩; obtain ⟨s9, c9, hv9, -, -, hs9, -⟩ := ho9.form; rw [le8_len] at hv9 hs9; subst hv9; have HS9 := Lib.hid hs9; have HO9 := Lib.hid (HO8.out.below hw9); have HW9 := Lib.hid (HW8.out.trans (hw9.mono HW8.out.size)); clear ho9 hw9 hs9) | ((with_reducible refine aS 29 ?_); refine wpList_app8 rfl _ _ rfl w4.heap.size v8 xc rfl HO9.out s9 8 c9 (le8 n2) rfl HS9.out (by have := XCL.out; omega) HW9.out.size ?_; intro va wa hoa hga hna haa; have hwa := app8_below HO9.out hga HW9.out HW9.out.size; rw [XD.out] at hoa; have HOa := Lib.hid hoa; have HWa := Lib.hid hwa; clear hoa hga hna haa hwa) | ((with_reducible show Calls _ _ _ wa _); go_at_call 63; refine (length_any n1 (by omega) wa).mono ?_; rintro e wb ⟨vb, rfl, hob, hwb⟩; obtain ⟨sb', cb, hvb, -, -, hsb, -⟩ := hob.form; rw [le8_len] at hvb hsb; subst hvb; have HSb := Lib.hid hsb; have HOb := Lib.hid (HOa.out.below hwb); have HWb := Lib.hid (HWa.out.trans (hwb.mono HWa.out.size)); clear hob hwb hsb) | ((with_reducible refine aS 33 ?_); refine wpList_app8 rfl _ _ rfl w4.heap.size va xd rfl HOb.out sb' 8 cb (le8 n1) rfl HSb.out (by have := XDL.out; omega) HWb.out.size ?_; intro vc wc hoc hgc hnc hac; have hwc := app8_below HOb.out hgc HWb.out HWb.out.size; rw [XE.out] at hoc; obtain ⟨sm, cm, hvm, -, -, hsm, -⟩ := hoc.form; subst hvm; have HSM := Lib.hid hsm; have HWc := Lib.hid hwc; have HBc := Lib.hid (HB4.out.after hwc); have HOc := Lib.hid (Below.blk hwc HO4.out hl4); clear hoc hgc hnc hac hwc hsm) | ((with_reducible refine aS 34 ?_); refine wpList_load_part rfl 23 _ rfl w2.heap.size 0 _ 23 (0, 0) _ HOc.out rfl .u8 k32 (arr_part _ _) Tryd.underlying23 rfl (by rw [K32L.out]; exact size32) ?_) | ((with_reducible show Calls _ _ _ wc _); go_at_call 64; refine (HM5.out _ _ _ _ HSM.out ML.out).mono ?_; rintro e wd ⟨rfl, hbw⟩; have HBd := Lib.hid (HBc.out.after hbw); clear hbw) | ((with_reducible refine aT 8 ?_); refine wpList_store_whole rfl 47 _ _ rfl (w.heap.size + 1 + 1) _ _ 47 HBd.out.b2 rfl rfl (by rw [arr_size, arr_size, TGL.out, HZT.out]) (arrTag tg TGL.out) (all_arr _ _) ?_; intro we hbe hke hze; have HBe := Lib.hid (HBd.out.put2 hke hbe); clear hbe hke hze))
  (try simp only [Exit.inBlock, Exit.then])
  refine bodyPost_ret (results_cell_row rfl _ _ (w.heap.size + 1 + 1) 47 _ (0, 0) _ rfl HBe.out.b2 Tryd.underlying47 rfl (arrTag tg TGL.out)) rfl ?_
  exact ⟨rfl, HBe.out.below⟩
end Go.Proofs.YtogebegdgfdijaaDoor.Ae
namespace Go.Proofs.YtogebegdgfdijaaDoor.Ae
open Go.RowKit Lm Po Ch
/-- A list of lists out of what its places say. -/
theorem src_list {w : World} (ps : List (Option Addr × Nat × Nat × List Int)) (h : ∀ p ∈ ps, Src w p.1 p.2.1 p.2.2.2 ∧ p.2.1 ≤ p.2.2.1) :
    SrcL (w.alloc (.cells (ps.map fun p => Value.slice p.1 p.2.1 p.2.2.1).toArray 25)) (some ⟨w.heap.size, 0, none⟩) ps.length (ps.map fun p => p.2.2.2) := by
  have hb := blk_new w (.cells (ps.map fun p => Value.slice p.1 p.2.1 p.2.2.1).toArray 25)
  have hbl := (Below.refl _ w).alloc (Nat.le_refl _) (.cells (ps.map fun p => Value.slice p.1 p.2.1 p.2.2.1).toArray 25)
  refine ⟨by rw [List.length_map], fun i hi => ?_⟩
  have e1 : (⟨w.heap.size, 0, none⟩ : Addr).add i = ⟨w.heap.size, i, none⟩ := by unfold Addr.add; split <;> simp_all
  obtain ⟨h1, h2⟩ := h ps[i] (List.getElem_mem hi)
  have e2 : (ps.map fun p => p.2.2.2).getD i [] = ps[i].2.2.2 := by simp [List.getD, hi]
  refine ⟨_, ps[i].1, ps[i].2.2.1, rfl, ?_, ?_, ?_⟩
  · rw [e1, cell_blk hb, e2, h1.len]
    simp [hi]
  · rw [e2, h1.len]; exact h2
  · rw [e2, h1.len]; exact h1.below hbl
theorem msg_flat (beside c : List Int) : [beside, List.replicate (zr beside.length) 0, c, List.replicate (zr c.length) 0, le8 beside.length, le8 c.length].flatten = msg beside c := by
  simp only [List.flatten_cons, List.flatten_nil, List.append_nil, msg]
theorem tag_any (key nonce c beside : List Int) (sc sb : Option Addr) (n1 n2 c1 c2 : Nat) (w : World) (hk : key.length = 32) (hn : nonce.length = 12) (bk : bytes key) (bn : bytes nonce) (hc : Src w sc n1 c) (hb : Src w sb n2 beside) (bc : bytes c) (bb : bytes beside) (l1 : n1 ≤ 274877906944) (l2 : n2 ≤ 274877906944) (k1 : n1 ≤ c1) (k2 : n2 ≤ c2) :
    Calls Tryd.prog 20 #[.agg (arr .u8 key), .agg (arr .u8 nonce), .slice sc n1 c1, .slice sb n2 c2] w fun e w' => e = .returned (.agg (arr .u8 (tag key nonce c beside))) ∧ Below w.heap.size w w' := by
  have hcl := hc.len
  have hbl := hb.len
  obtain ⟨zt, hzt⟩ : ∃ zs : List Int, zs = List.replicate 16 0 := ⟨_, rfl⟩
  have hyt : ∀ w, (zeroValue 47).run Tryd.prog w = .ok (.agg (arr .u8 zt)) w := by intro w; rw [hzt]; exact zeroTag w
  have hztl : zt.length = 16 := by rw [hzt]; rfl
  obtain ⟨zg, hzg⟩ : ∃ zs : List Int, zs = List.replicate 64 0 := ⟨_, rfl⟩
  have hyg : ∀ w, (zeroValue 65).run Tryd.prog w = .ok (.agg (arr .u8 zg)) w := by intro w; rw [hzg]; exact zero64 w
  have hzgl : zg.length = 64 := by rw [hzg]; rfl
  have M1 := fun w => block_any key nonce 0 w hk hn bk bn
  rw [show (0 : Int) % 4294967296 = 0 from rfl] at M1
  have hmsg := msg_flat beside c
  rw [hbl, hcl] at hmsg
  obtain ⟨tg, htg⟩ : ∃ x, x = tag key nonce c beside := ⟨_, rfl⟩
  have tgl : tg.length = 16 := by rw [htg, tag_len]
  obtain ⟨bl, hbl'⟩ : ∃ x, x = block key 0 nonce := ⟨_, rfl⟩
  have bll : bl.length = 64 := by rw [hbl', block_len]
  have blb : bytes bl := by rw [hbl']; exact bytes_block _ _ _
  obtain ⟨M, hM⟩ : ∃ x, x = msg beside c := ⟨_, rfl⟩
  have mb : bytes M := by rw [hM]; exact bytes_msg bb bc
  have ml : M.length ≤ 1099511627776 := by rw [hM]; have := msg_len beside c; omega
  obtain ⟨k32, hk32⟩ : ∃ x, x = bl.take 32 := ⟨_, rfl⟩
  have k32l : k32.length = 32 := by rw [hk32, List.length_take]; omega
  have k32b : bytes k32 := by rw [hk32]; exact bytes_take blb 32
  have htg2 : nar (tagP (toN k32) (toN M)) = tg := by rw [htg, tag, hk32, hbl', hM]
  obtain ⟨z1, hz1⟩ : ∃ x : List Int, x = List.replicate (zr n2) 0 := ⟨_, rfl⟩
  obtain ⟨z2, hz2⟩ : ∃ x : List Int, x = List.replicate (zr n1) 0 := ⟨_, rfl⟩
  obtain ⟨e1, he1⟩ : ∃ x : List Int, x = le8 n2 := ⟨_, rfl⟩
  obtain ⟨e2, he2⟩ : ∃ x : List Int, x = le8 n1 := ⟨_, rfl⟩
  rw [← hM, ← hz1, ← hz2, ← he1, ← he2] at hmsg
  have M5 := fun sa n cap w hs hn => sum_any sa n cap [beside, z1, c, z2, e1, e2] (toN k32) (toN M) w hs (by rw [toN_nar mb, hmsg]) (toN_lt mb) (by rw [toN_len]; exact k32l) (toN_lt k32b) (by rw [hmsg]; omega) hn
  rw [toN_nar k32b, htg2] at M5
  have R1 := fun w => rest_any n2 (by omega) w
  have R2 := fun w => rest_any n1 (by omega) w
  have R3 := fun w => eight_any n2 w
  have R4 := fun w => eight_any n1 w
  rw [← hz1] at R1
  rw [← hz2] at R2
  rw [← he1] at R3
  rw [← he2] at R4
  obtain ⟨y1, hy1⟩ : ∃ x, x = zr n2 := ⟨_, rfl⟩
  obtain ⟨y2, hy2⟩ : ∃ x, x = zr n1 := ⟨_, rfl⟩
  rw [← hy1] at R1
  rw [← hy2] at R2
  rw [← hbl'] at M1
  rw [← htg]
  have S0 := B3.start w (arr .u8 key) (arr .u8 nonce) (arr .u8 zt) 23 40 47
  have hbt : bl.take 32 = k32 := hk32.symm
  have HS0 := Lib.hid S0
  have HK := Lib.hid hk
  have HN := Lib.hid hn
  have HC := Lib.hid hc
  have HB := Lib.hid hb
  have HYT := Lib.hid hyt
  have HZT := Lib.hid hztl
  have HYG := Lib.hid hyg
  have HZG := Lib.hid hzgl
  have HM1 := Lib.hid M1
  have HM5 := Lib.hid M5
  have HR1 := Lib.hid R1
  have HR2 := Lib.hid R2
  have HR3 := Lib.hid R3
  have HR4 := Lib.hid R4
  have TGL := Lib.hid tgl
  have BLL := Lib.hid bll
  have K32L := Lib.hid k32l
  have BLT := Lib.hid hbt
  have KA := Lib.hid k1
  have KB := Lib.hid k2
  clear S0 hk hn hc hb hcl hbl hyt hztl hyg hzgl M1 M5 R1 R2 R3 R4 hmsg tgl bll ml k32l hzt hzg htg hbl' blb hM mb hk32 k32b htg2 bk bn bc bb hz1 hz2 he1 he2 hy1 hy2 hbt k1 k2
  have hat : ∀ (g : Nat) (w : World), (Instr.arrayAt 23 (.slice (some ⟨g, 0, none⟩) 32 64)).run Tryd.prog w = .ok (.pointer (some ⟨g, 0, none⟩)) w := fun g w => run_arrayAt (P := Tryd.prog) (w := w) 23 5 32 (some ⟨g, 0, none⟩) 32 64 Tryd.underlying23 (Nat.le_refl _)
  have HAT := Lib.hid hat
  clear hat
  go_enter Tryd.func20, Tryd.ntmps20
  go_upto_region 2 with (first | ((with_reducible refine aS 8 ?_); refine wpList_alloc_row rfl 47 rfl _ (HYT.out _) ?_) | ((with_reducible refine aS 10 ?_); refine wpList_load_part rfl 23 _ rfl w.heap.size 0 _ 23 (0, 0) _ HS0.out.b0 rfl .u8 key (arr_part _ _) Tryd.underlying23 rfl (by rw [HK.out]; exact size32) ?_) | ((with_reducible refine aS 11 ?_); refine wpList_load_part rfl 40 _ rfl (w.heap.size + 1) 0 _ 40 (0, 0) _ HS0.out.b1 rfl .u8 nonce (arr_part _ _) Tryd.underlying40 rfl (by rw [HN.out]; exact size12) ?_) | ((with_reducible show Calls _ _ _ _ _); go_at_call 38; refine (HM1.out _).mono ?_; rintro e w1 ⟨rfl, hbw⟩; have HB1 := Lib.hid (HS0.out.after hbw); have hl1 := blk_lt HB1.out.b2; clear hbw) | ((with_reducible refine aS 9 ?_); refine wpList_alloc_row rfl 65 rfl _ (HYG.out _) ?_; go_simp) | ((with_reducible refine aT 9 ?_); refine wpList_store_whole rfl 65 _ _ rfl w1.heap.size _ _ 65 (blk_new _ _) rfl rfl (by rw [arr_size, arr_size, BLL.out, HZG.out]) (arrSig bl BLL.out) (all_arr _ _) ?_; intro wq hb2 hk2 hz2; have HB2 := Lib.hid ((HB1.out.alloc (.cells (arr .u8 zg) 65)).farK hk2 (by rintro i rfl; omega)); have HG2 := Lib.hid hb2; have hl2 := blk_lt hb2; clear hb2 hk2 hz2))
  (try simp only [Act.put])
  obtain ⟨gs, hgs⟩ : ∃ g, g = w1.heap.size := ⟨_, rfl⟩
  rw [← hgs] at HG2 hl1 hl2 ⊢
  clear hgs
  have hat := HAT.out gs
  have hdr : Below wq.heap.size wq wq.drew := ⟨rfl, rfl, rfl, Nat.le_refl _, fun _ _ => rfl⟩
  have HCq := Lib.hid ((HC.out.below HB2.out.below).below hdr)
  have HBq := Lib.hid ((HB.out.below HB2.out.below).below hdr)
  have HRES : Hid (wq.drew.heap[w.heap.size + 1 + 1]? = some (.cells (arr .u8 zt) 47 (0, 0))) := Lib.hid HB2.out.b2
  clear hdr
  have HB0 := Lib.hid ((Kept.refl (fun x => x = w.heap.size + 1 + 1) wq).drew)
  refine wp_region_held_drew (S := (fun w' => Kept (fun x => x = w.heap.size + 1 + 1) wq w')) (by kernel_rfl) (HB0.out) (fun hHeld => ?_)
  refine wpAnyH_take (i := 0) (oi := (⟨some 13, _, _, _, _, none⟩ : Oper)) (v := ?v1) rfl (by kernel_rfl) (by kernel_rfl) (by kernel_rfl) (fun _ _ _ h => h) (Or.inl ⟨by rfl, ?hy1⟩) (by assumption) ?rest1
  case hy1 => (intro w hSw; (try dsimp only at hSw); go_simp; try (with_reducible rfl))
  (try simp only [Act.put, sA, sZ, sS])
  refine wpAnyH_take (i := 1) (oi := (⟨some 14, _, _, _, _, none⟩ : Oper)) (v := ?v2) rfl (by kernel_rfl) (by kernel_rfl) (by kernel_rfl) (fun _ _ _ h => h) (Or.inl ⟨by rfl, ?hy2⟩) (by assumption) ?rest2
  case hy2 => (intro w hSw; (try dsimp only at hSw); go_simp; try (with_reducible rfl))
  (try simp only [Act.put, sA, sZ, sS])
  refine' wpAnyH_take (i := 2) (oi := (⟨some 15, _, _, _, _, none⟩ : Oper)) (v := _) rfl (by kernel_rfl) (by kernel_rfl) (by kernel_rfl) (fun _ _ _ h => h) (yieldsIf_load_mid (by rfl) _ _ rfl _ _ rfl (k32.map (Value.int .u8)) _ ?hS3 Tryd.underlying23 rfl (by rw [List.length_map, K32L.out]; exact size32)) (by assumption) ?rest3
  case hS3 => (intro w hSw; exact range_part (hSw.blk HG2.out (by omega)) 0 _ (by rw [List.length_map, List.drop_zero, arr_toList, ← List.map_take, K32L.out, BLT.out]))
  (try simp only [Act.put, sA, sZ, sS])
  refine wpAnyH_take (i := 3) (oi := (⟨some 16, _, _, _, _, none⟩ : Oper)) (v := ?v4) rfl (by kernel_rfl) (by kernel_rfl) (by kernel_rfl) (fun _ _ _ h => h) (Or.inl ⟨by rfl, ?hy4⟩) (by assumption) ?rest4
  case hy4 => (intro w hSw; (try dsimp only at hSw); go_simp; try (with_reducible rfl))
  (try simp only [Act.put, sA, sZ, sS])
  refine wpAnyH_take (i := 4) (oi := (⟨some 17, _, _, _, _, none⟩ : Oper)) (v := ?v5) rfl (by kernel_rfl) (by kernel_rfl) (by kernel_rfl) (fun _ _ _ h => h) (Or.inl ⟨by rfl, ?hy5⟩) (by assumption) ?rest5
  case hy5 => (intro w hSw; (try dsimp only at hSw); go_simp; try (with_reducible rfl))
  (try simp only [Act.put, sA, sZ, sS])
  refine wpAnyH_take (i := 5) (oi := (⟨some 18, _, _, _, _, none⟩ : Oper)) (v := ?v6) rfl (by kernel_rfl) (by kernel_rfl) (by kernel_rfl) (fun _ _ _ h => h) (Or.inl ⟨by rfl, ?hy6⟩) (by assumption) ?rest6
  case hy6 => (intro w hSw; (try dsimp only at hSw); go_simp; try (with_reducible rfl))
  (try simp only [Act.put, sA, sZ, sS])
  refine wpAnyH_take (i := 7) (oi := (⟨some 20, _, _, _, _, none⟩ : Oper)) (v := ?v7) rfl (by kernel_rfl) (by kernel_rfl) (by kernel_rfl) (fun _ _ _ h => h) (Or.inl ⟨by rfl, ?hy7⟩) (by assumption) ?rest7
  case hy7 => (intro w hSw; (try dsimp only at hSw); go_simp; try (with_reducible rfl))
  (try simp only [Act.put, sA, sZ, sS])
  refine wpAnyH_take (i := 8) (oi := (⟨some 21, _, _, _, _, none⟩ : Oper)) (v := ?v8) rfl (by kernel_rfl) (by kernel_rfl) (by kernel_rfl) (fun _ _ _ h => h) (Or.inl ⟨by rfl, ?hy8⟩) (by assumption) ?rest8
  case hy8 => (intro w hSw; (try dsimp only at hSw); go_simp; try (with_reducible rfl))
  (try simp only [Act.put, sA, sZ, sS])
  refine wpAnyH_take (i := 9) (oi := (⟨some 22, _, _, _, _, none⟩ : Oper)) (v := ?v9) rfl (by kernel_rfl) (by kernel_rfl) (by kernel_rfl) (fun _ _ _ h => h) (Or.inl ⟨by rfl, ?hy9⟩) (by assumption) ?rest9
  case hy9 => (intro w hSw; (try dsimp only at hSw); go_simp; try (with_reducible rfl))
  (try simp only [Act.put, sA, sZ, sS])
  refine wpAnyH_take (i := 11) (oi := (⟨some 24, _, _, _, _, none⟩ : Oper)) (v := ?v10) rfl (by kernel_rfl) (by kernel_rfl) (by kernel_rfl) (fun _ _ _ h => h) (Or.inl ⟨by rfl, ?hy10⟩) (by assumption) ?rest10
  case hy10 => (intro w hSw; (try dsimp only at hSw); go_simp; try (with_reducible rfl))
  (try simp only [Act.put, sA, sZ, sS])
  refine wpAnyH_take (i := 12) (oi := (⟨some 25, _, _, _, _, none⟩ : Oper)) (v := ?v11) rfl (by kernel_rfl) (by kernel_rfl) (by kernel_rfl) (fun _ _ _ h => h) (Or.inl ⟨by rfl, ?hy11⟩) (by assumption) ?rest11
  case hy11 => (intro w hSw; (try dsimp only at hSw); go_simp; try (with_reducible rfl))
  (try simp only [Act.put, sA, sZ, sS])
  refine wpAnyH_take (i := 14) (oi := (⟨some 27, _, _, _, _, none⟩ : Oper)) (v := ?v12) rfl (by kernel_rfl) (by kernel_rfl) (by kernel_rfl) (fun _ _ _ h => h) (Or.inl ⟨by rfl, ?hy12⟩) (by assumption) ?rest12
  case hy12 => (intro w hSw; (try dsimp only at hSw); go_simp; try (with_reducible rfl))
  (try simp only [Act.put, sA, sZ, sS])
  refine wpAnyH_take (i := 15) (oi := (⟨some 28, _, _, _, _, none⟩ : Oper)) (v := ?v13) rfl (by kernel_rfl) (by kernel_rfl) (by kernel_rfl) (fun _ _ _ h => h) (Or.inl ⟨by rfl, ?hy13⟩) (by assumption) ?rest13
  case hy13 => (intro w hSw; (try dsimp only at hSw); go_simp; try (with_reducible rfl))
  (try simp only [Act.put, sA, sZ, sS])
  refine wpAnyH_ready (rs := [6]) (by kernel_rfl) (by simp) ?_
  refine AllReadyH.cons (o := (⟨some 19, _, _, _, _, none⟩ : Oper)) rfl (fun K hK => ?_) AllReadyH.nil
  go_simp
  go_at_call 40
  refine (HR1.out _).mono ?_
  rintro e w14 ⟨s1, rfl, hs1, hb14⟩
  have HB14 := Lib.hid (HB0.out.trans (Kept.of_below hb14))
  have HX1 := Lib.hid hs1
  clear hs1
  have HCq := Lib.hid (HCq.out.below hb14)
  have HBq := Lib.hid (HBq.out.below hb14)
  have HRES := Lib.hid (Below.blk hb14 HRES.out (blk_lt HRES.out))
  clear hb14
  (try dsimp only)
  refine hK.out _ _ (HB14.out) (fun hHeld => ?_)
  clear hK K
  (try simp only [Act.put, sA, sZ, sS])
  refine wpAnyH_ready (rs := [10]) (by kernel_rfl) (by simp) ?_
  refine AllReadyH.cons (o := (⟨some 23, _, _, _, _, none⟩ : Oper)) rfl (fun K hK => ?_) AllReadyH.nil
  go_simp
  go_at_call 40
  refine (HR2.out _).mono ?_
  rintro e w15 ⟨s2, rfl, hs2, hb15⟩
  have HB15 := Lib.hid (HB14.out.trans (Kept.of_below hb15))
  have HX2 := Lib.hid hs2
  clear hs2
  have HCq := Lib.hid (HCq.out.below hb15)
  have HBq := Lib.hid (HBq.out.below hb15)
  have HX1 := Lib.hid (HX1.out.below hb15)
  have HRES := Lib.hid (Below.blk hb15 HRES.out (blk_lt HRES.out))
  clear hb15
  (try dsimp only)
  refine hK.out _ _ (HB15.out) (fun hHeld => ?_)
  clear hK K
  (try simp only [Act.put, sA, sZ, sS])
  refine wpAnyH_ready (rs := [13]) (by kernel_rfl) (by simp) ?_
  refine AllReadyH.cons (o := (⟨some 26, _, _, _, _, none⟩ : Oper)) rfl (fun K hK => ?_) AllReadyH.nil
  go_simp
  go_at_call 41
  refine (HR3.out _).mono ?_
  rintro e w16 ⟨s3, rfl, hs3, hb16⟩
  have HB16 := Lib.hid (HB15.out.trans (Kept.of_below hb16))
  have HX3 := Lib.hid hs3
  clear hs3
  have HCq := Lib.hid (HCq.out.below hb16)
  have HBq := Lib.hid (HBq.out.below hb16)
  have HX1 := Lib.hid (HX1.out.below hb16)
  have HX2 := Lib.hid (HX2.out.below hb16)
  have HRES := Lib.hid (Below.blk hb16 HRES.out (blk_lt HRES.out))
  clear hb16
  (try dsimp only)
  refine hK.out _ _ (HB16.out) (fun hHeld => ?_)
  clear hK K
  (try simp only [Act.put, sA, sZ, sS])
  refine wpAnyH_ready (rs := [16]) (by kernel_rfl) (by simp) ?_
  refine AllReadyH.cons (o := (⟨some 29, _, _, _, _, none⟩ : Oper)) rfl (fun K hK => ?_) AllReadyH.nil
  go_simp
  go_at_call 41
  refine (HR4.out _).mono ?_
  rintro e w17 ⟨s4, rfl, hs4, hb17⟩
  have HB17 := Lib.hid (HB16.out.trans (Kept.of_below hb17))
  have HX4 := Lib.hid hs4
  clear hs4
  have HCq := Lib.hid (HCq.out.below hb17)
  have HBq := Lib.hid (HBq.out.below hb17)
  have HX1 := Lib.hid (HX1.out.below hb17)
  have HX2 := Lib.hid (HX2.out.below hb17)
  have HX3 := Lib.hid (HX3.out.below hb17)
  have HRES := Lib.hid (Below.blk hb17 HRES.out (blk_lt HRES.out))
  clear hb17
  (try dsimp only)
  refine hK.out _ _ (HB17.out) (fun hHeld => ?_)
  clear hK K
  (try simp only [Act.put, sA, sZ, sS])
  refine wpAnyH_ready (rs := [17]) (by kernel_rfl) (by simp) ?_
  refine AllReadyH.cons (o := (⟨some 30, _, _, _, _, none⟩ : Oper)) rfl (fun K hK => ?_) AllReadyH.nil
  go_simp
  have HL := Lib.hid (src_list [(sb, n2, c2, beside), (s1, y1, y1, z1), (sc, n1, c1, c), (s2, y2, y2, z2), (s3, 8, 8, e1), (s4, 8, 8, e2)] (by intro p hp; simp only [List.mem_cons, List.not_mem_nil, or_false] at hp; rcases hp with rfl | rfl | rfl | rfl | rfl | rfl <;> first | exact ⟨HBq.out, KB.out⟩ | exact ⟨HX1.out, Nat.le_refl _⟩ | exact ⟨HCq.out, KA.out⟩ | exact ⟨HX2.out, Nat.le_refl _⟩ | exact ⟨HX3.out, Nat.le_refl _⟩ | exact ⟨HX4.out, Nat.le_refl _⟩))
  have HB18 := Lib.hid (HB17.out.alloc (.cells #[.slice sb n2 c2, .slice s1 y1 y1, .slice sc n1 c1, .slice s2 y2 y2, .slice s3 8 8, .slice s4 8 8] 25))
  have HRES := Lib.hid (blk_alloc HRES.out (.cells #[.slice sb n2 c2, .slice s1 y1 y1, .slice sc n1 c1, .slice s2 y2 y2, .slice s3 8 8, .slice s4 8 8] 25))
  refine hK.out _ _ (HB18.out) (fun hHeld => ?_)
  clear hK K
  (try simp only [Act.put, sA, sZ, sS])
  refine wpAnyH_ready (rs := [18]) (by kernel_rfl) (by simp) ?_
  refine AllReadyH.cons (o := (⟨some 31, _, _, _, _, none⟩ : Oper)) rfl (fun K hK => ?_) AllReadyH.nil
  go_simp
  go_at_call 39
  refine (HM5.out _ _ _ _ HL.out (by show 6 ≤ 1099511627776; decide)).mono ?_
  rintro e w19 ⟨rfl, hb19⟩
  have HB19 := Lib.hid (HB18.out.trans (Kept.of_below hb19))
  have HRES := Lib.hid (Below.blk hb19 HRES.out (blk_lt HRES.out))
  clear hb19
  (try dsimp only)
  refine hK.out _ _ (HB19.out) (fun hHeld => ?_)
  clear hK K
  (try simp only [Act.put, sA, sZ, sS])
  refine wpAnyH_ready (rs := [19]) (by kernel_rfl) (by simp) ?_
  refine AllReadyH.cons (o := (⟨none, _, _, _, _, none⟩ : Oper)) rfl (fun K hK => ?_) AllReadyH.nil
  refine step_store_whole rfl 47 (.tmp 8) (.tmp 31) rfl (w.heap.size + 1 + 1) (arr .u8 zt) _ 47 HRES.out rfl rfl (by rw [arr_size, arr_size, TGL.out, HZT.out]) (arrTag tg TGL.out) (all_arr _ _) ?_
  intro w20 hb20 hk20 hz20
  have HB20 := Lib.hid (HB19.out.trans hk20)
  have HFIN := Lib.hid hb20
  have HLAST := HB20
  clear hb20 hk20 hz20
  refine hK.out _ _ (HB20.out) (fun hHeld => ?_)
  clear hK K
  (try simp only [Act.put])
  refine wpAnyH_done (by kernel_rfl) ?_ _
  (try simp only [Exit.then])
  go_wp2_with fail
  refine bodyPost_ret (results_cell_row rfl _ _ (w.heap.size + 1 + 1) 47 _ (0, 0) _ rfl HFIN.out Tryd.underlying47 rfl (arrTag tg TGL.out)) rfl ?_
  exact ⟨rfl, HB2.out.below.trans (HLAST.out.toBelow HB2.out.below.size (by rintro i rfl; omega))⟩
end Go.Proofs.YtogebegdgfdijaaDoor.Ae
namespace Go.Proofs.YtogebegdgfdijaaDoor.Ae
open Go.RowKit Lm Po Ch
theorem src_arr {w : World} {g : Nat} {xs : List Int} {t : TypeId} {fr : Nat × Nat} (h : w.heap[g]? = some (.cells (arr .u8 xs) t fr)) (m : Nat) (hm : xs.length = m) : Src w (some ⟨g, 0, none⟩) m xs :=
  src_row h (by rw [arr_toList, Nat.mul_one, List.take_of_length_le (by rw [List.length_map]; exact Nat.le_refl _)]) hm
theorem seal_any (key nonce plain beside : List Int) (sp sb : Option Addr) (n1 n2 c1 c2 : Nat) (w : World) (hk : key.length = 32) (hn : nonce.length = 12) (bk : bytes key) (bn : bytes nonce) (hp : Src w sp n1 plain) (hb : Src w sb n2 beside) (bb : bytes beside) (l1 : n1 ≤ 137438953472) (l2 : n2 ≤ 137438953472) (k2 : n2 ≤ c2) :
    Calls Tryd.prog 11 #[.agg (arr .u8 key), .agg (arr .u8 nonce), .slice sp n1 c1, .slice sb n2 c2] w fun e w' => ∃ v, e = .returned v ∧ Own8 w' w.heap.size v (seal' key nonce plain beside) ∧ Below w.heap.size w w' := by
  have hpl := hp.len
  obtain ⟨zt, hzt⟩ : ∃ zs : List Int, zs = List.replicate 16 0 := ⟨_, rfl⟩
  have hyt : ∀ w, (zeroValue 47).run Tryd.prog w = .ok (.agg (arr .u8 zt)) w := by intro w; rw [hzt]; exact zeroTag w
  have hztl : zt.length = 16 := by rw [hzt]; rfl
  have M1 := fun w hs => Ch.turn_any sp n1 c1 plain key nonce 1 w hs hk hn bk bn (by omega)
  obtain ⟨tx, htx⟩ : ∃ x, x = turn key 1 nonce plain := ⟨_, rfl⟩
  have txl : tx.length = n1 := by rw [htx, turn_len, hpl]
  have txb : bytes tx := by rw [htx]; exact bytes_turn _ _ _ _
  have M2 := fun sc c1 w (hc : Src w sc n1 tx) hb (k1 : n1 ≤ c1) => tag_any key nonce tx beside sc sb n1 n2 c1 c2 w hk hn bk bn hc hb txb bb (by omega) (by omega) k1 k2
  obtain ⟨tg, htg⟩ : ∃ x, x = tag key nonce tx beside := ⟨_, rfl⟩
  have tgl : tg.length = 16 := by rw [htg, tag_len]
  have hse : tx ++ tg = seal' key nonce plain beside := by rw [seal', ← htx, ← htg]
  rw [← htx] at M1
  rw [← htg] at M2
  rw [← hse]
  have S0 := B2.start w (arr .u8 key) (arr .u8 nonce) 23 40
  have HS0 := Lib.hid S0
  have HK := Lib.hid hk
  have HN := Lib.hid hn
  have HP := Lib.hid (hp.below S0.below)
  have HB := Lib.hid (hb.below S0.below)
  have HYT := Lib.hid hyt
  have HZT := Lib.hid hztl
  have HM1 := Lib.hid M1
  have HM2 := Lib.hid M2
  have TXL := Lib.hid txl
  have TGL := Lib.hid tgl
  clear S0 hk hn hp hb hpl hyt hztl M1 M2 txl tgl hzt htx txb htg hse bk bn bb k2
  go_enter Tryd.func11, Tryd.ntmps11
  go_wp2_with (first | ((with_reducible refine aS 11 ?_); refine wpList_load_part rfl 23 _ rfl w.heap.size 0 _ 23 (0, 0) _ HS0.out.b0 rfl .u8 key (arr_part _ _) Tryd.underlying23 rfl (by rw [HK.out]; exact size32) ?_) | ((with_reducible refine aS 12 ?_); refine wpList_load_part rfl 40 _ rfl (w.heap.size + 1) 0 _ 40 (0, 0) _ HS0.out.b1 rfl .u8 nonce (arr_part _ _) Tryd.underlying40 rfl (by rw [HN.out]; exact size12) ?_) | ((with_reducible show Calls _ _ #[_, .int _ _, _, _] _ _); go_at_call 19; refine (HM1.out _ HP.out).mono ?_; rintro e w1 ⟨v1, rfl, ho1, hbw⟩; have HB1 := Lib.hid (HS0.out.after hbw); obtain ⟨s1, cc1, hv1, hcc1, -, hs1, -⟩ := ho1.form; rw [TXL.out] at hv1 hs1 hcc1; subst hv1; have HO1 := Lib.hid ho1; have HX1 := Lib.hid hs1; have HCC := Lib.hid hcc1; have HBS := Lib.hid (HB.out.below hbw); have hsz1 : w.heap.size ≤ w1.heap.size := HB1.out.below.size; clear hbw ho1 hs1 hcc1) | ((with_reducible refine aS 15 ?_); refine wpList_load_part rfl 23 _ rfl w.heap.size 0 _ 23 (0, 0) _ HB1.out.b0 rfl .u8 key (arr_part _ _) Tryd.underlying23 rfl (by rw [HK.out]; exact size32) ?_) | ((with_reducible refine aS 16 ?_); refine wpList_load_part rfl 40 _ rfl (w.heap.size + 1) 0 _ 40 (0, 0) _ HB1.out.b1 rfl .u8 nonce (arr_part _ _) Tryd.underlying40 rfl (by rw [HN.out]; exact size12) ?_) | ((with_reducible show Calls _ _ _ w1 _); go_at_call 20; refine (HM2.out s1 cc1 w1 HX1.out HBS.out HCC.out).mono ?_; rintro e w2 ⟨rfl, hbw⟩; have HB2 := Lib.hid (HB1.out.after hbw); have HO2 := Lib.hid (HO1.out.below hbw); clear hbw) | ((with_reducible refine aS 10 ?_); refine wpList_alloc_row rfl 47 rfl _ (HYT.out _) ?_; go_simp) | ((with_reducible refine aT 10 ?_); refine wpList_store_whole rfl 47 _ _ rfl w2.heap.size _ _ 47 (blk_new _ _) rfl rfl (by rw [arr_size, arr_size, TGL.out, HZT.out]) (arrTag tg TGL.out) (all_arr _ _) ?_; intro w3 hb3 hk3 hz3; have hl3 := blk_lt HB2.out.b1; have HB3 := Lib.hid ((HB2.out.alloc (.cells (arr .u8 zt) 47)).farK hk3 (by rintro i rfl; omega)); have HG3 := Lib.hid (src_arr hb3 16 TGL.out); have HO3 := Lib.hid (((HO2.out.alloc (.cells (arr .u8 zt) 47)).kept hk3 (fun g hg e => by have := (HO2.out.lt g hg).2; omega)).mono (B' := w.heap.size) (by simp; omega)); clear hb3 hk3 hz3) | ((with_reducible refine aS 22 ?_); refine wpList_app8 rfl _ _ rfl w.heap.size (.slice s1 n1 cc1) tx rfl HO3.out (some ⟨w2.heap.size, 0, none⟩) 16 16 tg rfl HG3.out (by rw [TXL.out]; omega) HB3.out.below.size ?_; intro v4 w4 ho4 hg4 hn4 ha4; have hw4 := app8_below HO3.out hg4 HB3.out.below HB3.out.below.size; have HO4 := Lib.hid ho4; have HW4 := Lib.hid hw4; clear ho4 hg4 hn4 ha4 hw4))
  go_ret
  exact ⟨_, rfl, HO4.out, HW4.out⟩
end Go.Proofs.YtogebegdgfdijaaDoor.Ae
