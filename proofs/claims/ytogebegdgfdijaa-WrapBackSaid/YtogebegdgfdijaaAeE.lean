/- aead.rest, aead.eight, mac.Same, the document's filled and length. Conditions: at most 2^40 bytes. The document's filled and length. Condition: at most 2^41 bytes. The document's tag. Conditions: key of 32 bytes, nonce of 12; at most 2^38 bytes. aead.tag. Conditions: key of 32 bytes, nonce of 12; at most 2^38 bytes. aead.Seal and the document's. Conditions: key of 32 bytes, nonce of 12; at most 2^37 bytes. -/
import Derived.Test.YtogebegdgfdijaaAeP
import Derived.Test.YtogebegdgfdijaaCa
import Derived.Deep.LoopGhost
import Derived.BigRegion
import Derived.Laws.CopyOwn
import Derived.StillTailTactics
import Derived.Test.YtogebegdgfdijaaMa
import Derived.Laws.Cover3
namespace Go.Proofs.Ytogebegdgfdijaa.Ae
open Go.RowKit Lm Po Ch

theorem byte_of (n i : Nat) : IntKind.u8.wrap ((n : Int) / 2 ^ (8 * i)) = ((n / 256 ^ i % 256 : Nat) : Int) := by
  rw [IntKind.wrap_u8, show (256 : Nat) ^ i = 2 ^ (8 * i) by rw [Nat.pow_mul], Int.natCast_emod, Int.natCast_ediv, Int.natCast_pow]
  rfl

set_option maxRecDepth 100000 in
theorem rest_any (n : Nat) (hn : n ≤ 1099511627776) (w : World) :
    Calls Try.prog 30 #[.int .i64 (n : Int)] w fun e w' => ∃ sa, e = .returned (.slice sa (zr n) (zr n)) ∧ Src w' sa (zr n) (List.replicate (zr n) 0) ∧ Below w.heap.size w w' := by
  have e1 : (16 - (n : Int) % 16) % 16 = ((zr n : Nat) : Int) := by unfold zr; omega
  have hz : zr n < 16 := Nat.mod_lt _ (by decide)
  generalize zr n = z at e1 hz ⊢
  have hmk := mk8 z (by omega)
  have HZ := Lib.hid hz
  clear hz
  go_enter Try.func30, Try.ntmps30
  go_wp2
  go_ret
  refine ⟨_, rfl, ?_, (Below.refl _ w).alloc (Nat.le_refl _) _⟩
  have := src_blk (w := w.alloc (.cells (row8 (zeros z) []) 5)) (blk_new w _)
  simpa [zeros] using this

set_option maxRecDepth 100000 in
set_option maxHeartbeats 1000000 in
theorem eight_any (n : Nat) (w : World) :
    Calls Try.prog 31 #[.int .i64 (n : Int)] w fun e w' => ∃ sa, e = .returned (.slice sa 8 8) ∧ Src w' sa 8 (le8 n) ∧ Below w.heap.size w w' := by
  have hmk := mk8 8 (by decide)
  obtain ⟨F, hF⟩ : ∃ F : Nat → Nat, F = fun i => n / 256 ^ i % 256 := ⟨_, rfl⟩
  obtain ⟨z8, hz8⟩ : ∃ z, z = zeros 8 := ⟨_, rfl⟩
  have hz0 : z8 = nar (upto F 8 0) := by rw [upto_zero, nar_zeros, hz8]; rfl
  rw [← hz8] at hmk
  have hb : ∀ i, IntKind.u8.wrap ((n : Int) / 2 ^ (8 * i)) = ((F i : Nat) : Int) := fun i => by rw [hF]; exact byte_of n i
  have hend : nar (upto F 8 8) = le8 n := by rw [le8, dig_upto, hF]
  have b0 := blk_new w (.cells (row8 z8 []) 5)
  have w0 : Below w.heap.size w (w.alloc (.cells (row8 z8 []) 5)) := (Below.refl _ w).alloc (Nat.le_refl _) _
  have B0 := Lib.hid b0
  have W0 := Lib.hid w0
  have HZ := Lib.hid hz0
  have HB := Lib.hid hb
  have HE := Lib.hid hend
  clear b0 w0 hz0 hb hend hz8 hF
  have hmk2 : ∀ w : World, (Instr.makeSlice 25 (.int .i64 8) (.int .i64 8)).run Try.prog w = .ok (.slice (some ⟨w.heap.size, 0, none⟩) 8 8) (w.alloc (.cells (row8 z8 []) 5)) := hmk
  clear hmk
  go_enter Try.func31, Try.ntmps31
  go_wp2
  go_loopw [8] (fun v wr => ∃ i : Nat, i ≤ 8 ∧ v = .int .i64 i ∧ wr.heap[w.heap.size]? = some (.cells (row8 (nar (upto F 8 i)) []) 5 (0, 0)) ∧ Below w.heap.size w wr) (fun v _ => 8 - (intOf v).toNat)
  case atStart => exact ⟨0, Nat.zero_le _, rfl, by rw [← HZ.out]; exact B0.out, W0.out⟩
  clear B0 W0
  case round =>
  obtain ⟨i, hi, rfl, hb, hw⟩ := hrel
  by_cases hlt : i < 8
  · have hl : i < (nar (upto F 8 i)).length := by rw [nar_len, upto_len]; exact hlt
    have q2 := (cell_blk hb i).trans (row8_get _ [] i hl)
    have q3 := free_blk hb i
    have hb1 : (wr.setCell ⟨w.heap.size, i, none⟩ (.int .u8 (IntKind.u8.wrap ((n : Int) / 2 ^ (8 * i))))).heap[w.heap.size]? = some (.cells (row8 (nar (upto F 8 (i + 1))) []) 5 (0, 0)) := by
      rw [HB.out, blk_setCell hb, row8_set _ _ _ hl, ← nar_set, upto_set]
    have HB1 := Lib.hid hb1
    have HW1 := Lib.hid (hw.setCell (p := ⟨w.heap.size, i, none⟩) (Nat.le_refl _) (.int .u8 (IntKind.u8.wrap ((n : Int) / 2 ^ (8 * i)))))
    clear hb hw hb1 hl
    go_wp2
    go_roundw
    case rel => exact ⟨i + 1, by omega, by go_num, HB1.out, HW1.out⟩
    case measure => simp [intOf]; omega
  · have ei : i = 8 := by omega
    rw [ei, HE.out] at hb
    have HB1 := Lib.hid hb
    have HW1 := Lib.hid hw
    clear hb hw ei
    go_wp2
    go_ret
    refine ⟨_, rfl, ?_, HW1.out⟩
    have := src_blk HB1.out
    rwa [le8_len] at this

theorem or_zero (a b : Nat) : a ||| b = 0 ↔ a = 0 ∧ b = 0 := by
  constructor
  · intro h
    have h1 : a ≤ a ||| b := Nat.left_le_or
    have h2 : b ≤ a ||| b := Nat.right_le_or
    omega
  · rintro ⟨rfl, rfl⟩; rfl
theorem xor_zero (a b : Nat) : a ^^^ b = 0 ↔ a = b := by
  constructor
  · intro h
    have : a ^^^ b ^^^ b = b := by rw [h, Nat.zero_xor]
    rwa [Nat.xor_assoc, Nat.xor_self, Nat.xor_zero] at this
  · rintro rfl; exact Nat.xor_self _
theorem orx (o x y : Int) (ho : 0 ≤ o ∧ o ≤ 255) (hx : 0 ≤ x ∧ x ≤ 255) (hy : 0 ≤ y ∧ y ≤ 255) :
    (0 ≤ bits .or .u8 o (bits .xor .u8 x y) ∧ bits .or .u8 o (bits .xor .u8 x y) ≤ 255) ∧ (bits .or .u8 o (bits .xor .u8 x y) = 0 ↔ o = 0 ∧ x = y) := by
  obtain ⟨a, rfl⟩ : ∃ a : Nat, o = a := ⟨o.toNat, by omega⟩
  obtain ⟨b, rfl⟩ : ∃ a : Nat, x = a := ⟨x.toNat, by omega⟩
  obtain ⟨c, rfl⟩ : ∃ a : Nat, y = a := ⟨y.toNat, by omega⟩
  have ha : a < 2 ^ 8 := by omega
  have hb : b < 2 ^ 8 := by omega
  have hc : c < 2 ^ 8 := by omega
  have hbc := Nat.xor_lt_two_pow hb hc
  have hor := Nat.or_lt_two_pow ha hbc
  have k : ∀ a : Nat, a < 2 ^ 8 → (BitVec.ofInt 8 (a : Int)).toNat = a := fun a h => by rw [BitVec.ofInt_natCast, BitVec.toNat_ofNat]; exact Nat.mod_eq_of_lt h
  have e1 : bits .xor .u8 (b : Int) (c : Int) = ((b ^^^ c : Nat) : Int) := by
    show IntKind.u8.wrap ((BitVec.ofInt 8 (b : Int) ^^^ BitVec.ofInt 8 (c : Int)).toNat : Int) = _
    rw [BitVec.toNat_xor, k b hb, k c hc, IntKind.wrap_u8]
    omega
  have e2 : bits .or .u8 (a : Int) ((b ^^^ c : Nat) : Int) = ((a ||| (b ^^^ c) : Nat) : Int) := by
    show IntKind.u8.wrap ((BitVec.ofInt 8 (a : Int) ||| BitVec.ofInt 8 ((b ^^^ c : Nat) : Int)).toNat : Int) = _
    rw [BitVec.toNat_or, k a ha, k _ hbc, IntKind.wrap_u8]
    omega
  rw [e1, e2]
  refine ⟨by omega, ?_⟩
  have h1 := or_zero a (b ^^^ c)
  have h2 := xor_zero b c
  omega

set_option maxRecDepth 100000 in
set_option maxHeartbeats 1000000 in
theorem same_any' (sa sb : Option Addr) (n m c d : Nat) (xs ys : List Int) (w : World) (hs : Src w sa n xs) (ht : Src w sb m ys) (bx : bytes xs) (bb : bytes ys) (hn : n ≤ 1099511627776) :
    Calls Try.prog 27 #[.slice sa n c, .slice sb m d] w fun e w' => e = .returned (.bool (decide (xs = ys))) ∧ Below w.heap.size w w' := by
  have hxl := hs.len
  have hyl := ht.len
  by_cases hnm : n = m
  · have e0 : ((n : Int) != (m : Int)) = false := by rw [hnm]; simp
    obtain ⟨bv, hbv⟩ : ∃ b, b = decide (xs = ys) := ⟨_, rfl⟩
    rw [← hbv]
    have HBV := Lib.hid hbv
    have HS := Lib.hid hs
    have HT := Lib.hid ht
    have BX := Lib.hid bx
    have BB := Lib.hid bb
    have HXL := Lib.hid hxl
    have HYL := Lib.hid hyl
    have HNM := Lib.hid hnm
    clear hbv hs ht bx bb hxl hyl hnm
    go_enter Try.func27, Try.ntmps27
    go_wp2_with fail
    go_loopw [5, 14] (fun ov iv wr => ∃ (i : Nat) (o : Int), i ≤ n ∧ iv = .int .i64 i ∧ ov = .int .u8 o ∧ (0 ≤ o ∧ o ≤ 255) ∧ (o = 0 ↔ xs.take i = ys.take i) ∧ Below w.heap.size w wr) (fun _ iv _ => n - (intOf iv).toNat)
    case atStart => exact ⟨0, 0, Nat.zero_le _, rfl, rfl, ⟨by decide, by decide⟩, by simp, Below.refl _ w⟩
    case round =>
    obtain ⟨i, o, hi, rfl, rfl, ho, hoe, hw⟩ := hrel
    by_cases hlt : i < n
    · obtain ⟨ad, rfl, hc⟩ := HS.out.cell i hlt
      obtain ⟨ad2, rfl, hd⟩ := HT.out.cell i (by rw [← HNM.out]; exact hlt)
      have x0 := below_cell hw hc
      have x1 := below_cell hw hd
      have b0 := bytes_at BX.out i
      have b1 := bytes_at BB.out i
      obtain ⟨k1, k2⟩ := orx o _ _ ho b0 b1
      have hst : bits .or .u8 o (bits .xor .u8 (xs.getD i 0) (ys.getD i 0)) = 0 ↔ xs.take (i + 1) = ys.take (i + 1) := by
        rw [k2, hoe, take_snoc xs i 0 (by rw [HXL.out]; exact hlt), take_snoc ys i 0 (by rw [HYL.out, ← HNM.out]; exact hlt)]
        constructor
        · rintro ⟨h1, h2⟩; rw [h1, h2]
        · intro h
          have hl : (xs.take i).length = (ys.take i).length := by rw [List.length_take, List.length_take, HXL.out, HYL.out, HNM.out]
          have := List.append_inj h hl
          exact ⟨this.1, by simpa using this.2⟩
      generalize xs.getD i 0 = x at x0 b0 hst k1
      generalize ys.getD i 0 = y at x1 b1 hst k1
      have K1 := Lib.hid k1
      have HST := Lib.hid hst
      have HW := Lib.hid hw
      have hlt2 : (i : Int) < (m : Int) := by have := HNM.out; omega
      clear k1 k2 hst hw hoe hc hd ho b0 b1
      go_wp2_with fail
      go_region
      clear x0 x1 hlt2
      go_wp2_with fail
      go_roundw
      case rel => exact ⟨i + 1, _, by omega, by go_num, rfl, K1.out, HST.out, ⟨HW.out.os, HW.out.tape, HW.out.output, HW.out.size, HW.out.block⟩⟩
      case measure => simp [intOf]; omega
    · have ei : i = n := by omega
      rw [ei, List.take_of_length_le (by rw [HXL.out]; exact Nat.le_refl _), List.take_of_length_le (by rw [HYL.out, HNM.out]; exact Nat.le_refl _)] at hoe
      have hfin : (o == 0) = bv := by
        rw [HBV.out]
        by_cases h : xs = ys
        · rw [hoe.2 h, decide_eq_true h]; rfl
        · rw [decide_eq_false h, beq_eq_false_iff_ne]; exact fun h0 => h (hoe.1 h0)
      have HW := Lib.hid hw
      have HFIN := Lib.hid hfin
      clear hoe ei hfin hw
      go_wp2_with fail
      go_ret
      exact ⟨by rw [← HFIN.out]; rfl, HW.out⟩
  · have e0 : ((n : Int) != (m : Int)) = true := by simp; omega
    have hne : decide (xs = ys) = false := by
      rw [decide_eq_false_iff_not]; intro h; apply hnm; rw [← hxl, ← hyl, h]
    rw [hne]
    clear hs ht bx bb hxl hyl hnm hne
    go_enter Try.func27, Try.ntmps27
    go_wp2_with fail
    go_ret
    exact ⟨rfl, Below.refl _ w⟩
end Go.Proofs.Ytogebegdgfdijaa.Ae
namespace Go.Proofs.Ytogebegdgfdijaa.Ae
open Go.RowKit Lm Po Ch

structure OwnR (B : Nat) (w wr : World) (v : Value) (xs : List Int) : Prop where
  own : Own8 wr B v xs
  below : Below B w wr
theorem OwnR.app {B : Nat} {w wr w' : World} {v v' : Value} {xs ys : List Int} (h : OwnR B w wr v xs) (hB : B ≤ wr.heap.size) (o : Obj) (h1 : Own8 w' B v' (xs ++ ys)) (hg : (wr.alloc o).grownBy w' v.ownBlock) : OwnR B w w' v' (xs ++ ys) :=
  ⟨h1, app8_below (h.own.alloc o) hg (h.below.alloc hB o) (Nat.le_trans hB (by simp))⟩
theorem rep_snoc (k : Nat) : List.replicate (k + 1) (0 : Int) = List.replicate k 0 ++ [0] := List.replicate_succ'


end Go.Proofs.Ytogebegdgfdijaa.Ae
namespace Go.Proofs.Ytogebegdgfdijaa.Ae
open Go.RowKit Lm Po Ch

theorem zr_add (a b : Nat) (h : a % 16 = 0) : zr (a + b) = zr b := by unfold zr; omega
theorem zr_full (a : Nat) : (a + zr a) % 16 = 0 := by unfold zr; omega
/-- The document's way to what the tag is summed over. -/
theorem msg_ref (beside c : List Int) : ((((beside ++ List.replicate (zr beside.length) 0) ++ c) ++ List.replicate (zr ((beside ++ List.replicate (zr beside.length) 0) ++ c).length) 0) ++ le8 beside.length) ++ le8 c.length = msg beside c := by
  have h : zr ((beside ++ List.replicate (zr beside.length) 0) ++ c).length = zr c.length := by
    rw [List.length_append, List.length_append, List.length_replicate]
    exact zr_add _ _ (zr_full _)
  rw [h, msg]
  simp only [List.append_assoc]
theorem arrTag (xs : List Int) (hl : xs.length = 16) : (Try.prog.info? 42).map (·.size) = some (arr .u8 xs).size := by rw [arr_size, hl]; kernel_rfl
theorem arrSig (xs : List Int) (hl : xs.length = 64) : (Try.prog.info? 59).map (·.size) = some (arr .u8 xs).size := by rw [arr_size, hl]; kernel_rfl

theorem B3.of_below {w wr w' : World} {c0 c1 c2 : Array Value} {t0 t1 t2 : TypeId} {B b : Nat} (h : B3 w wr c0 c1 c2 t0 t1 t2) (h1 : b < B) (h2 : w.heap.size + 1 + 1 < b) (k : Below B wr w') : B3 w w' c0 c1 c2 t0 t1 t2 :=
  ⟨Below.blk k h.b0 (by omega), Below.blk k h.b1 (by omega), Below.blk k h.b2 (by omega), h.below.trans (k.mono (by omega))⟩


end Go.Proofs.Ytogebegdgfdijaa.Ae
namespace Go.Proofs.Ytogebegdgfdijaa.Ae
open Go.RowKit Lm Po Ch

/-- A list of lists out of what its places say. -/
theorem src_list {w : World} (ps : List (Option Addr × Nat × Nat × List Int)) (h : ∀ p ∈ ps, Src w p.1 p.2.1 p.2.2.2 ∧ p.2.1 ≤ p.2.2.1) :
    SrcL (w.alloc (.cells (ps.map fun p => Value.slice p.1 p.2.1 p.2.2.1).toArray 25)) (some ⟨w.heap.size, 0, none⟩) ps.length (ps.map fun p => p.2.2.2) := by
  have hb := blk_new w (.cells (ps.map fun p => Value.slice p.1 p.2.1 p.2.2.1).toArray 25)
  have hbl := (Below.refl _ w).alloc (Nat.le_refl _) (.cells (ps.map fun p => Value.slice p.1 p.2.1 p.2.2.1).toArray 25)
  refine ⟨by rw [List.length_map], fun i hi => ?_⟩
  have e1 : (⟨w.heap.size, 0, none⟩ : Addr).add i = ⟨w.heap.size, i, none⟩ := by unfold Addr.add; split <;> simp_all
  obtain ⟨h1, h2⟩ := h ps[i] (List.getElem_mem hi)
  have e2 : (ps.map fun p => p.2.2.2).getD i [] = ps[i].2.2.2 := by simp [List.getD, hi]
  refine ⟨_, ps[i].1, ps[i].2.2.1, rfl, ?_, ?_, ?_⟩
  · rw [e1, cell_blk hb, e2, h1.len]
    simp [hi]
  · rw [e2, h1.len]; exact h2
  · rw [e2, h1.len]; exact h1.below hbl
theorem msg_flat (beside c : List Int) : [beside, List.replicate (zr beside.length) 0, c, List.replicate (zr c.length) 0, le8 beside.length, le8 c.length].flatten = msg beside c := by
  simp only [List.flatten_cons, List.flatten_nil, List.append_nil, msg]

set_option maxRecDepth 100000 in
set_option maxHeartbeats 4000000 in
theorem tag_any (key nonce c beside : List Int) (sc sb : Option Addr) (n1 n2 c1 c2 : Nat) (w : World) (hk : key.length = 32) (hn : nonce.length = 12) (bk : bytes key) (bn : bytes nonce) (hc : Src w sc n1 c) (hb : Src w sb n2 beside) (bc : bytes c) (bb : bytes beside) (l1 : n1 ≤ 274877906944) (l2 : n2 ≤ 274877906944) (k1 : n1 ≤ c1) (k2 : n2 ≤ c2) :
    Calls Try.prog 15 #[.agg (arr .u8 key), .agg (arr .u8 nonce), .slice sc n1 c1, .slice sb n2 c2] w fun e w' => e = .returned (.agg (arr .u8 (tag key nonce c beside))) ∧ Below w.heap.size w w' := by
  have hcl := hc.len
  have hbl := hb.len
  obtain ⟨zt, hzt⟩ : ∃ zs : List Int, zs = List.replicate 16 0 := ⟨_, rfl⟩
  have hyt : ∀ w, (zeroValue 42).run Try.prog w = .ok (.agg (arr .u8 zt)) w := by intro w; rw [hzt]; exact zeroTag w
  have hztl : zt.length = 16 := by rw [hzt]; rfl
  obtain ⟨zg, hzg⟩ : ∃ zs : List Int, zs = List.replicate 64 0 := ⟨_, rfl⟩
  have hyg : ∀ w, (zeroValue 59).run Try.prog w = .ok (.agg (arr .u8 zg)) w := by intro w; rw [hzg]; exact zero64 w
  have hzgl : zg.length = 64 := by rw [hzg]; rfl
  have M1 := fun w => block_any key nonce 0 w hk hn bk bn
  rw [show (0 : Int) % 4294967296 = 0 from rfl] at M1
  have hmsg := msg_flat beside c
  rw [hbl, hcl] at hmsg
  obtain ⟨tg, htg⟩ : ∃ x, x = tag key nonce c beside := ⟨_, rfl⟩
  have tgl : tg.length = 16 := by rw [htg, tag_len]
  obtain ⟨bl, hbl'⟩ : ∃ x, x = block key 0 nonce := ⟨_, rfl⟩
  have bll : bl.length = 64 := by rw [hbl', block_len]
  have blb : bytes bl := by rw [hbl']; exact bytes_block _ _ _
  obtain ⟨M, hM⟩ : ∃ x, x = msg beside c := ⟨_, rfl⟩
  have mb : bytes M := by rw [hM]; exact bytes_msg bb bc
  have ml : M.length ≤ 1099511627776 := by rw [hM]; have := msg_len beside c; omega
  obtain ⟨k32, hk32⟩ : ∃ x, x = bl.take 32 := ⟨_, rfl⟩
  have k32l : k32.length = 32 := by rw [hk32, List.length_take]; omega
  have k32b : bytes k32 := by rw [hk32]; exact bytes_take blb 32
  have htg2 : nar (tagP (toN k32) (toN M)) = tg := by rw [htg, tag, hk32, hbl', hM]
  obtain ⟨z1, hz1⟩ : ∃ x : List Int, x = List.replicate (zr n2) 0 := ⟨_, rfl⟩
  obtain ⟨z2, hz2⟩ : ∃ x : List Int, x = List.replicate (zr n1) 0 := ⟨_, rfl⟩
  obtain ⟨e1, he1⟩ : ∃ x : List Int, x = le8 n2 := ⟨_, rfl⟩
  obtain ⟨e2, he2⟩ : ∃ x : List Int, x = le8 n1 := ⟨_, rfl⟩
  rw [← hM, ← hz1, ← hz2, ← he1, ← he2] at hmsg
  have M5 := fun sa n cap w hs hn => sum_any sa n cap [beside, z1, c, z2, e1, e2] (toN k32) (toN M) w hs (by rw [toN_nar mb, hmsg]) (toN_lt mb) (by rw [toN_len]; exact k32l) (toN_lt k32b) (by rw [hmsg]; omega) hn
  rw [toN_nar k32b, htg2] at M5
  have R1 := fun w => rest_any n2 (by omega) w
  have R2 := fun w => rest_any n1 (by omega) w
  have R3 := fun w => eight_any n2 w
  have R4 := fun w => eight_any n1 w
  rw [← hz1] at R1
  rw [← hz2] at R2
  rw [← he1] at R3
  rw [← he2] at R4
  obtain ⟨y1, hy1⟩ : ∃ x, x = zr n2 := ⟨_, rfl⟩
  obtain ⟨y2, hy2⟩ : ∃ x, x = zr n1 := ⟨_, rfl⟩
  rw [← hy1] at R1
  rw [← hy2] at R2
  rw [← hbl'] at M1
  rw [← htg]
  have S0 := B3.start w (arr .u8 key) (arr .u8 nonce) (arr .u8 zt) 23 38 42
  have hbt : bl.take 32 = k32 := hk32.symm
  have HS0 := Lib.hid S0
  have HK := Lib.hid hk
  have HN := Lib.hid hn
  have HC := Lib.hid hc
  have HB := Lib.hid hb
  have HYT := Lib.hid hyt
  have HZT := Lib.hid hztl
  have HYG := Lib.hid hyg
  have HZG := Lib.hid hzgl
  have HM1 := Lib.hid M1
  have HM5 := Lib.hid M5
  have HR1 := Lib.hid R1
  have HR2 := Lib.hid R2
  have HR3 := Lib.hid R3
  have HR4 := Lib.hid R4
  have TGL := Lib.hid tgl
  have BLL := Lib.hid bll
  have K32L := Lib.hid k32l
  have BLT := Lib.hid hbt
  have KA := Lib.hid k1
  have KB := Lib.hid k2
  clear S0 hk hn hc hb hcl hbl hyt hztl hyg hzgl M1 M5 R1 R2 R3 R4 hmsg tgl bll ml k32l hzt hzg htg hbl' blb hM mb hk32 k32b htg2 bk bn bc bb hz1 hz2 he1 he2 hy1 hy2 hbt k1 k2
  have hat : ∀ (g : Nat) (w : World), (Instr.arrayAt 23 (.slice (some ⟨g, 0, none⟩) 32 64)).run Try.prog w = .ok (.pointer (some ⟨g, 0, none⟩)) w := fun g w => run_arrayAt (P := Try.prog) (w := w) 23 5 32 (some ⟨g, 0, none⟩) 32 64 Try.underlying23 (Nat.le_refl _)
  have HAT := Lib.hid hat
  clear hat
  go_enter Try.func15, Try.ntmps15
  go_upto_region 2 with (first | ((with_reducible show wpList _ _ _ (Oper.mk (some 8) _ _ _ _ _ :: _) _ _); refine wpList_alloc_row rfl 42 rfl _ (HYT.out _) ?_) | ((with_reducible show wpList _ _ _ (Oper.mk (some 10) _ _ _ _ _ :: _) _ _); refine wpList_load_part rfl 23 _ rfl w.heap.size 0 _ 23 (0, 0) _ HS0.out.b0 rfl .u8 key (arr_part _ _) Try.underlying23 rfl (by rw [HK.out]; exact size32) ?_) | ((with_reducible show wpList _ _ _ (Oper.mk (some 11) _ _ _ _ _ :: _) _ _); refine wpList_load_part rfl 38 _ rfl (w.heap.size + 1) 0 _ 38 (0, 0) _ HS0.out.b1 rfl .u8 nonce (arr_part _ _) Try.underlying38 rfl (by rw [HN.out]; exact size12) ?_) | ((with_reducible show Calls _ _ _ _ _); go_at_call 28; refine (HM1.out _).mono ?_; rintro e w1 ⟨rfl, hbw⟩; have HB1 := Lib.hid (HS0.out.after hbw); have hl1 := blk_lt HB1.out.b2; clear hbw) | ((with_reducible show wpList _ _ _ (Oper.mk (some 9) _ _ _ _ _ :: _) _ _); refine wpList_alloc_row rfl 59 rfl _ (HYG.out _) ?_; go_simp) | ((with_reducible show wpList _ _ _ (Oper.mk none (Op.store _ (Operand.tmp 9) _) _ _ _ _ :: _) _ _); refine wpList_store_whole rfl 59 _ _ rfl w1.heap.size _ _ 59 (blk_new _ _) rfl rfl (by rw [arr_size, arr_size, BLL.out, HZG.out]) (arrSig bl BLL.out) (all_arr _ _) ?_; intro wq hb2 hk2 hz2; have HB2 := Lib.hid ((HB1.out.alloc (.cells (arr .u8 zg) 59)).farK hk2 (by rintro i rfl; omega)); have HG2 := Lib.hid hb2; have hl2 := blk_lt hb2; clear hb2 hk2 hz2))
  (try simp only [Act.put])
  obtain ⟨gs, hgs⟩ : ∃ g, g = w1.heap.size := ⟨_, rfl⟩
  rw [← hgs] at HG2 hl1 hl2 ⊢
  clear hgs
  have hat := HAT.out gs
  have hdr : Below wq.heap.size wq wq.drew := ⟨rfl, rfl, rfl, Nat.le_refl _, fun _ _ => rfl⟩
  have HCq := Lib.hid ((HC.out.below HB2.out.below).below hdr)
  have HBq := Lib.hid ((HB.out.below HB2.out.below).below hdr)
  have HRES : Hid (wq.drew.heap[w.heap.size + 1 + 1]? = some (.cells (arr .u8 zt) 42 (0, 0))) := Lib.hid HB2.out.b2
  clear hdr
  have HB0 := Lib.hid ((Kept.refl (fun x => x = w.heap.size + 1 + 1) wq).drew)
  refine wp_region_held_drew (S := (fun w' => Kept (fun x => x = w.heap.size + 1 + 1) wq w')) (by kernel_rfl) (HB0.out) (fun hHeld => ?_)
  refine wpAnyH_take (i := 0) (oi := ({ dst := some 13, op := Op.slice 59 (Operand.tmp 9) none (some (Operand.const (Value.int IntKind.i64 32))) none, type := 25, pos := "aead.go:28", after := #[], guard := none } : Oper)) (v := ?v1) rfl (by kernel_rfl) (by kernel_rfl) (by kernel_rfl) (fun _ _ _ h => h) (Or.inl ⟨by rfl, ?hy1⟩) (by assumption) ?rest1
  case hy1 => (intro w hSw; (try dsimp only at hSw); go_simp; try (with_reducible rfl))
  (try simp only [Act.put, List.setIfInBounds_toArray, List.set_cons_zero, List.set_cons_succ])
  refine wpAnyH_take (i := 1) (oi := ({ dst := some 14, op := Op.sliceToArrayPointer 23 (Operand.tmp 13), type := 0, pos := "aead.go:28", after := #[{ on := 0, ground := Ground.data }], guard := none } : Oper)) (v := ?v2) rfl (by kernel_rfl) (by kernel_rfl) (by kernel_rfl) (fun _ _ _ h => h) (Or.inl ⟨by rfl, ?hy2⟩) (by assumption) ?rest2
  case hy2 => (intro w hSw; (try dsimp only at hSw); go_simp; try (with_reducible rfl))
  (try simp only [Act.put, List.setIfInBounds_toArray, List.set_cons_zero, List.set_cons_succ])
  refine' wpAnyH_take (i := 2) (oi := ({ dst := some 15, op := Op.load 23 (Operand.tmp 14), type := 23, pos := "aead.go:28", after := #[{ on := 1, ground := Ground.data }], guard := none } : Oper)) (v := _) rfl (by kernel_rfl) (by kernel_rfl) (by kernel_rfl) (fun _ _ _ h => h) (yieldsIf_load_mid (by rfl) _ _ rfl _ _ rfl (k32.map (Value.int .u8)) _ ?hS3 Try.underlying23 rfl (by rw [List.length_map, K32L.out]; exact size32)) (by assumption) ?rest3
  case hS3 => (intro w hSw; exact range_part (hSw.blk HG2.out (by omega)) 0 _ (by rw [List.length_map, List.drop_zero, arr_toList, ← List.map_take, K32L.out, BLT.out]))
  (try simp only [Act.put, List.setIfInBounds_toArray, List.set_cons_zero, List.set_cons_succ])
  refine wpAnyH_take (i := 3) (oi := ({ dst := some 16, op := Op.move (Operand.tmp 3), type := 25, pos := "aead.go:28", after := #[], guard := none } : Oper)) (v := ?v4) rfl (by kernel_rfl) (by kernel_rfl) (by kernel_rfl) (fun _ _ _ h => h) (Or.inl ⟨by rfl, ?hy4⟩) (by assumption) ?rest4
  case hy4 => (intro w hSw; (try dsimp only at hSw); go_simp; try (with_reducible rfl))
  (try simp only [Act.put, List.setIfInBounds_toArray, List.set_cons_zero, List.set_cons_succ])
  refine wpAnyH_take (i := 4) (oi := ({ dst := some 17, op := Op.move (Operand.tmp 3), type := 25, pos := "aead.go:28", after := #[], guard := none } : Oper)) (v := ?v5) rfl (by kernel_rfl) (by kernel_rfl) (by kernel_rfl) (fun _ _ _ h => h) (Or.inl ⟨by rfl, ?hy5⟩) (by assumption) ?rest5
  case hy5 => (intro w hSw; (try dsimp only at hSw); go_simp; try (with_reducible rfl))
  (try simp only [Act.put, List.setIfInBounds_toArray, List.set_cons_zero, List.set_cons_succ])
  refine wpAnyH_take (i := 5) (oi := ({ dst := some 18, op := Op.call { callee := Callee.builtin Builtin.len, args := #[Operand.tmp 17], argTypes := #[25] }, type := 3, pos := "aead.go:28", after := #[{ on := 4, ground := Ground.data }], guard := none } : Oper)) (v := ?v6) rfl (by kernel_rfl) (by kernel_rfl) (by kernel_rfl) (fun _ _ _ h => h) (Or.inl ⟨by rfl, ?hy6⟩) (by assumption) ?rest6
  case hy6 => (intro w hSw; (try dsimp only at hSw); go_simp; try (with_reducible rfl))
  (try simp only [Act.put, List.setIfInBounds_toArray, List.set_cons_zero, List.set_cons_succ])
  refine wpAnyH_take (i := 7) (oi := ({ dst := some 20, op := Op.move (Operand.tmp 2), type := 25, pos := "aead.go:28", after := #[], guard := none } : Oper)) (v := ?v7) rfl (by kernel_rfl) (by kernel_rfl) (by kernel_rfl) (fun _ _ _ h => h) (Or.inl ⟨by rfl, ?hy7⟩) (by assumption) ?rest7
  case hy7 => (intro w hSw; (try dsimp only at hSw); go_simp; try (with_reducible rfl))
  (try simp only [Act.put, List.setIfInBounds_toArray, List.set_cons_zero, List.set_cons_succ])
  refine wpAnyH_take (i := 8) (oi := ({ dst := some 21, op := Op.move (Operand.tmp 2), type := 25, pos := "aead.go:28", after := #[], guard := none } : Oper)) (v := ?v8) rfl (by kernel_rfl) (by kernel_rfl) (by kernel_rfl) (fun _ _ _ h => h) (Or.inl ⟨by rfl, ?hy8⟩) (by assumption) ?rest8
  case hy8 => (intro w hSw; (try dsimp only at hSw); go_simp; try (with_reducible rfl))
  (try simp only [Act.put, List.setIfInBounds_toArray, List.set_cons_zero, List.set_cons_succ])
  refine wpAnyH_take (i := 9) (oi := ({ dst := some 22, op := Op.call { callee := Callee.builtin Builtin.len, args := #[Operand.tmp 21], argTypes := #[25] }, type := 3, pos := "aead.go:28", after := #[{ on := 8, ground := Ground.data }], guard := none } : Oper)) (v := ?v9) rfl (by kernel_rfl) (by kernel_rfl) (by kernel_rfl) (fun _ _ _ h => h) (Or.inl ⟨by rfl, ?hy9⟩) (by assumption) ?rest9
  case hy9 => (intro w hSw; (try dsimp only at hSw); go_simp; try (with_reducible rfl))
  (try simp only [Act.put, List.setIfInBounds_toArray, List.set_cons_zero, List.set_cons_succ])
  refine wpAnyH_take (i := 11) (oi := ({ dst := some 24, op := Op.move (Operand.tmp 3), type := 25, pos := "aead.go:28", after := #[], guard := none } : Oper)) (v := ?v10) rfl (by kernel_rfl) (by kernel_rfl) (by kernel_rfl) (fun _ _ _ h => h) (Or.inl ⟨by rfl, ?hy10⟩) (by assumption) ?rest10
  case hy10 => (intro w hSw; (try dsimp only at hSw); go_simp; try (with_reducible rfl))
  (try simp only [Act.put, List.setIfInBounds_toArray, List.set_cons_zero, List.set_cons_succ])
  refine wpAnyH_take (i := 12) (oi := ({ dst := some 25, op := Op.call { callee := Callee.builtin Builtin.len, args := #[Operand.tmp 24], argTypes := #[25] }, type := 3, pos := "aead.go:28", after := #[{ on := 11, ground := Ground.data }], guard := none } : Oper)) (v := ?v11) rfl (by kernel_rfl) (by kernel_rfl) (by kernel_rfl) (fun _ _ _ h => h) (Or.inl ⟨by rfl, ?hy11⟩) (by assumption) ?rest11
  case hy11 => (intro w hSw; (try dsimp only at hSw); go_simp; try (with_reducible rfl))
  (try simp only [Act.put, List.setIfInBounds_toArray, List.set_cons_zero, List.set_cons_succ])
  refine wpAnyH_take (i := 14) (oi := ({ dst := some 27, op := Op.move (Operand.tmp 2), type := 25, pos := "aead.go:28", after := #[], guard := none } : Oper)) (v := ?v12) rfl (by kernel_rfl) (by kernel_rfl) (by kernel_rfl) (fun _ _ _ h => h) (Or.inl ⟨by rfl, ?hy12⟩) (by assumption) ?rest12
  case hy12 => (intro w hSw; (try dsimp only at hSw); go_simp; try (with_reducible rfl))
  (try simp only [Act.put, List.setIfInBounds_toArray, List.set_cons_zero, List.set_cons_succ])
  refine wpAnyH_take (i := 15) (oi := ({ dst := some 28, op := Op.call { callee := Callee.builtin Builtin.len, args := #[Operand.tmp 27], argTypes := #[25] }, type := 3, pos := "aead.go:28", after := #[{ on := 14, ground := Ground.data }], guard := none } : Oper)) (v := ?v13) rfl (by kernel_rfl) (by kernel_rfl) (by kernel_rfl) (fun _ _ _ h => h) (Or.inl ⟨by rfl, ?hy13⟩) (by assumption) ?rest13
  case hy13 => (intro w hSw; (try dsimp only at hSw); go_simp; try (with_reducible rfl))
  (try simp only [Act.put, List.setIfInBounds_toArray, List.set_cons_zero, List.set_cons_succ])
  refine wpAnyH_ready (rs := [6]) (by kernel_rfl) (by simp) ?_
  refine AllReadyH.cons (o := ({ dst := some 19, op := Op.call { callee := Callee.value (Operand.func 30), args := #[Operand.tmp 18], argTypes := #[3] }, type := 25, pos := "aead.go:28", after := #[{ on := 5, ground := Ground.data }], guard := none } : Oper)) rfl (fun K hK => ?_) AllReadyH.nil
  go_simp
  go_at_call 30
  refine (HR1.out _).mono ?_
  rintro e w14 ⟨s1, rfl, hs1, hb14⟩
  have HB14 := Lib.hid (HB0.out.trans (Kept.of_below hb14))
  have HX1 := Lib.hid hs1
  clear hs1
  have HCq := Lib.hid (HCq.out.below hb14)
  have HBq := Lib.hid (HBq.out.below hb14)
  have HRES := Lib.hid (Below.blk hb14 HRES.out (blk_lt HRES.out))
  clear hb14
  (try dsimp only)
  refine hK.out _ _ (HB14.out) (fun hHeld => ?_)
  clear hK K
  (try simp only [Act.put, List.setIfInBounds_toArray, List.set_cons_zero, List.set_cons_succ])
  refine wpAnyH_ready (rs := [10]) (by kernel_rfl) (by simp) ?_
  refine AllReadyH.cons (o := ({ dst := some 23, op := Op.call { callee := Callee.value (Operand.func 30), args := #[Operand.tmp 22], argTypes := #[3] }, type := 25, pos := "aead.go:28", after := #[{ on := 9, ground := Ground.data }, { on := 6, ground := Ground.chain }], guard := none } : Oper)) rfl (fun K hK => ?_) AllReadyH.nil
  go_simp
  go_at_call 30
  refine (HR2.out _).mono ?_
  rintro e w15 ⟨s2, rfl, hs2, hb15⟩
  have HB15 := Lib.hid (HB14.out.trans (Kept.of_below hb15))
  have HX2 := Lib.hid hs2
  clear hs2
  have HCq := Lib.hid (HCq.out.below hb15)
  have HBq := Lib.hid (HBq.out.below hb15)
  have HX1 := Lib.hid (HX1.out.below hb15)
  have HRES := Lib.hid (Below.blk hb15 HRES.out (blk_lt HRES.out))
  clear hb15
  (try dsimp only)
  refine hK.out _ _ (HB15.out) (fun hHeld => ?_)
  clear hK K
  (try simp only [Act.put, List.setIfInBounds_toArray, List.set_cons_zero, List.set_cons_succ])
  refine wpAnyH_ready (rs := [13]) (by kernel_rfl) (by simp) ?_
  refine AllReadyH.cons (o := ({ dst := some 26, op := Op.call { callee := Callee.value (Operand.func 31), args := #[Operand.tmp 25], argTypes := #[3] }, type := 25, pos := "aead.go:28", after := #[{ on := 12, ground := Ground.data }, { on := 10, ground := Ground.chain }], guard := none } : Oper)) rfl (fun K hK => ?_) AllReadyH.nil
  go_simp
  go_at_call 31
  refine (HR3.out _).mono ?_
  rintro e w16 ⟨s3, rfl, hs3, hb16⟩
  have HB16 := Lib.hid (HB15.out.trans (Kept.of_below hb16))
  have HX3 := Lib.hid hs3
  clear hs3
  have HCq := Lib.hid (HCq.out.below hb16)
  have HBq := Lib.hid (HBq.out.below hb16)
  have HX1 := Lib.hid (HX1.out.below hb16)
  have HX2 := Lib.hid (HX2.out.below hb16)
  have HRES := Lib.hid (Below.blk hb16 HRES.out (blk_lt HRES.out))
  clear hb16
  (try dsimp only)
  refine hK.out _ _ (HB16.out) (fun hHeld => ?_)
  clear hK K
  (try simp only [Act.put, List.setIfInBounds_toArray, List.set_cons_zero, List.set_cons_succ])
  refine wpAnyH_ready (rs := [16]) (by kernel_rfl) (by simp) ?_
  refine AllReadyH.cons (o := ({ dst := some 29, op := Op.call { callee := Callee.value (Operand.func 31), args := #[Operand.tmp 28], argTypes := #[3] }, type := 25, pos := "aead.go:28", after := #[{ on := 15, ground := Ground.data }, { on := 13, ground := Ground.chain }], guard := none } : Oper)) rfl (fun K hK => ?_) AllReadyH.nil
  go_simp
  go_at_call 31
  refine (HR4.out _).mono ?_
  rintro e w17 ⟨s4, rfl, hs4, hb17⟩
  have HB17 := Lib.hid (HB16.out.trans (Kept.of_below hb17))
  have HX4 := Lib.hid hs4
  clear hs4
  have HCq := Lib.hid (HCq.out.below hb17)
  have HBq := Lib.hid (HBq.out.below hb17)
  have HX1 := Lib.hid (HX1.out.below hb17)
  have HX2 := Lib.hid (HX2.out.below hb17)
  have HX3 := Lib.hid (HX3.out.below hb17)
  have HRES := Lib.hid (Below.blk hb17 HRES.out (blk_lt HRES.out))
  clear hb17
  (try dsimp only)
  refine hK.out _ _ (HB17.out) (fun hHeld => ?_)
  clear hK K
  (try simp only [Act.put, List.setIfInBounds_toArray, List.set_cons_zero, List.set_cons_succ])
  refine wpAnyH_ready (rs := [17]) (by kernel_rfl) (by simp) ?_
  refine AllReadyH.cons (o := ({ dst := some 30, op := Op.buildSlice 79 6 #[(0, Operand.tmp 16), (1, Operand.tmp 19), (2, Operand.tmp 20), (3, Operand.tmp 23), (4, Operand.tmp 26), (5, Operand.tmp 29)], type := 79, pos := "aead.go:28", after := #[{ on := 3, ground := Ground.data }, { on := 6, ground := Ground.data }, { on := 7, ground := Ground.data }, { on := 10, ground := Ground.data }, { on := 13, ground := Ground.data }, { on := 16, ground := Ground.data }], guard := none } : Oper)) rfl (fun K hK => ?_) AllReadyH.nil
  go_simp
  have HL := Lib.hid (src_list [(sb, n2, c2, beside), (s1, y1, y1, z1), (sc, n1, c1, c), (s2, y2, y2, z2), (s3, 8, 8, e1), (s4, 8, 8, e2)] (by intro p hp; simp only [List.mem_cons, List.not_mem_nil, or_false] at hp; rcases hp with rfl | rfl | rfl | rfl | rfl | rfl <;> first | exact ⟨HBq.out, KB.out⟩ | exact ⟨HX1.out, Nat.le_refl _⟩ | exact ⟨HCq.out, KA.out⟩ | exact ⟨HX2.out, Nat.le_refl _⟩ | exact ⟨HX3.out, Nat.le_refl _⟩ | exact ⟨HX4.out, Nat.le_refl _⟩))
  have HB18 := Lib.hid (HB17.out.alloc (.cells #[.slice sb n2 c2, .slice s1 y1 y1, .slice sc n1 c1, .slice s2 y2 y2, .slice s3 8 8, .slice s4 8 8] 25))
  have HRES := Lib.hid (blk_alloc HRES.out (.cells #[.slice sb n2 c2, .slice s1 y1 y1, .slice sc n1 c1, .slice s2 y2 y2, .slice s3 8 8, .slice s4 8 8] 25))
  refine hK.out _ _ (HB18.out) (fun hHeld => ?_)
  clear hK K
  (try simp only [Act.put, List.setIfInBounds_toArray, List.set_cons_zero, List.set_cons_succ])
  refine wpAnyH_ready (rs := [18]) (by kernel_rfl) (by simp) ?_
  refine AllReadyH.cons (o := ({ dst := some 31, op := Op.call { callee := Callee.value (Operand.func 29), args := #[Operand.tmp 15, Operand.tmp 30], argTypes := #[23, 79] }, type := 42, pos := "aead.go:28", after := #[{ on := 2, ground := Ground.data }, { on := 17, ground := Ground.data }, { on := 16, ground := Ground.chain }], guard := none } : Oper)) rfl (fun K hK => ?_) AllReadyH.nil
  go_simp
  go_at_call 29
  refine (HM5.out _ _ _ _ HL.out (by show 6 ≤ 1099511627776; decide)).mono ?_
  rintro e w19 ⟨rfl, hb19⟩
  have HB19 := Lib.hid (HB18.out.trans (Kept.of_below hb19))
  have HRES := Lib.hid (Below.blk hb19 HRES.out (blk_lt HRES.out))
  clear hb19
  (try dsimp only)
  refine hK.out _ _ (HB19.out) (fun hHeld => ?_)
  clear hK K
  (try simp only [Act.put, List.setIfInBounds_toArray, List.set_cons_zero, List.set_cons_succ])
  refine wpAnyH_ready (rs := [19]) (by kernel_rfl) (by simp) ?_
  refine AllReadyH.cons (o := ({ dst := none, op := Op.store 42 (Operand.tmp 8) (Operand.tmp 31), type := 0, pos := "aead.go:28", after := #[{ on := 18, ground := Ground.data }, { on := 18, ground := Ground.chain }, { on := 0, ground := Ground.phase }, { on := 1, ground := Ground.phase }, { on := 2, ground := Ground.phase }, { on := 3, ground := Ground.phase }, { on := 4, ground := Ground.phase }, { on := 5, ground := Ground.phase }, { on := 6, ground := Ground.phase }, { on := 7, ground := Ground.phase }, { on := 8, ground := Ground.phase }, { on := 9, ground := Ground.phase }, { on := 10, ground := Ground.phase }, { on := 11, ground := Ground.phase }, { on := 12, ground := Ground.phase }, { on := 13, ground := Ground.phase }, { on := 14, ground := Ground.phase }, { on := 15, ground := Ground.phase }, { on := 16, ground := Ground.phase }, { on := 17, ground := Ground.phase }, { on := 18, ground := Ground.phase }], guard := none } : Oper)) rfl (fun K hK => ?_) AllReadyH.nil
  refine step_store_whole rfl 42 (.tmp 8) (.tmp 31) rfl (w.heap.size + 1 + 1) (arr .u8 zt) _ 42 HRES.out rfl rfl (by rw [arr_size, arr_size, TGL.out, HZT.out]) (arrTag tg TGL.out) (all_arr _ _) ?_
  intro w20 hb20 hk20 hz20
  have HB20 := Lib.hid (HB19.out.trans hk20)
  have HFIN := Lib.hid hb20
  have HLAST := HB20
  clear hb20 hk20 hz20
  refine hK.out _ _ (HB20.out) (fun hHeld => ?_)
  clear hK K
  (try simp only [Act.put])
  refine wpAnyH_done (by kernel_rfl) ?_ _
  (try simp only [Exit.then])
  go_wp2_with fail
  refine bodyPost_ret (results_cell_row rfl _ _ (w.heap.size + 1 + 1) 42 _ (0, 0) _ rfl HFIN.out Try.underlying42 rfl (arrTag tg TGL.out)) rfl ?_
  exact ⟨rfl, HB2.out.below.trans (HLAST.out.toBelow HB2.out.below.size (by rintro i rfl; omega))⟩
end Go.Proofs.Ytogebegdgfdijaa.Ae
namespace Go.Proofs.Ytogebegdgfdijaa.Ae
open Go.RowKit Lm Po Ch

theorem src_arr {w : World} {g : Nat} {xs : List Int} {t : TypeId} {fr : Nat × Nat} (h : w.heap[g]? = some (.cells (arr .u8 xs) t fr)) (m : Nat) (hm : xs.length = m) : Src w (some ⟨g, 0, none⟩) m xs :=
  src_row h (by rw [arr_toList, Nat.mul_one, List.take_of_length_le (by rw [List.length_map]; exact Nat.le_refl _)]) hm

set_option maxRecDepth 100000 in
set_option maxHeartbeats 4000000 in
theorem seal_any (key nonce plain beside : List Int) (sp sb : Option Addr) (n1 n2 c1 c2 : Nat) (w : World) (hk : key.length = 32) (hn : nonce.length = 12) (bk : bytes key) (bn : bytes nonce) (hp : Src w sp n1 plain) (hb : Src w sb n2 beside) (bb : bytes beside) (l1 : n1 ≤ 137438953472) (l2 : n2 ≤ 137438953472) (k2 : n2 ≤ c2) :
    Calls Try.prog 10 #[.agg (arr .u8 key), .agg (arr .u8 nonce), .slice sp n1 c1, .slice sb n2 c2] w fun e w' => ∃ v, e = .returned v ∧ Own8 w' w.heap.size v (seal' key nonce plain beside) ∧ Below w.heap.size w w' := by
  have hpl := hp.len
  obtain ⟨zt, hzt⟩ : ∃ zs : List Int, zs = List.replicate 16 0 := ⟨_, rfl⟩
  have hyt : ∀ w, (zeroValue 42).run Try.prog w = .ok (.agg (arr .u8 zt)) w := by intro w; rw [hzt]; exact zeroTag w
  have hztl : zt.length = 16 := by rw [hzt]; rfl
  have M1 := fun w hs => Ch.turn_any sp n1 c1 plain key nonce 1 w hs hk hn bk bn (by omega)
  obtain ⟨tx, htx⟩ : ∃ x, x = turn key 1 nonce plain := ⟨_, rfl⟩
  have txl : tx.length = n1 := by rw [htx, turn_len, hpl]
  have txb : bytes tx := by rw [htx]; exact bytes_turn _ _ _ _
  have M2 := fun sc c1 w (hc : Src w sc n1 tx) hb (k1 : n1 ≤ c1) => tag_any key nonce tx beside sc sb n1 n2 c1 c2 w hk hn bk bn hc hb txb bb (by omega) (by omega) k1 k2
  obtain ⟨tg, htg⟩ : ∃ x, x = tag key nonce tx beside := ⟨_, rfl⟩
  have tgl : tg.length = 16 := by rw [htg, tag_len]
  have hse : tx ++ tg = seal' key nonce plain beside := by rw [seal', ← htx, ← htg]
  rw [← htx] at M1
  rw [← htg] at M2
  rw [← hse]
  have S0 := B2.start w (arr .u8 key) (arr .u8 nonce) 23 38
  have HS0 := Lib.hid S0
  have HK := Lib.hid hk
  have HN := Lib.hid hn
  have HP := Lib.hid (hp.below S0.below)
  have HB := Lib.hid (hb.below S0.below)
  have HYT := Lib.hid hyt
  have HZT := Lib.hid hztl
  have HM1 := Lib.hid M1
  have HM2 := Lib.hid M2
  have TXL := Lib.hid txl
  have TGL := Lib.hid tgl
  clear S0 hk hn hp hb hpl hyt hztl M1 M2 txl tgl hzt htx txb htg hse bk bn bb k2
  go_enter Try.func10, Try.ntmps10
  go_wp2_with (first | ((with_reducible show wpList _ _ _ (Oper.mk (some 11) _ _ _ _ _ :: _) _ _); refine wpList_load_part rfl 23 _ rfl w.heap.size 0 _ 23 (0, 0) _ HS0.out.b0 rfl .u8 key (arr_part _ _) Try.underlying23 rfl (by rw [HK.out]; exact size32) ?_) | ((with_reducible show wpList _ _ _ (Oper.mk (some 12) _ _ _ _ _ :: _) _ _); refine wpList_load_part rfl 38 _ rfl (w.heap.size + 1) 0 _ 38 (0, 0) _ HS0.out.b1 rfl .u8 nonce (arr_part _ _) Try.underlying38 rfl (by rw [HN.out]; exact size12) ?_) | ((with_reducible show Calls _ _ #[_, .int _ _, _, _] _ _); go_at_call 14; refine (HM1.out _ HP.out).mono ?_; rintro e w1 ⟨v1, rfl, ho1, hbw⟩; have HB1 := Lib.hid (HS0.out.after hbw); obtain ⟨s1, cc1, hv1, hcc1, -, hs1, -⟩ := ho1.form; rw [TXL.out] at hv1 hs1 hcc1; subst hv1; have HO1 := Lib.hid ho1; have HX1 := Lib.hid hs1; have HCC := Lib.hid hcc1; have HBS := Lib.hid (HB.out.below hbw); have hsz1 : w.heap.size ≤ w1.heap.size := HB1.out.below.size; clear hbw ho1 hs1 hcc1) | ((with_reducible show wpList _ _ _ (Oper.mk (some 15) _ _ _ _ _ :: _) _ _); refine wpList_load_part rfl 23 _ rfl w.heap.size 0 _ 23 (0, 0) _ HB1.out.b0 rfl .u8 key (arr_part _ _) Try.underlying23 rfl (by rw [HK.out]; exact size32) ?_) | ((with_reducible show wpList _ _ _ (Oper.mk (some 16) _ _ _ _ _ :: _) _ _); refine wpList_load_part rfl 38 _ rfl (w.heap.size + 1) 0 _ 38 (0, 0) _ HB1.out.b1 rfl .u8 nonce (arr_part _ _) Try.underlying38 rfl (by rw [HN.out]; exact size12) ?_) | ((with_reducible show Calls _ _ _ w1 _); go_at_call 15; refine (HM2.out s1 cc1 w1 HX1.out HBS.out HCC.out).mono ?_; rintro e w2 ⟨rfl, hbw⟩; have HB2 := Lib.hid (HB1.out.after hbw); have HO2 := Lib.hid (HO1.out.below hbw); clear hbw) | ((with_reducible show wpList _ _ _ (Oper.mk (some 10) _ _ _ _ _ :: _) _ _); refine wpList_alloc_row rfl 42 rfl _ (HYT.out _) ?_; go_simp) | ((with_reducible show wpList _ _ _ (Oper.mk none (Op.store _ (Operand.tmp 10) _) _ _ _ _ :: _) _ _); refine wpList_store_whole rfl 42 _ _ rfl w2.heap.size _ _ 42 (blk_new _ _) rfl rfl (by rw [arr_size, arr_size, TGL.out, HZT.out]) (arrTag tg TGL.out) (all_arr _ _) ?_; intro w3 hb3 hk3 hz3; have hl3 := blk_lt HB2.out.b1; have HB3 := Lib.hid ((HB2.out.alloc (.cells (arr .u8 zt) 42)).farK hk3 (by rintro i rfl; omega)); have HG3 := Lib.hid (src_arr hb3 16 TGL.out); have HO3 := Lib.hid (((HO2.out.alloc (.cells (arr .u8 zt) 42)).kept hk3 (fun g hg e => by have := (HO2.out.lt g hg).2; omega)).mono (B' := w.heap.size) (by simp; omega)); clear hb3 hk3 hz3) | ((with_reducible show wpList _ _ _ (Oper.mk (some 22) _ _ _ _ _ :: _) _ _); refine wpList_app8 rfl _ _ rfl w.heap.size (.slice s1 n1 cc1) tx rfl HO3.out (some ⟨w2.heap.size, 0, none⟩) 16 16 tg rfl HG3.out (by rw [TXL.out]; omega) HB3.out.below.size ?_; intro v4 w4 ho4 hg4 hn4 ha4; have hw4 := app8_below HO3.out hg4 HB3.out.below HB3.out.below.size; have HO4 := Lib.hid ho4; have HW4 := Lib.hid hw4; clear ho4 hg4 hn4 ha4 hw4))
  go_ret
  exact ⟨_, rfl, HO4.out, HW4.out⟩


end Go.Proofs.Ytogebegdgfdijaa.Ae
