/- chacha.begin: the words in which a block begins. Condition: the key has 32 bytes, the nonce 12. -/
import Derived.Test.YtoljnogpegemjaaChA
namespace Go.Proofs.Ytoljnogpegemjaa.Ch
open Go.RowKit

/-- A row in which i of n words are laid behind others. -/
def lay (pre : List Int) (f : Nat → Int) (i n : Nat) : List Int := pre ++ (List.range i).map f ++ List.replicate (n - i) 0
theorem lay_len (pre : List Int) (f : Nat → Int) (i n : Nat) (h : i ≤ n) : (lay pre f i n).length = pre.length + n := by simp [lay]; omega
theorem lay_set (pre : List Int) (f : Nat → Int) (i n : Nat) (h : i < n) : (lay pre f i n).set (pre.length + i) (f i) = lay pre f (i + 1) n := by
  unfold lay
  rw [List.set_append_right _ _ (by simp), show n - i = (n - (i + 1)) + 1 by omega, List.replicate_succ, List.range_succ]
  simp
theorem lay_more (pre : List Int) (f : Nat → Int) (i n : Nat) (g : Nat → Int) (_h : i ≤ n) : lay pre f i n = lay (pre ++ (List.range i).map f) g 0 (n - i) := by simp [lay]

theorem al32 : Try.prog.arrayLen 23 = 32 := by kernel_rfl
theorem al12 : Try.prog.arrayLen 46 = 12 := by kernel_rfl
theorem zero16 (w : World) : (zeroValue 86).run Try.prog w = .ok (.agg (arr .u32 (List.replicate 16 0))) w := by kernel_rfl
theorem build4 (w : World) : (Instr.build 86 #[(0, .int .u32 1634760805), (1, .int .u32 857760878), (2, .int .u32 2036477234), (3, .int .u32 1797285236)]).run Try.prog w = .ok (.agg (arr .u32 (lay [1634760805, 857760878, 2036477234, 1797285236] (fun _ => 0) 0 12))) w := by kernel_rfl
theorem size16 : (Try.prog.info? 86).map (·.size) = some 16 := by kernel_rfl

/-- What holds while the words are laid. -/
structure Bg (w wr : World) (key nonce s : List Int) : Prop where
  bk : wr.heap[w.heap.size]? = some (.cells (arr .u8 key) 23 (0, 0))
  bn : wr.heap[w.heap.size + 1]? = some (.cells (arr .u8 nonce) 46 (0, 0))
  br : wr.heap[w.heap.size + 1 + 1]? = some (.cells (arr .u32 (List.replicate 16 0)) 86 (0, 0))
  bs : wr.heap[w.heap.size + 1 + 1 + 1]? = some (.cells (arr .u32 s) 86 (0, 0))
  below : Below w.heap.size w wr
theorem Bg.start (w : World) (key nonce s : List Int) : Bg w ((((w.alloc (.cells (arr .u8 key) 23)).alloc (.cells (arr .u8 nonce) 46)).alloc (.cells (arr .u32 (List.replicate 16 0)) 86)).alloc (.cells (arr .u32 s) 86)) key nonce s := by
  have e1 : ∀ o, (w.alloc o).heap.size = w.heap.size + 1 := by simp
  have e2 : ∀ o p, ((w.alloc o).alloc p).heap.size = w.heap.size + 1 + 1 := by simp
  have e3 : ∀ o p q, (((w.alloc o).alloc p).alloc q).heap.size = w.heap.size + 1 + 1 + 1 := by simp
  refine ⟨blk_alloc (blk_alloc (blk_alloc (blk_new w _) _) _) _, ?_, ?_, ?_, ((((Below.refl _ w).alloc (Nat.le_refl _) _).alloc (by rw [e1]; omega) _).alloc (by rw [e2]; omega) _).alloc (by rw [e3]; omega) _⟩
  · rw [← e1]
    exact blk_alloc (blk_alloc (blk_new _ _) _) _
  · rw [← e2]
    exact blk_alloc (blk_new _ _) _
  · rw [← e3]
    exact blk_new _ _
theorem Bg.drewN {w wr : World} {key nonce s : List Int} (h : Bg w wr key nonce s) (n : Nat) : Bg w (wr.drewN n) key nonce s := ⟨h.bk, h.bn, h.br, h.bs, Go.Proofs.Ytoljnogpegemjaa.Below.drewN h.below n⟩
theorem Bg.set {w wr : World} {key nonce s : List Int} (h : Bg w wr key nonce s) (i : Nat) (x : Int) : Bg w (wr.setCell ⟨w.heap.size + 1 + 1 + 1, i, none⟩ (.int .u32 x)) key nonce (s.set i x) :=
  ⟨blk_setCell_ne h.bk _ (by omega), blk_setCell_ne h.bn _ (by omega), blk_setCell_ne h.br _ (by omega), blk_arr_set h.bs i x, h.below.setCell (p := ⟨w.heap.size + 1 + 1 + 1, i, none⟩) (by simp; omega) _⟩

theorem slice_l (t : TypeId) (N g i : Nat) (ht : Try.prog.underlying t = some (.array (Try.prog.arrayLen t) (Try.prog.elem t))) (al : Try.prog.arrayLen t = N) (hz : ∀ w, (sizeOf (Try.prog.elem t)).run Try.prog w = .ok 1 w) (hi : i < N) (w : World) :
    (Instr.sliceAt t (.pointer (some ⟨g, 0, none⟩)) (some (.int .i64 (i : Int))) none none).run Try.prog w = .ok (.slice (some ⟨g, i, none⟩) (N - i) (N - i)) w := by
  rw [run_sliceAt_array_l w t ⟨g, 0, none⟩ ht .i64 i (by omega) (by rw [al]; omega), hz, al, Result.andThen_ok]
  unfold slicedAt
  rw [Int.toNat_natCast, if_neg (by omega), Nat.mul_one]
  have e : (⟨g, 0, none⟩ : Addr).add i = ⟨g, i, none⟩ := by
    unfold Addr.add
    by_cases h0 : i = 0
    · subst h0; rfl
    · simp [h0]
  rw [e]

set_option maxRecDepth 100000 in
theorem begin_any (key nonce : List Int) (c : Int) (w : World) (hk : key.length = 32) (hn : nonce.length = 12) (bk : bytes key) (bn : bytes nonce) :
    Calls Try.prog 57 #[.agg (arr .u8 key), .int .u32 c, .agg (arr .u8 nonce)] w fun e w' => e = .returned (.agg (arr .u32 (begin key c nonce))) ∧ Below w.heap.size w w' := by
  have al := al32
  have al2 := al12
  have HK := Lib.hid hk
  have HN := Lib.hid hn
  have BK := Lib.hid bk
  have BN := Lib.hid bn
  have S0 := Lib.hid (Bg.start w key nonce (lay [1634760805, 857760878, 2036477234, 1797285236] (fun i => word key (4 * i)) 0 12))
  clear hk hn bk bn
  go_enter Try.func57, Try.ntmps57
  go_wp2_with fail
  go_loopw [11] (fun i wr => ∃ n : Nat, n ≤ 8 ∧ i = .int .i64 n ∧ Bg w wr key nonce (lay [1634760805, 857760878, 2036477234, 1797285236] (fun i => word key (4 * i)) n 12)) (fun i _ => 8 - (intOf i).toNat)
  case atStart => exact ⟨0, Nat.zero_le _, rfl, S0.out⟩
  clear S0
  case round =>
  obtain ⟨n, hn8, rfl, hB⟩ := hrel
  by_cases hlt : n < 8
  · have HB := Lib.hid hB
    have hsl := slice_l 23 32 w.heap.size (4 * n) (by kernel_rfl) al (fun w => by kernel_rfl) (by omega)
    rw [show ((4 * n : Nat) : Int) = 4 * (n : Int) by omega] at hsl
    have hc : ∀ j, j < 4 → wr.cell? ⟨w.heap.size, 4 * n + j, none⟩ = some (.int .u8 (key.getD (4 * n + j) 0)) := fun j hj => blk_arr hB.bk _ (by rw [HK.out]; omega)
    have HC := Lib.hid hc
    have hfr := free_blk hB.bs (4 + n)
    have hce := blk_arr hB.bs (4 + n) (by rw [lay_len _ _ _ _ (by omega)]; simp; omega)
    clear hB hc
    go_wp2_with (go_at_call 68; refine (word_any w.heap.size (4 * n) (32 - 4 * n) (32 - 4 * n) key (4 * n) wr BK.out (by omega) (HC.out 0 (by omega)) (HC.out 1 (by omega)) (HC.out 2 (by omega)) (HC.out 3 (by omega))).mono ?_; rintro e w' ⟨rfl, k, rfl⟩)
    have hd := HB.out.drewN k
    have HS := Lib.hid (hd.set (4 + n) (word key (4 * n)))
    have HL := Lib.hid (lay_set [1634760805, 857760878, 2036477234, 1797285236] (fun i => word key (4 * i)) n 12 (by omega))
    clear hsl HC hfr hce hd HB
    go_roundw
    case rel =>
      refine ⟨n + 1, by omega, by go_num, ?_⟩
      rw [← HL.out]
      exact HS.out
    case measure => simp [intOf]; omega
  · have e8 : n = 8 := by omega
    rw [e8] at hB
    obtain ⟨pre, hpre⟩ : ∃ pre, pre = [1634760805, 857760878, 2036477234, 1797285236] ++ (List.range 8).map fun i => word key (4 * i) := ⟨_, rfl⟩
    have hpl : pre.length = 12 := by rw [hpre]; simp
    rw [lay_more _ _ 8 12 (fun _ => c) (by omega), ← hpre] at hB
    have hc12 := blk_arr hB.bs 12 (by rw [lay_len _ _ _ _ (by omega)]; omega)
    have hf12 := free_blk hB.bs 12
    have hs12 := lay_set pre (fun _ => c) 0 4 (by omega)
    rw [hpl, lay_more _ _ (0 + 1) 4 (fun i => word nonce (4 * i)) (by omega)] at hs12
    have hB2 := hB.set 12 c
    rw [show (12 : Nat) = 12 + 0 by rfl, hs12] at hB2
    obtain ⟨pre2, hpre2⟩ : ∃ pre2, pre2 = pre ++ (List.range (0 + 1)).map fun _ => c := ⟨_, rfl⟩
    rw [← hpre2] at hB2
    have hpl2 : pre2.length = 13 := by rw [hpre2]; simp; omega
    have hend : pre2 ++ ((List.range 3).map fun i => word nonce (4 * i)) = begin key c nonce := by rw [hpre2, hpre]; rfl
    have HB2 := Lib.hid hB2
    have HP2 := Lib.hid hpl2
    have HE := Lib.hid hend
    clear hB hs12 hB2 hpre hpre2 hpl hpl2 hend e8
    go_wp2_with fail
    clear hc12 hf12
    go_loopw [24] (fun i wr => ∃ n : Nat, n ≤ 3 ∧ i = .int .i64 n ∧ Bg w wr key nonce (lay pre2 (fun i => word nonce (4 * i)) n 3)) (fun i _ => 3 - (intOf i).toNat)
    case atStart => exact ⟨0, Nat.zero_le _, rfl, HB2.out⟩
    clear HB2
    case round =>
    obtain ⟨n, hn8, rfl, hB⟩ := hrel
    by_cases hlt : n < 3
    · have HB := Lib.hid hB
      have hsl := slice_l 46 12 (w.heap.size + 1) (4 * n) (by kernel_rfl) al2 (fun w => by kernel_rfl) (by omega)
      rw [show ((4 * n : Nat) : Int) = 4 * (n : Int) by omega] at hsl
      have hc : ∀ j, j < 4 → wr.cell? ⟨w.heap.size + 1, 4 * n + j, none⟩ = some (.int .u8 (nonce.getD (4 * n + j) 0)) := fun j hj => blk_arr hB.bn _ (by rw [HN.out]; omega)
      have HC := Lib.hid hc
      have hfr := free_blk hB.bs (13 + n)
      have hce := blk_arr hB.bs (13 + n) (by rw [lay_len _ _ _ _ (by omega), HP2.out]; omega)
      clear hB hc
      go_wp2_with (go_at_call 68; refine (word_any (w.heap.size + 1) (4 * n) (12 - 4 * n) (12 - 4 * n) nonce (4 * n) wr BN.out (by omega) (HC.out 0 (by omega)) (HC.out 1 (by omega)) (HC.out 2 (by omega)) (HC.out 3 (by omega))).mono ?_; rintro e w' ⟨rfl, k, rfl⟩)
      have hd := HB.out.drewN k
      have hl := lay_set pre2 (fun i => word nonce (4 * i)) n 3 (by omega)
      rw [HP2.out] at hl
      have HS := Lib.hid (hd.set (13 + n) (word nonce (4 * n)))
      have HL := Lib.hid hl
      clear hsl HC hfr hce hd HB hl
      go_roundw
      case rel =>
        refine ⟨n + 1, by omega, by go_num, ?_⟩
        rw [← HL.out]
        exact HS.out
      case measure => simp [intOf]; omega
    · obtain rfl : n = 3 := by omega
      rw [show lay pre2 (fun i => word nonce (4 * i)) 3 3 = begin key c nonce by rw [← HE.out]; simp [lay]] at hB
      obtain ⟨s, hs⟩ : ∃ s, s = begin key c nonce := ⟨_, rfl⟩
      rw [← hs] at hB
      have HSS := Lib.hid hs
      have hsl : s.length = 16 := by rw [hs]; exact begin_len _ _ _
      have hp : ((arr .u32 s).toList.drop 0).take s.length = s.map (Value.int .u32) := by rw [List.drop_zero, arr_toList, List.take_of_length_le (by simp)]
      have z1 : (Try.prog.info? 86).map (·.size) = some s.length := by rw [hsl]; exact size16
      have z2 : (Try.prog.info? 86).map (·.size) = some (arr .u32 s).size := by rw [arr_size]; exact z1
      have z3 : (arr .u32 s).size = (arr .u32 (List.replicate 16 0)).size := by rw [arr_size, arr_size, hsl, List.length_replicate]
      have HB := Lib.hid hB
      have HP := Lib.hid hp
      have Z1 := Lib.hid z1
      have Z2 := Lib.hid z2
      have Z3 := Lib.hid z3
      clear hB hp z1 z2 z3 hs hsl
      go_wp2_with (first | ((with_reducible show wpList _ _ _ (Oper.mk (some 35) _ _ _ _ _ :: _) _ _); refine wpList_load_part rfl 86 _ rfl (w.heap.size + 1 + 1 + 1) 0 _ 86 (0, 0) _ HB.out.bs rfl .u32 s HP.out Try.underlying86 rfl Z1.out ?_) | ((with_reducible show wpList _ _ _ (Oper.mk none _ _ _ _ _ :: _) _ _); refine wpList_store_whole rfl 86 _ _ rfl (w.heap.size + 1 + 1) _ _ 86 HB.out.br rfl rfl Z3.out Z2.out (all_arr _ _) ?_; intro w7 hb7 hk7 hz7; have HB7 := Lib.hid hb7; have HK7 := Lib.hid hk7; clear hb7 hk7 hz7))
      (try simp only [Exit.inBlock, Exit.then])
      refine bodyPost_ret (results_cell_row rfl _ _ (w.heap.size + 1 + 1) 86 _ (0, 0) _ rfl HB7.out Try.underlying86 rfl Z2.out) rfl ?_
      rw [HSS.out]
      exact ⟨rfl, HB.out.below.trans (HK7.out.toBelow HB.out.below.size (by rintro i rfl; omega))⟩

end Go.Proofs.Ytoljnogpegemjaa.Ch
