/- bytes.Repeat of one byte: a new slice of n such bytes. Condition: n is at most 2^18; the one byte lies in a block of its own. -/
import Derived.Test.YtcecgbjpmegljaaFlE
import Derived.Test.YtcecgbjpmegljaaMul
import Derived.Lib.MakeNoZero
import Derived.Deep.RegionLaw
import Derived.StillTailTactics
namespace Go.Proofs.Ytcecgbjpmegljaa
open Go.RowKit

theorem mnz_call (n : Nat) (hn : n ≤ 262144) (w : World) : ∃ cs : Array Value,
    (callFunc 33 #[.int .i64 n]).run Try.prog w = .ok (.value (.slice (some ⟨w.heap.size, 0, none⟩) n cs.size)) ((w.alloc (.cells cs 5)).drewN 2) ∧ n ≤ cs.size ∧ cs.size ≤ maxLen := by
  obtain ⟨cs, h, h1, h2⟩ := Lib.run_makeNoZero (P := Try.prog) w #[3] 26 5 Try.underlying26 n (by omega)
  refine ⟨cs, ?_, h1, h2 (by unfold maxLen; omega)⟩
  rw [run_callFunc_extern Try.func33 (by kernel_rfl) (by kernel_rfl) (by kernel_rfl) (e := Extern.BytealgMakeNoZero.makeNoZero #[3] #[26]) (by kernel_rfl), h]
  rfl

theorem repeat_zero (x c : Nat) (w : World) :
    Calls Try.prog 19 #[.slice (some ⟨x, 0, none⟩) 1 c, .int .i64 0] w fun e w' =>
      e = .returned (.slice (some ⟨w.heap.size, 0, none⟩) 0 0) ∧ w.alloc (.cells #[] 5) = w' := by
  go_enter Try.func19, Try.ntmps19
  go_wp2
  go_ret
  exact ⟨rfl, rfl⟩

/-- The buffer while it is filled: its first j places hold the byte. -/
structure FlFill (w0 w : World) (g L j : Nat) (v : Int) : Prop where
  row : ∃ cur : List Value, w.heap[g]? = some (.cells cur.toArray 5 (0, 0)) ∧ cur.length = L ∧ cur.take j = List.replicate j (.int .u8 v)
  below : Below w0.heap.size w0 w

theorem fill_splice (cur : List Value) (j k : Nat) (x : Value) (h : cur.take j = List.replicate j x) :
    (splice cur j (List.replicate k x)).take (j + k) = List.replicate (j + k) x := by
  unfold splice
  rw [h, ← List.append_assoc, List.take_append_of_le_length (by simp), List.take_of_length_le (by simp), List.replicate_append_replicate]

theorem FlFill.done {w0 w : World} {g L n : Nat} {v : Int} (h : FlFill w0 w g L n v) : ∃ sp, w.heap[g]? = some (.cells (row8 (List.replicate n v) sp) 5 (0, 0)) := by
  obtain ⟨cur, h1, h2, h3⟩ := h.row
  refine ⟨cur.drop n, ?_⟩
  rw [h1]
  unfold row8
  rw [List.map_replicate, ← h3, List.take_append_drop]

theorem FlFill.cell {w0 w : World} {g L j : Nat} {v : Int} (h : FlFill w0 w g L j v) (i : Nat) (hi : i < j) : w.cell? ⟨g, i, none⟩ = some (.int .u8 v) := by
  obtain ⟨cur, h1, h2, h3⟩ := h.row
  rw [cell_blk h1]
  have : (cur.take j)[i]? = some (.int .u8 v) := by rw [h3]; simp [hi]
  rw [List.getElem?_take_of_lt hi] at this
  simpa using this

theorem FlFill.first (w : World) (cs : Array Value) (v : Int) (h : 1 ≤ cs.size) :
    FlFill w (((w.alloc (.cells cs 5)).drewN 2).setRow w.heap.size (cs.toList.take 0 ++ ([Value.int .u8 v] ++ cs.toList.drop (0 + [Value.int .u8 v].length))).toArray) w.heap.size cs.size 1 v := by
  refine ⟨⟨_, setRow_heap _ _ cs _ 5 (0, 0) (blk_new w _), ?_, ?_⟩, ?_⟩
  · simp; omega
  · simp
  · exact below_setRow (RowKit.Below.alloc (Below.refl _ w) (Nat.le_refl _) _ |> fun h => ⟨h.os, h.tape, h.output, h.size, h.block⟩) (Nat.le_refl _) _

set_option maxRecDepth 100000 in
set_option maxHeartbeats 1000000 in
theorem repeat_small (x c n : Nat) (v : Int) (w : World) (hn : n ≤ 262144) (h0 : 0 < n) (hb : n ≤ 8192) (hx : w.cell? ⟨x, 0, none⟩ = some (.int .u8 v)) (_hc : 1 ≤ c) :
    Calls Try.prog 19 #[.slice (some ⟨x, 0, none⟩) 1 c, .int .i64 n] w fun e w' =>
      e = .returned (.slice (some ⟨w.heap.size, 0, none⟩) n n) ∧ ∃ L, FlFill w w' w.heap.size L n v := by
  obtain ⟨cs, hm, hcs, hcm⟩ := mnz_call n hn w
  have hmul := fun w => bits_Mul 1 n (by omega) (by omega) w
  have e1 : 1 * n / 18446744073709551616 = 0 := by omega
  have e2 : 1 * n % 18446744073709551616 = n := by omega
  rw [e1, e2] at hmul
  have HM := Lib.hid hmul
  have hne : ((n : Int) == 0) = false := by simp; omega
  have hxl := blk_lt (show w.heap[x]? = some (w.heap[x]'(World.block_lt_of_cell? w _ hx)) from Array.getElem?_eq_getElem _)
  have hx2 : ∀ j u, [Value.int .u8 v][j]? = some u → ((w.alloc (.cells cs 5)).drewN 2).cell? ((⟨x, 0, none⟩ : Addr).add j) = some u := by
    intro j u hj
    have hj0 : j = 0 := by
      rcases j with _ | j
      · rfl
      · simp at hj
    subst hj0
    simp at hj
    subst hj
    exact ((Kept.refl (fun _ => False) w).alloc _).cellX hx id
  have HX2 := Lib.hid hx2
  have HF := Lib.hid (FlFill.first w cs v (by omega))
  clear hmul e1 e2 hx hx2
  go_enter Try.func19, Try.ntmps19
  go_wp2_with (first | (go_at_call 32; refine (HM.out _).mono ?_; rintro e w' ⟨rfl, rfl⟩) | ((with_reducible show wpList _ _ _ (Oper.mk (some 60) _ _ _ _ _ :: _) _ _); refine wpList_copy_own rfl _ _ 26 26 rfl 5 Try.underlying26 size_u8 w.heap.size 0 _ _ ⟨x, 0, none⟩ _ _ rfl rfl cs 5 (blk_new w _) [.int .u8 v] (show 1 = min 1 n by omega) HX2.out (by simp; omega) (by simp [Value.oneCell']) ?_; generalize hw' : World.setRow _ _ _ = w2 at HF ⊢; have HW := Lib.hid hw'; clear hw'))
  go_loopw [10] (fun bp wr => ∃ j : Nat, 1 ≤ j ∧ j ≤ n ∧ bp = .int .i64 j ∧ FlFill w wr w.heap.size cs.size j v) (fun bp _ => n - (intOf bp).toNat)
  case atStart => exact ⟨1, by omega, by omega, rfl, HF.out⟩
  case round =>
    obtain ⟨j, hj1, hj, rfl, hf⟩ := hrel
    by_cases hlt : j < n
    · have mk : ∀ k : Nat, k ≤ j → j + k ≤ n → ∀ i u, (List.replicate k (Value.int .u8 v))[i]? = some u → wr.cell? ((⟨w.heap.size, 0, none⟩ : Addr).add i) = some u := by
        intro k hk _ i u hu
        have hik : i < k := by
          rcases Nat.lt_or_ge i k with q | q
          · exact q
          · rw [List.getElem?_eq_none (by simpa using q)] at hu; cases hu
        have e : (⟨w.heap.size, 0, none⟩ : Addr).add i = ⟨w.heap.size, i, none⟩ := by unfold Addr.add; split <;> simp_all
        rw [e, hf.cell i (by omega), ← hu]
        simp [hik]
      have MK := Lib.hid mk
      obtain ⟨cur, r1, r2, r3⟩ := hf.row
      have hB := hf.below
      have R1 := Lib.hid r1
      have R2 := Lib.hid r2
      have R3 := Lib.hid r3
      have HBB := Lib.hid hB
      clear mk r1 r2 r3 hB hf
      have hmin : min (j : Int) (n : Int) = (j : Int) := by omega
      obtain ⟨m, hm1, hm2, hm3⟩ : ∃ m : Nat, m = Nat.min j (n - j) ∧ 1 ≤ m ∧ j + m ≤ n := ⟨_, rfl, by show 1 ≤ min j (n - j); omega, by show j + min j (n - j) ≤ n; omega⟩
      have hmk : m ≤ j := by rw [hm1]; exact Nat.min_le_left _ _
      have HM1 := Lib.hid hm1
      clear hm1
      have hnj : ¬ n = j := by omega
      have hwr : IntKind.i64.wrap ((j : Int) + (m : Int)) = (j : Int) + (m : Int) := IntWalk.i64_in _ (by omega)
      have hb1 : (n : Int) ≤ (n : Int) := by omega
      go_wp2
      go_region_law (refine step_copy_splice rfl (.tmp 70) (.tmp 73) 26 26 rfl 5 Try.underlying26 size_u8 (some ⟨w.heap.size, j, none⟩) (some ⟨w.heap.size, 0, none⟩) (n - j) (n - j) j n ?ch1 ?ch2 w.heap.size j cur 5 R1.out (List.replicate m (.int .u8 v)) (by rw [List.length_replicate]; exact HM1.out) (fun _ => ⟨rfl, _, rfl, MK.out m (by omega) hm3⟩) (by rw [List.length_replicate, R2.out]; omega) (by intro u hu; rw [List.eq_of_mem_replicate hu]; rfl) w.heap.size w HBB.out.drew (Nat.le_refl _) ?_; (case ch1 => go_simp); (case ch2 => go_simp); intro w4 hg4 hb4)
      have HG4 := Lib.hid hg4
      have HB4 := Lib.hid hb4
      clear hg4 hb4
      go_wp2
      go_roundw
      case rel => (repeat apply Exists.intro); exact ⟨⟨j + m, by omega, by omega, by go_num, ⟨_, HG4.out.out, (length_splice _ _ _ (by rw [List.length_replicate, R2.out]; omega)).trans R2.out, fill_splice _ _ _ _ R3.out⟩, HB4.out⟩, rfl⟩
      case measure => simp [intOf, Act.put]; omega
    · obtain rfl : j = n := by omega
      have HF2 := Lib.hid hf
      clear hf
      go_wp2
      go_ret
      exact ⟨rfl, _, HF2.out⟩

set_option maxRecDepth 100000 in
set_option maxHeartbeats 1000000 in
theorem repeat_big (x c n : Nat) (v : Int) (w : World) (hn : n ≤ 262144) (h0 : 0 < n) (hb : 8192 < n) (hx : w.cell? ⟨x, 0, none⟩ = some (.int .u8 v)) (_hc : 1 ≤ c) :
    Calls Try.prog 19 #[.slice (some ⟨x, 0, none⟩) 1 c, .int .i64 n] w fun e w' =>
      e = .returned (.slice (some ⟨w.heap.size, 0, none⟩) n n) ∧ ∃ L, FlFill w w' w.heap.size L n v := by
  obtain ⟨cs, hm, hcs, hcm⟩ := mnz_call n hn w
  have hmul := fun w => bits_Mul 1 n (by omega) (by omega) w
  have e1 : 1 * n / 18446744073709551616 = 0 := by omega
  have e2 : 1 * n % 18446744073709551616 = n := by omega
  rw [e1, e2] at hmul
  have HM := Lib.hid hmul
  have hne : ((n : Int) == 0) = false := by simp; omega
  have hxl := blk_lt (show w.heap[x]? = some (w.heap[x]'(World.block_lt_of_cell? w _ hx)) from Array.getElem?_eq_getElem _)
  have hx2 : ∀ j u, [Value.int .u8 v][j]? = some u → ((w.alloc (.cells cs 5)).drewN 2).cell? ((⟨x, 0, none⟩ : Addr).add j) = some u := by
    intro j u hj
    have hj0 : j = 0 := by
      rcases j with _ | j
      · rfl
      · simp at hj
    subst hj0
    simp at hj
    subst hj
    exact ((Kept.refl (fun _ => False) w).alloc _).cellX hx id
  have HX2 := Lib.hid hx2
  have HF := Lib.hid (FlFill.first w cs v (by omega))
  clear hmul e1 e2 hx hx2
  go_enter Try.func19, Try.ntmps19
  go_wp2_with (first | (go_at_call 32; refine (HM.out _).mono ?_; rintro e w' ⟨rfl, rfl⟩) | ((with_reducible show wpList _ _ _ (Oper.mk (some 60) _ _ _ _ _ :: _) _ _); refine wpList_copy_own rfl _ _ 26 26 rfl 5 Try.underlying26 size_u8 w.heap.size 0 _ _ ⟨x, 0, none⟩ _ _ rfl rfl cs 5 (blk_new w _) [.int .u8 v] (show 1 = min 1 n by omega) HX2.out (by simp; omega) (by simp [Value.oneCell']) ?_; generalize hw' : World.setRow _ _ _ = w2 at HF ⊢; have HW := Lib.hid hw'; clear hw'))
  go_loopw [10] (fun bp wr => ∃ j : Nat, 1 ≤ j ∧ j ≤ n ∧ bp = .int .i64 j ∧ FlFill w wr w.heap.size cs.size j v) (fun bp _ => n - (intOf bp).toNat)
  case atStart => exact ⟨1, by omega, by omega, rfl, HF.out⟩
  case round =>
    obtain ⟨j, hj1, hj, rfl, hf⟩ := hrel
    by_cases hlt : j < n
    · have mk : ∀ k : Nat, k ≤ j → j + k ≤ n → ∀ i u, (List.replicate k (Value.int .u8 v))[i]? = some u → wr.cell? ((⟨w.heap.size, 0, none⟩ : Addr).add i) = some u := by
        intro k hk _ i u hu
        have hik : i < k := by
          rcases Nat.lt_or_ge i k with q | q
          · exact q
          · rw [List.getElem?_eq_none (by simpa using q)] at hu; cases hu
        have e : (⟨w.heap.size, 0, none⟩ : Addr).add i = ⟨w.heap.size, i, none⟩ := by unfold Addr.add; split <;> simp_all
        rw [e, hf.cell i (by omega), ← hu]
        simp [hik]
      have MK := Lib.hid mk
      obtain ⟨cur, r1, r2, r3⟩ := hf.row
      have hB := hf.below
      have R1 := Lib.hid r1
      have R2 := Lib.hid r2
      have R3 := Lib.hid r3
      have HBB := Lib.hid hB
      clear mk r1 r2 r3 hB hf
      by_cases hjm : j ≤ 8192
      · have hmin : min (j : Int) 8192 = (j : Int) := by omega
        obtain ⟨m, hm1, hm2, hm3⟩ : ∃ m : Nat, m = Nat.min j (n - j) ∧ 1 ≤ m ∧ j + m ≤ n := ⟨_, rfl, by show 1 ≤ min j (n - j); omega, by show j + min j (n - j) ≤ n; omega⟩
        have hmk : m ≤ j := by rw [hm1]; exact Nat.min_le_left _ _
        have HM1 := Lib.hid hm1
        clear hm1
        have hnj : ¬ n = j := by omega
        have hwr : IntKind.i64.wrap ((j : Int) + (m : Int)) = (j : Int) + (m : Int) := IntWalk.i64_in _ (by omega)
        have hb1 : 8192 ≤ (n : Int) := by omega
        go_wp2
        go_region_law (refine step_copy_splice rfl (.tmp 70) (.tmp 73) 26 26 rfl 5 Try.underlying26 size_u8 (some ⟨w.heap.size, j, none⟩) (some ⟨w.heap.size, 0, none⟩) (n - j) (n - j) j n ?ah1 ?ah2 w.heap.size j cur 5 R1.out (List.replicate m (.int .u8 v)) (by rw [List.length_replicate]; exact HM1.out) (fun _ => ⟨rfl, _, rfl, MK.out m (by omega) hm3⟩) (by rw [List.length_replicate, R2.out]; omega) (by intro u hu; rw [List.eq_of_mem_replicate hu]; rfl) w.heap.size w HBB.out.drew (Nat.le_refl _) ?_; (case ah1 => go_simp); (case ah2 => go_simp); intro w4 hg4 hb4)
        have HG4 := Lib.hid hg4
        have HB4 := Lib.hid hb4
        clear hg4 hb4
        go_wp2
        go_roundw
        case rel => (repeat apply Exists.intro); exact ⟨⟨j + m, by omega, by omega, by go_num, ⟨_, HG4.out.out, (length_splice _ _ _ (by rw [List.length_replicate, R2.out]; omega)).trans R2.out, fill_splice _ _ _ _ R3.out⟩, HB4.out⟩, rfl⟩
        case measure => simp [intOf, Act.put]; omega
      · have hmin : min (j : Int) 8192 = 8192 := by omega
        obtain ⟨m, hm1, hm2, hm3⟩ : ∃ m : Nat, m = Nat.min 8192 (n - j) ∧ 1 ≤ m ∧ j + m ≤ n := ⟨_, rfl, by show 1 ≤ min 8192 (n - j); omega, by show j + min 8192 (n - j) ≤ n; omega⟩
        have hmk : m ≤ 8192 := by rw [hm1]; exact Nat.min_le_left _ _
        have HM1 := Lib.hid hm1
        clear hm1
        have hnj : ¬ n = j := by omega
        have hwr : IntKind.i64.wrap ((j : Int) + (m : Int)) = (j : Int) + (m : Int) := IntWalk.i64_in _ (by omega)
        have hb1 : 8192 ≤ (n : Int) := by omega
        go_wp2
        go_region_law (refine step_copy_splice rfl (.tmp 70) (.tmp 73) 26 26 rfl 5 Try.underlying26 size_u8 (some ⟨w.heap.size, j, none⟩) (some ⟨w.heap.size, 0, none⟩) (n - j) (n - j) 8192 n ?bh1 ?bh2 w.heap.size j cur 5 R1.out (List.replicate m (.int .u8 v)) (by rw [List.length_replicate]; exact HM1.out) (fun _ => ⟨rfl, _, rfl, MK.out m (by omega) hm3⟩) (by rw [List.length_replicate, R2.out]; omega) (by intro u hu; rw [List.eq_of_mem_replicate hu]; rfl) w.heap.size w HBB.out.drew (Nat.le_refl _) ?_; (case bh1 => go_simp); (case bh2 => go_simp); intro w4 hg4 hb4)
        have HG4 := Lib.hid hg4
        have HB4 := Lib.hid hb4
        clear hg4 hb4
        go_wp2
        go_roundw
        case rel => (repeat apply Exists.intro); exact ⟨⟨j + m, by omega, by omega, by go_num, ⟨_, HG4.out.out, (length_splice _ _ _ (by rw [List.length_replicate, R2.out]; omega)).trans R2.out, fill_splice _ _ _ _ R3.out⟩, HB4.out⟩, rfl⟩
        case measure => simp [intOf, Act.put]; omega
    · obtain rfl : j = n := by omega
      have HF2 := Lib.hid hf
      clear hf
      go_wp2
      go_ret
      exact ⟨rfl, _, HF2.out⟩

end Go.Proofs.Ytcecgbjpmegljaa
