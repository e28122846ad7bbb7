/- portcullislaw6.ShbLengths: what it answers. Condition: the document's table holds what its text lays. -/
import Derived.Test.YtmohdmjjkhcjoaaDoorSh7
namespace Go.Proofs.YtmohdmjjkhcjoaaDoor.Hb
open Go.RowKit

theorem TabK.below {w w' : World} (h : TabK w) (k : Below w.heap.size w w') : TabK w' := fun t ht => below_cell k (h t ht)
def fillF (N j : Nat) (f : Nat → Int) : List Int := (List.range j).map f ++ List.replicate (N - j) 0
theorem fillF_len (N j : Nat) (f : Nat → Int) (h : j ≤ N) : (fillF N j f).length = N := by simp [fillF]; omega
theorem fillF_set (N j : Nat) (f : Nat → Int) (h : j < N) : (fillF N j f).set j (f j) = fillF N (j + 1) f := by
  unfold fillF
  rw [List.set_append_right _ _ (by simp), List.length_map, List.length_range, Nat.sub_self, show N - j = (N - (j + 1)) + 1 by omega, List.replicate_succ, List.set_cons_zero, List.range_succ, List.map_append, List.append_assoc]
  rfl
theorem fillF_all (N : Nat) (f : Nat → Int) : fillF N N f = (List.range N).map f := by simp [fillF]

set_option maxRecDepth 100000 in
set_option maxHeartbeats 2000000 in
theorem lengths_main (N : Nat) (v : Int) (w : World) (hn : N ≤ 1000) (hk : TabK w) :
    Calls Tryd.prog 4 #[.int .i64 (N : Int), .int .u8 v] w fun e w' => e = .returned (.bool true) ∧ Below w.heap.size w w' := by
  have hmk := mk8 N (by omega)
  obtain ⟨f, hf⟩ : ∃ f : Nat → Int, f = fun i : Nat => (v + (i : Int)) % 256 := ⟨_, rfl⟩
  have HF := Lib.hid hf
  have HK := Lib.hid hk
  clear hf hk
  go_enter Tryd.func4, Tryd.ntmps4
  go_wp2_with (go_at_call 7; refine (alive6_any _).mono ?_; rintro e w1 ⟨rfl, hb1⟩; have HB1 := Lib.hid hb1; clear hb1)
  have hb0 : (w1.alloc (.cells (row8 (zeros N) []) 5)).heap[w1.heap.size]? = some (.cells (row8 (fillF N 0 f) []) 5 (0, 0)) := blk_new _ _
  have HB0 := Lib.hid hb0
  have HBA := Lib.hid ((HB1.out).alloc HB1.out.size (.cells (row8 (zeros N) []) 5))
  clear hb0
  go_loopw [7] (fun i wr => ∃ j : Nat, j ≤ N ∧ i = .int .i64 j ∧ wr.heap[w1.heap.size]? = some (.cells (row8 (fillF N j f) []) 5 (0, 0)) ∧ Below w.heap.size w wr) (fun i _ => N - (intOf i).toNat)
  case atStart => exact ⟨0, Nat.zero_le _, rfl, HB0.out, HBA.out⟩
  case round =>
    obtain ⟨j, hj, rfl, hb, hB⟩ := hrel
    by_cases hlt : j < N
    · have x0 : wr.cell? ⟨w1.heap.size, j, none⟩ = _ := (cell_blk hb j).trans (row8_get _ _ _ (by rw [fillF_len _ _ _ hj]; exact hlt))
      have x1 := free_blk hb j
      have h2 := fun u (hu : u = f j) => blk_setCell (o := j) hb (.int .u8 u)
      have h3 : ∀ u, u = f j → (wr.setCell ⟨w1.heap.size, j, none⟩ (.int .u8 u)).heap[w1.heap.size]? = some (.cells (row8 (fillF N (j + 1) f) []) 5 (0, 0)) := by
        rintro u rfl
        rw [h2 _ rfl, row8_set _ _ _ (by rw [fillF_len _ _ _ hj]; exact hlt), fillF_set N j f hlt]
      have H2 := Lib.hid h3
      have hs1 := HB1.out.size
      have HB := Lib.hid (fun u => hB.setCell (p := ⟨w1.heap.size, j, none⟩) hs1 (.int .u8 u))
      clear hb hB h2 h3
      go_wp2_with fail
      go_roundw
      case rel => exact ⟨j + 1, by omega, by go_num, H2.out _ (by rw [HF.out]), HB.out _⟩
      case measure => simp [intOf]; omega
    · have ej : j = N := by omega
      rw [ej, fillF_all] at hb
      obtain ⟨xs, hxs⟩ : ∃ xs, xs = (List.range N).map f := ⟨_, rfl⟩
      rw [← hxs] at hb
      have hxl : xs.length = N := by rw [hxs]; simp
      have hby : bytes xs := by
        intro x hx
        rw [hxs, HF.out] at hx
        obtain ⟨i, _, rfl⟩ := List.mem_map.1 hx
        show 0 ≤ (v + (i : Int)) % 256 ∧ (v + (i : Int)) % 256 ≤ 255
        omega
      have hsr := src_blk hb
      rw [hxl] at hsr
      have hsl := srcL_one (ci := N) (by rw [hxl]; exact hsr) (by omega)
      have hsum := sum_any _ 1 1 [xs] _ hsl (by intro l hl; simp at hl; subst hl; exact hby) (by simp; omega) (by omega)
      rw [show ([xs] : List (List Int)).flatten = xs by simp, hxl] at hsum
      have HSUM := Lib.hid hsum
      have HSR := Lib.hid hsr
      have HBY := Lib.hid hby
      have HXL := Lib.hid hxl
      have HBR := Lib.hid (hB.alloc hB.size (.cells #[.slice (some ⟨w1.heap.size, 0, none⟩) N N] 25))
      have HBL := Lib.hid ((Below.refl _ wr).alloc (Nat.le_refl _) (.cells #[.slice (some ⟨w1.heap.size, 0, none⟩) N N] 25))
      clear hb hB hsr hsl hsum hby hxl hxs ej
      go_wp2_with (first | (go_at_call 11; refine HSUM.out.mono ?_; rintro e w3 ⟨rfl, hb3⟩; have HB3 := Lib.hid (HBR.out.trans (hb3.mono HBR.out.size)); have HS3 := Lib.hid (HSR.out.below (HBL.out.trans (hb3.mono HBL.out.size))); clear hb3) | (go_at_call 10; refine (ref_any _ N N xs _ HS3.out HBY.out (by omega) (HK.out.below HB3.out)).mono ?_; rintro e w4 ⟨rfl, hb4⟩; have HB4 := Lib.hid (HB3.out.trans (hb4.mono HB3.out.size)); clear hb4) | ((with_reducible show wpList _ _ _ (Oper.mk (some 39) _ _ _ _ _ :: _) _ _); refine wpList_eql_arr (by rfl) 28 _ 5 (.tmp 36) (.tmp 38) rfl 64 .u8 .u8 Tryd.underlying28 Tryd.underlying5 size_u8 (by kernel_rfl) (hash xs) (hash xs) rfl rfl (hash_len _) (hash_len _) true (by simp) ?_))
      (try simp only [Exit.inBlock, Exit.then])
      go_ret
      exact ⟨rfl, HB4.out⟩

theorem lengths_any (n v : Int) (w : World) (hk : TabK w) :
    Calls Tryd.prog 4 #[.int .i64 n, .int .u8 v] w fun e w' => e = .returned (.bool true) ∧ Below w.heap.size w w' := by
  by_cases hf : n < 0 ∨ 1000 < n
  · go_enter Tryd.func4, Tryd.ntmps4
    rcases hf with hf | hf
    all_goals (
      go_wp2_with (go_at_call 7; refine (alive6_any _).mono ?_; rintro e w1 ⟨rfl, hb1⟩; have HB1 := Lib.hid hb1; clear hb1)
      go_ret
      exact ⟨rfl, HB1.out⟩)
  · obtain ⟨N, rfl⟩ := Int.eq_ofNat_of_zero_le (show 0 ≤ n by omega)
    exact lengths_main N v w (by omega) hk

end Go.Proofs.YtmohdmjjkhcjoaaDoor.Hb
