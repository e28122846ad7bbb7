/- portcullislaw6.alive and ShbLengths: what they answer. Condition: the document's table holds what its text lays. -/
import Derived.Test.YtmohdmjjkhcjoaaDoorSh6
import Derived.Test.YtmohdmjjkhcjoaaDoorHex
import Derived.Test.YtmohdmjjkhcjoaaDoorHbS
import Derived.Test.YtmohdmjjkhcjoaaDoorSrcA
import Derived.Lib.SlBytesConst
namespace Go.Proofs.YtmohdmjjkhcjoaaDoor.Hb
open Go.RowKit

theorem arr_row8 (xs : List Int) : arr .u8 xs = row8 xs [] := by simp [arr, row8]
/-- A list of one, laid in a block of its own. -/
theorem srcL_one {w : World} {si : Option Addr} {ci : Nat} {l : List Int} (h : Src w si l.length l) (hc : l.length ≤ ci) :
    SrcL (w.alloc (.cells #[.slice si l.length ci] 25)) (some ⟨w.heap.size, 0, none⟩) 1 [l] := by
  refine ⟨rfl, fun i hi => ?_⟩
  obtain rfl : i = 0 := by omega
  refine ⟨_, si, ci, rfl, ?_, hc, h.below ((Below.refl _ w).alloc (Nat.le_refl _) _)⟩
  rw [show (⟨w.heap.size, 0, none⟩ : Addr).add 0 = ⟨w.heap.size, 0, none⟩ from rfl, cell_blk (blk_new w _)]
  rfl
theorem hash_bytes (m : List Int) : bytes (hash m) := by
  intro x hx
  simp only [hash, digest, List.mem_map, List.mem_range] at hx
  obtain ⟨i, _, rfl⟩ := hx
  omega
theorem abc_hex : strOfNums (hexL ((hash [97, 98, 99]).take 8)) = ⟨#[100, 100, 97, 102, 51, 53, 97, 49, 57, 51, 54, 49, 55, 97, 98, 97]⟩ := by
  rw [abc]
  decide +kernel

set_option maxRecDepth 100000 in
set_option maxHeartbeats 1000000 in
theorem alive6_any (w : World) : Calls Tryd.prog 7 #[] w fun e w' => e = .returned (.bool true) ∧ Below w.heap.size w w' := by
  obtain ⟨H, hH⟩ : ∃ H, H = hash [97, 98, 99] := ⟨_, rfl⟩
  have hHl : H.length = 64 := by rw [hH]; exact hash_len _
  have h8 : strOfNums (hexL (H.take 8)) = ⟨#[100, 100, 97, 102, 51, 53, 97, 49, 57, 51, 54, 49, 55, 97, 98, 97]⟩ := by rw [hH]; exact abc_hex
  have hb : bytes (H.take 8) := fun x hx => by rw [hH] at hx; exact hash_bytes _ x (List.mem_of_mem_take hx)
  have kc : (convert 25 25 (.slice (some ⟨w.heap.size, 0, none⟩) 3 3)).run Tryd.prog (w.alloc (.cells #[.int .u8 97, .int .u8 98, .int .u8 99] 5)) = .ok (.slice (some ⟨w.heap.size, 0, none⟩) 3 3) (w.alloc (.cells #[.int .u8 97, .int .u8 98, .int .u8 99] 5 (3, 4))) :=
    Lib.run_convert_bytes_const w 25 5 #[.int .u8 97, .int .u8 98, .int .u8 99] 3 3 Tryd.underlying25 Tryd.underlying5
  have hsr : Src (w.alloc (.cells #[.int .u8 97, .int .u8 98, .int .u8 99] 5 (3, 4))) (some ⟨w.heap.size, 0, none⟩) 3 [97, 98, 99] := src_row (blk_new w _) rfl rfl
  have hsl := srcL_one (l := [97, 98, 99]) (ci := 3) hsr (Nat.le_refl _)
  have hB0 : Below w.heap.size w ((w.alloc (.cells #[.int .u8 97, .int .u8 98, .int .u8 99] 5 (3, 4))).alloc (.cells #[.slice (some ⟨w.heap.size, 0, none⟩) 3 3] 25)) := ((Below.refl _ w).alloc (Nat.le_refl _) _).alloc (by simp) _
  have hsum := sum_any _ 1 1 [[97, 98, 99]] _ hsl (by intro l hl; simp at hl; subst hl; intro x hx; simp at hx; omega) (by simp) (by omega)
  rw [show ([[97, 98, 99]] : List (List Int)).flatten = [97, 98, 99] from rfl, ← hH, World.size_alloc, show ([97, 98, 99] : List Int).length = 3 from rfl] at hsum
  have z2 : (Tryd.prog.info? 28).map (·.size) = some (arr .u8 H).size := by rw [arr_size, hHl]; exact sizeOut
  have z3 : (arr .u8 H).size = (arr .u8 (List.replicate 64 0)).size := by rw [arr_size, arr_size, hHl, List.length_replicate]
  have HSUM := Lib.hid hsum
  have HB0 := Lib.hid hB0
  have H8 := Lib.hid h8
  have HBY := Lib.hid hb
  have HHL := Lib.hid hHl
  have Z2 := Lib.hid z2
  have Z3 := Lib.hid z3
  clear hsum hB0 hsr hsl z2 z3 h8 hb hHl hH
  go_enter Tryd.func7, Tryd.ntmps7
  go_wp2_with (first | (go_at_call 11; refine HSUM.out.mono ?_; rintro e w1 ⟨rfl, hb1⟩; have HB1 := Lib.hid (HB0.out.trans (hb1.mono HB0.out.size)); clear hb1) | ((with_reducible show wpList _ _ _ (Oper.mk (some 1) _ _ _ _ _ :: _) _ _); refine wpList_alloc_row rfl 28 rfl _ (zeroOut _) ?_; have HA := Lib.hid (blk_new w1 (.cells (arr .u8 (List.replicate 64 0)) 28))) | ((with_reducible show wpList _ _ _ (Oper.mk none _ _ _ _ _ :: _) _ _); refine wpList_store_whole rfl 28 _ _ rfl w1.heap.size _ _ 28 HA.out rfl rfl Z3.out Z2.out (all_arr _ _) ?_; intro w3 hb3 hk3 hz3; have HW3 := Lib.hid hb3; have HB3 := Lib.hid ((HB1.out.alloc HB1.out.size _).trans (hk3.toBelow (by simp; have := HB1.out.size; omega) (by rintro i rfl; exact HB1.out.size))); clear hb3 hk3 hz3))
  have hs3 : Src w3 (some ⟨w1.heap.size, 0, none⟩) 64 H := src_row HW3.out (by rw [Nat.mul_one, arr_toList, List.take_of_length_le (by simp)]) HHL.out
  refine (hex_any (some ⟨w1.heap.size, 0, none⟩) 8 64 (H.take 8) w3 (Src.take hs3 8 (by omega)) HBY.out (by omega)).mono ?_
  rintro e w4 ⟨rfl, hb4⟩
  rw [H8.out]
  have HB4 := Lib.hid (HB3.out.trans (hb4.mono HB3.out.size))
  clear hb4
  go_wp2_with fail
  go_ret
  exact ⟨rfl, HB4.out⟩

end Go.Proofs.YtmohdmjjkhcjoaaDoor.Hb
