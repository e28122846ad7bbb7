/- otp.New, Root, Secret, Count, Most, Step: what each answers and what it makes of the counter. Condition: the counter lies there whole. -/
import Derived.Test.YtimlgkfhfofpbaaFlJ
import Derived.Test.YtimlgkfhfofpbaaArr
namespace Go.Proofs.Ytimlgkfhfofpbaa
open Go.RowKit

/-- The cells of a counter. -/
def otpC (f : Value) (r s : List Int) (c m : Int) : Array Value := ([f] ++ (r.map (Value.int .u8) ++ (s.map (Value.int .u8) ++ [Value.int .i64 c, Value.int .i64 m]))).toArray
def IsOtp (w : World) (q : Nat) (f : Value) (r s : List Int) (c m : Int) : Prop := w.heap[q]? = some (.cells (otpC f r s c m) 81 (0, 0)) ∧ r.length = 32 ∧ s.length = 32
theorem otpC_size {f : Value} {r s : List Int} {c m : Int} (hr : r.length = 32) (hs : s.length = 32) : (otpC f r s c m).size = 67 := by simp [otpC, hr, hs]
theorem otpC_0 (f : Value) (r s : List Int) (c m : Int) : (otpC f r s c m)[0]? = some f := by simp [otpC]
theorem otpC_65 {f : Value} {r s : List Int} {c m : Int} (hr : r.length = 32) (hs : s.length = 32) : (otpC f r s c m)[65]? = some (.int .i64 c) := by
  simp only [otpC, List.getElem?_toArray]
  rw [List.getElem?_append_right (by simp), List.getElem?_append_right (by simp [hr]), List.getElem?_append_right (by simp [hr, hs])]
  simp [hr, hs]
theorem otpC_66 {f : Value} {r s : List Int} {c m : Int} (hr : r.length = 32) (hs : s.length = 32) : (otpC f r s c m)[66]? = some (.int .i64 m) := by
  simp only [otpC, List.getElem?_toArray]
  rw [List.getElem?_append_right (by simp), List.getElem?_append_right (by simp [hr]), List.getElem?_append_right (by simp [hr, hs])]
  simp [hr, hs]
theorem otpC_set {f : Value} {r s : List Int} {c m : Int} (hr : r.length = 32) (hs : s.length = 32) (c' : Int) : (otpC f r s c m).setIfInBounds 65 (.int .i64 c') = otpC f r s c' m := by
  simp only [otpC, List.setIfInBounds_toArray]
  congr 1
  rw [List.set_append_right _ _ (by simp), List.set_append_right _ _ (by simp [hr]), List.set_append_right _ _ (by simp [hr, hs])]
  simp [hr, hs]

theorem zero_otp (w : World) : (zeroValue 81).run Try.prog w = .ok (.agg (otpC (.pointer none) (List.replicate 32 0) (List.replicate 32 0) 0 0)) w := by kernel_rfl
theorem fill_otp (f : Option Addr) (r s z y : List Int) (hr : r.length = 32) (hs : s.length = 32) (hz : z.length = 32) (hy : y.length = 32) (m : Int) :
    Instr.fill (fun x => #[((0 : Nat), (1 : Nat)), (1, 32), (33, 32), (65, 1), (66, 1)][x]?) (Value.agg (otpC (.pointer none) z y 0 0)).cells
      [(0, .pointer f), (1, .agg (arr .u8 r)), (2, .agg (arr .u8 s)), (4, .int .i64 m)] = some (otpC (.pointer f) r s 0 m) := by
  have c1 : (Value.agg (arr .u8 r)).cells.size = 32 := by simp [Value.cells, arr_size, hr]
  have c2 : (Value.agg (arr .u8 s)).cells.size = 32 := by simp [Value.cells, arr_size, hs]
  have c3 : (Value.int .i64 m).cells.size = 1 := rfl
  have c0 : (Value.pointer f).cells.size = 1 := rfl
  rw [fill_cons _ _ _ _ _ 0 (by rw [c0]; rfl) (by simp [Value.cells, otpC, hz, hy]), fill_cons _ _ _ _ _ 1 (by rw [c1]; rfl) (by simp [Value.cells, arr_size, hr, otpC, hz, hy]), fill_cons _ _ _ _ _ 33 (by rw [c2]; rfl) (by simp [Value.cells, arr_size, hr, hs, otpC, hz, hy]),
    fill_cons _ _ _ _ _ 66 (by rw [c3]; rfl) (by simp [Value.cells, arr_size, hr, hs, otpC, hz, hy])]
  rw [Instr.fill]
  congr 1
  have hR : (r.map (Value.int .u8)).length = 32 := by simp [hr]
  have hS : (s.map (Value.int .u8)).length = 32 := by simp [hs]
  have hZ : (z.map (Value.int .u8)).length = 32 := by simp [hz]
  have hY : (y.map (Value.int .u8)).length = 32 := by simp [hy]
  simp only [otpC, Value.cells, arr]
  generalize r.map (Value.int .u8) = R at hR ⊢
  generalize s.map (Value.int .u8) = S at hS ⊢
  generalize z.map (Value.int .u8) = Z at hZ ⊢
  generalize y.map (Value.int .u8) = Y at hY ⊢
  simp [hR, hS, hZ, hY, List.take_append, List.drop_append, List.take_of_length_le, List.drop_eq_nil_of_le]

theorem build_otp (f : Option Addr) (r s : List Int) (hr : r.length = 32) (hs : s.length = 32) (m : Int) (w : World) :
    (Instr.build 81 #[(0, .pointer f), (1, .agg (arr .u8 r)), (2, .agg (arr .u8 s)), (4, .int .i64 m)]).run Try.prog w = .ok (.agg (otpC (.pointer f) r s 0 m)) w := by
  unfold Instr.build
  simp only [Sem.run_bind, zero_otp, Result.andThen_ok, run_underlying Try.underlying81]
  refine (congrArg (fun R => Result.andThen R _) (show _ = Result.ok #[(0, 1), (1, 32), (33, 32), (65, 1), (66, 1)] w from ?h)).trans ?_
  case h => kernel_rfl
  simp only [Result.andThen_ok]
  rw [fill_otp f r s _ _ hr hs (by simp) (by simp) m]
  rfl

theorem size_num : (Try.prog.info? 31).map (·.size) = some 32 := by kernel_rfl

set_option maxHeartbeats 800000 in
theorem onew_any (f : Option Addr) (r s : List Int) (hr : r.length = 32) (hs : s.length = 32) (m : Int) (w : World) :
    Calls Try.prog 15 #[.pointer f, .agg (arr .u8 r), .agg (arr .u8 s), .int .i64 m] w fun e w' =>
      ∃ q, e = .returned (.pointer (some ⟨q, 0, none⟩)) ∧ IsOtp w' q (.pointer f) r s 0 (min (max 0 m) 1048576) ∧ w.heap.size ≤ q ∧ Below w.heap.size w w' := by
  have hb := fun w => build_otp f r s hr hs (min (max 0 m) 1048576) w
  have g1 : ((w.alloc (.cells (arr .u8 r) 31)).alloc (.cells (arr .u8 s) 31)).heap[w.heap.size]? = some (.cells (arr .u8 r) 31 (0, 0)) := blk_alloc (blk_new w _) _
  have g2 : ((w.alloc (.cells (arr .u8 r) 31)).alloc (.cells (arr .u8 s) 31)).heap[w.heap.size + 1]? = some (.cells (arr .u8 s) 31 (0, 0)) := by
    have := blk_new (w.alloc (.cells (arr .u8 r) 31)) (.cells (arr .u8 s) 31)
    rwa [show (w.alloc (.cells (arr .u8 r) 31)).heap.size = w.heap.size + 1 by simp] at this
  have z1 : (Try.prog.info? 31).map (·.size) = some (arr .u8 r).size := by rw [arr_size, hr]; exact size_num
  have z2 : (Try.prog.info? 31).map (·.size) = some (arr .u8 s).size := by rw [arr_size, hs]; exact size_num
  have G1 := Lib.hid g1
  have G2 := Lib.hid g2
  have Z1 := Lib.hid z1
  have Z2 := Lib.hid z2
  have HR := Lib.hid hr
  have HS := Lib.hid hs
  have HB := Lib.hid hb
  clear g1 g2 z1 z2 hr hs hb
  go_enter Try.func15, Try.ntmps15
  go_wp2_with (first | ((with_reducible show wpList _ _ _ (Oper.mk (some 10) _ _ _ _ _ :: _) _ _); refine wpList_load_row rfl 31 _ rfl _ rfl 31 (arr .u8 r) (0, 0) _ G1.out Try.underlying31 rfl Z1.out ?_) | ((with_reducible show wpList _ _ _ (Oper.mk (some 11) _ _ _ _ _ :: _) _ _); refine wpList_load_row rfl 31 _ rfl _ rfl 31 (arr .u8 s) (0, 0) _ G2.out Try.underlying31 rfl Z2.out ?_) | ((with_reducible show wpList _ _ _ (Oper.mk (some 15) _ _ _ _ _ :: _) _ _); refine wpList_build rfl 81 _ rfl #[(0, .pointer f), (1, .agg (arr .u8 r)), (2, .agg (arr .u8 s)), (4, .int .i64 (min (max 0 m) 1048576))] rfl _ (HB.out _) ?_))
  go_ret
  refine ⟨w.heap.size + 1 + 1, rfl, ⟨?_, HR.out, HS.out⟩, by omega, (((Below.refl _ w).alloc (Nat.le_refl _) _).alloc (by simp) _).alloc (by simp; omega) _⟩
  have := blk_new ((w.alloc (.cells (arr .u8 r) 31)).alloc (.cells (arr .u8 s) 31)) (.cells (otpC (.pointer f) r s 0 (min (max 0 m) 1048576)) 81)
  rwa [show ((w.alloc (.cells (arr .u8 r) 31)).alloc (.cells (arr .u8 s) 31)).heap.size = w.heap.size + 1 + 1 by simp] at this

theorem IsOtp.kept {T : Nat → Prop} {w w' : World} {q : Nat} {f : Value} {r s : List Int} {c m : Int} (h : IsOtp w q f r s c m) (k : Kept T w w') (hq : ¬ T q) : IsOtp w' q f r s c m := ⟨k.blk h.1 hq, h.2⟩
theorem IsOtp.below {w w' : World} {q : Nat} {f : Value} {r s : List Int} {c m : Int} (h : IsOtp w q f r s c m) (k : Below w.heap.size w w') : IsOtp w' q f r s c m := ⟨Below.blk k h.1 (blk_lt h.1), h.2⟩
theorem IsOtp.cs {w : World} {q : Nat} {f : Value} {r s : List Int} {c m : Int} (h : IsOtp w q f r s c m) :
    w.cell? ⟨q, 0, none⟩ = some f ∧ w.cell? ⟨q, 65, none⟩ = some (.int .i64 c) ∧ w.cell? ⟨q, 66, none⟩ = some (.int .i64 m) :=
  ⟨by rw [cell_blk h.1, otpC_0], by rw [cell_blk h.1, otpC_65 h.2.1 h.2.2], by rw [cell_blk h.1, otpC_66 h.2.1 h.2.2]⟩
theorem IsOtp.root {w : World} {q : Nat} {f : Value} {r s : List Int} {c m : Int} (h : IsOtp w q f r s c m) : w.rangeAt q 1 (r.map (Value.int .u8)) := by
  intro j v hj
  rw [cell_blk h.1]
  have hl : j < (r.map (Value.int .u8)).length := (List.getElem?_eq_some_iff.1 hj).1
  simp only [otpC, List.getElem?_toArray]
  rw [List.getElem?_append_right (by simp), List.getElem?_append_left (by simp at hl ⊢; omega), ← hj]
  congr 1
  simp
theorem IsOtp.secret {w : World} {q : Nat} {f : Value} {r s : List Int} {c m : Int} (h : IsOtp w q f r s c m) : w.rangeAt q 33 (s.map (Value.int .u8)) := by
  intro j v hj
  rw [cell_blk h.1]
  have hl : j < (s.map (Value.int .u8)).length := (List.getElem?_eq_some_iff.1 hj).1
  have hr := h.2.1
  simp only [otpC, List.getElem?_toArray]
  rw [List.getElem?_append_right (by simp <;> omega), List.getElem?_append_right (by simp [hr] <;> omega), List.getElem?_append_left (by simp [hr] at hl ⊢ <;> omega), ← hj]
  congr 1
  simp [hr] <;> omega

theorem ocount_any (q : Nat) (f : Value) (r s : List Int) (c m : Int) (w : World) (h : IsOtp w q f r s c m) :
    Calls Try.prog 19 #[.pointer (some ⟨q, 0, none⟩)] w fun e w' => e = .returned (.int .i64 c) ∧ w = w' := by
  obtain ⟨c0, c1, c2⟩ := h.cs
  go_enter Try.func19, Try.ntmps19
  go_wp2
  go_ret
  exact ⟨rfl, rfl⟩
theorem omost_any (q : Nat) (f : Value) (r s : List Int) (c m : Int) (w : World) (h : IsOtp w q f r s c m) :
    Calls Try.prog 26 #[.pointer (some ⟨q, 0, none⟩)] w fun e w' => e = .returned (.int .i64 m) ∧ w = w' := by
  obtain ⟨c0, c1, c2⟩ := h.cs
  go_enter Try.func26, Try.ntmps26
  go_wp2
  go_ret
  exact ⟨rfl, rfl⟩

set_option maxHeartbeats 800000 in
theorem oroot_any (q : Nat) (f : Value) (r s : List Int) (c m : Int) (w : World) (h : IsOtp w q f r s c m) :
    Calls Try.prog 20 #[.pointer (some ⟨q, 0, none⟩)] w fun e w' => e = .returned (.agg (arr .u8 r)) ∧ Below w.heap.size w w' := by
  have hrg := fun o => World.rangeAt_alloc h.root o
  have hl : (r.map (Value.int .u8)).length = 32 := by rw [List.length_map]; exact h.2.1
  have z1 : (Try.prog.info? 31).map (·.size) = some (r.map (Value.int .u8)).length := by rw [hl]; exact size_num
  have z2 : (Try.prog.info? 31).map (·.size) = some (r.map (Value.int .u8)).toArray.size := by rw [List.size_toArray, hl]; exact size_num
  have ht : ∀ Z : Array Value, Z.size = 32 → (w.alloc (.cells Z 31)).there w.heap.size 0 (r.map (Value.int .u8)).toArray.size := by
    intro Z hZ j hj
    rw [List.size_toArray, hl] at hj
    rw [cell_blk (blk_new w _), Nat.zero_add]
    exact ⟨by rw [Array.getElem?_eq_getElem (by omega)]; rfl, free_blk (blk_new w _) _⟩
  have h1 : (r.map (Value.int .u8)).toArray.all (·.oneCell') = true := all_oneCell_toArray (by intro v hv; obtain ⟨y, _, rfl⟩ := List.mem_map.1 hv; rfl)
  have hfin : ∀ Z : Array Value, Z.size = 32 → ((w.alloc (.cells Z 31)).setCells w.heap.size 0 (r.map (Value.int .u8)).toArray.toList).heap[w.heap.size]? = some (.cells (r.map (Value.int .u8)).toArray 31 (0, 0)) := by
    intro Z hZ
    rw [blk_setCells _ _ _ _ 0 _ _ (blk_new w _) (by simp [hZ] at hl ⊢; omega)]
    congr 2
    simp at hl ⊢
    omega
  have hbel : ∀ Z : Array Value, Below w.heap.size w ((w.alloc (.cells Z 31)).setCells w.heap.size 0 (r.map (Value.int .u8)).toArray.toList) := fun Z =>
    (kept_setCells (T := fun _ => False) w.heap.size _ 0 _ ((Kept.refl _ w).alloc _) (.inr (Nat.le_refl _))).toBelow (Nat.le_refl _) (fun _ h => h.elim)
  have HRG := Lib.hid hrg
  have Z1 := Lib.hid z1
  have Z2 := Lib.hid z2
  have HT := Lib.hid ht
  have H1 := Lib.hid h1
  have HFIN := Lib.hid hfin
  have HBEL := Lib.hid hbel
  clear hrg z1 z2 ht h1 hfin hbel hl
  go_enter Try.func20, Try.ntmps20
  go_wp2_with (first | ((with_reducible show wpList _ _ _ (Oper.mk (some 6) _ _ _ _ _ :: _) _ _); refine wpList_load_mid rfl 31 _ rfl q 1 rfl (r.map (Value.int .u8)) _ (HRG.out _) Try.underlying31 rfl Z1.out ?_) | ((with_reducible show wpList _ _ _ (Oper.mk none _ _ _ _ _ :: _) _ _); refine wpList_store_mid rfl 31 _ _ rfl w.heap.size 0 (r.map (Value.int .u8)).toArray rfl rfl (HT.out _ rfl) Z2.out H1.out ?_; generalize hW : World.setCells _ _ _ _ = w2; have HW := Lib.hid hW; clear hW))
  have hg2 : w2.heap[w.heap.size]? = some (.cells (r.map (Value.int .u8)).toArray 31 (0, 0)) := by rw [← HW.out]; exact HFIN.out _ rfl
  have hb2 : Below w.heap.size w w2 := by rw [← HW.out]; exact HBEL.out _
  (try simp only [Exit.inBlock, Exit.then])
  refine bodyPost_ret (results_cell_row rfl _ _ w.heap.size 31 (r.map (Value.int .u8)).toArray (0, 0) _ rfl hg2 Try.underlying31 rfl Z2.out) rfl ?_
  exact ⟨rfl, hb2⟩

set_option maxHeartbeats 800000 in
theorem osecret_any (q : Nat) (f : Value) (r s : List Int) (c m : Int) (w : World) (h : IsOtp w q f r s c m) :
    Calls Try.prog 21 #[.pointer (some ⟨q, 0, none⟩)] w fun e w' => e = .returned (.agg (arr .u8 s)) ∧ Below w.heap.size w w' := by
  have hrg := fun o => World.rangeAt_alloc h.secret o
  have hl : (s.map (Value.int .u8)).length = 32 := by rw [List.length_map]; exact h.2.2
  have z1 : (Try.prog.info? 31).map (·.size) = some (s.map (Value.int .u8)).length := by rw [hl]; exact size_num
  have z2 : (Try.prog.info? 31).map (·.size) = some (s.map (Value.int .u8)).toArray.size := by rw [List.size_toArray, hl]; exact size_num
  have ht : ∀ Z : Array Value, Z.size = 32 → (w.alloc (.cells Z 31)).there w.heap.size 0 (s.map (Value.int .u8)).toArray.size := by
    intro Z hZ j hj
    rw [List.size_toArray, hl] at hj
    rw [cell_blk (blk_new w _), Nat.zero_add]
    exact ⟨by rw [Array.getElem?_eq_getElem (by omega)]; rfl, free_blk (blk_new w _) _⟩
  have h1 : (s.map (Value.int .u8)).toArray.all (·.oneCell') = true := all_oneCell_toArray (by intro v hv; obtain ⟨y, _, rfl⟩ := List.mem_map.1 hv; rfl)
  have hfin : ∀ Z : Array Value, Z.size = 32 → ((w.alloc (.cells Z 31)).setCells w.heap.size 0 (s.map (Value.int .u8)).toArray.toList).heap[w.heap.size]? = some (.cells (s.map (Value.int .u8)).toArray 31 (0, 0)) := by
    intro Z hZ
    rw [blk_setCells _ _ _ _ 0 _ _ (blk_new w _) (by simp [hZ] at hl ⊢; omega)]
    congr 2
    simp at hl ⊢
    omega
  have hbel : ∀ Z : Array Value, Below w.heap.size w ((w.alloc (.cells Z 31)).setCells w.heap.size 0 (s.map (Value.int .u8)).toArray.toList) := fun Z =>
    (kept_setCells (T := fun _ => False) w.heap.size _ 0 _ ((Kept.refl _ w).alloc _) (.inr (Nat.le_refl _))).toBelow (Nat.le_refl _) (fun _ h => h.elim)
  have HRG := Lib.hid hrg
  have Z1 := Lib.hid z1
  have Z2 := Lib.hid z2
  have HT := Lib.hid ht
  have H1 := Lib.hid h1
  have HFIN := Lib.hid hfin
  have HBEL := Lib.hid hbel
  clear hrg z1 z2 ht h1 hfin hbel hl
  go_enter Try.func21, Try.ntmps21
  go_wp2_with (first | ((with_reducible show wpList _ _ _ (Oper.mk (some 6) _ _ _ _ _ :: _) _ _); refine wpList_load_mid rfl 31 _ rfl q 33 rfl (s.map (Value.int .u8)) _ (HRG.out _) Try.underlying31 rfl Z1.out ?_) | ((with_reducible show wpList _ _ _ (Oper.mk none _ _ _ _ _ :: _) _ _); refine wpList_store_mid rfl 31 _ _ rfl w.heap.size 0 (s.map (Value.int .u8)).toArray rfl rfl (HT.out _ rfl) Z2.out H1.out ?_; generalize hW : World.setCells _ _ _ _ = w2; have HW := Lib.hid hW; clear hW))
  have hg2 : w2.heap[w.heap.size]? = some (.cells (s.map (Value.int .u8)).toArray 31 (0, 0)) := by rw [← HW.out]; exact HFIN.out _ rfl
  have hb2 : Below w.heap.size w w2 := by rw [← HW.out]; exact HBEL.out _
  (try simp only [Exit.inBlock, Exit.then])
  refine bodyPost_ret (results_cell_row rfl _ _ w.heap.size 31 (s.map (Value.int .u8)).toArray (0, 0) _ rfl hg2 Try.underlying31 rfl Z2.out) rfl ?_
  exact ⟨rfl, hb2⟩

end Go.Proofs.Ytimlgkfhfofpbaa
