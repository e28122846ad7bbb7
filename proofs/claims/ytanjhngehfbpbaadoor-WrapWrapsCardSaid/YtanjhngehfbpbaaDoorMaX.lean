/- WrapWraps: it answers true. Condition: the document's table holds what its text lays. -/
import Derived.Test.YtanjhngehfbpbaaDoorMm
import Derived.Test.YtanjhngehfbpbaaDoorMaU
set_option maxRecDepth 100000
set_option maxHeartbeats 16000000
set_option linter.unusedSimpArgs false
set_option linter.unusedVariables false
namespace Go.Proofs.YtanjhngehfbpbaaDoor.Wr
open Go.RowKit Lm Cu Sl Fp
theorem wraps_any {ts ds xs : List Int} (T D : Nat) (w : World) (hT : K32 ts T) (hD : K32 ds D) (hx : xs.length = 32) (bx : bytes xs) (hk : Ha.TabK w) :
    Calls Tryd.prog 6 #[.agg (arr .u8 ts), .agg (arr .u8 ds), .agg (arr .u8 xs)] w fun e w' => e = .returned (.bool true) ∧ Below w.heap.size w w' := by
  have hw1 := fun (u : World) => wrap_any T D u hT hD hx bx
  have hw2 := fun (u : World) (h : Ha.TabK u) => rwrap_any T D u hT hD hx bx h
  obtain ⟨we, hwe⟩ : ∃ x, x = werr T D := ⟨_, rfl⟩
  obtain ⟨wl, hwl⟩ : ∃ x, x = wres T D xs := ⟨_, rfl⟩
  rw [← hwe, ← hwl] at hw1 hw2
  obtain ⟨m, hm⟩ : ∃ x, x = wl.length := ⟨_, rfl⟩
  rw [← hm] at hw1 hw2
  have HW1 := Lib.hid hw1
  have HW2 := Lib.hid hw2
  have HTL := Lib.hid hT.len
  have HDL := Lib.hid hD.len
  have HXL := Lib.hid hx
  have HTK := Lib.hid hk
  have HI0 := Lib.hid (Blk.three w (arr .u8 ts) (arr .u8 ds) (arr .u8 xs) 23 23 23)
  clear hw1 hw2 hwe hwl hm hT hD hx bx hk
  go_enter Tryd.func6, Tryd.ntmps6
  go_upto_region 4 with (first | ((with_reducible show Calls _ 19 _ _ _); go_at_call 19; refine (alive14_any _).mono ?_; rintro e w1 ⟨rfl, hb1⟩; have HI1 := Lib.hid (HI0.out.kept hb1); clear hb1) | ((with_reducible refine aS 14 ?_); refine wpList_load_part rfl 23 _ rfl (w.heap.size) 0 _ 23 (0, 0) _ (HI1.out.get 0 rfl) rfl .u8 ts (arr_part _ _) Tryd.underlying23 rfl (num_i HTL.out) ?_) | ((with_reducible refine aS 15 ?_); refine wpList_load_part rfl 23 _ rfl (w.heap.size + 1) 0 _ 23 (0, 0) _ (HI1.out.get 1 rfl) rfl .u8 ds (arr_part _ _) Tryd.underlying23 rfl (num_i HDL.out) ?_) | ((with_reducible refine aS 16 ?_); refine wpList_load_part rfl 23 _ rfl (w.heap.size + 1 + 1) 0 _ 23 (0, 0) _ (HI1.out.get 2 rfl) rfl .u8 xs (arr_part _ _) Tryd.underlying23 rfl (num_i HXL.out) ?_) | ((with_reducible show Calls _ 20 _ _ _); go_at_call 20; refine (HW1.out _).mono ?_; rintro e w2 ⟨⟨s2, c2, rfl, hs2, hc2⟩, hb2⟩; have HS2 := Lib.hid hs2; have HI2 := Lib.hid (HI1.out.kept hb2); clear hs2 hc2 hb2) | ((with_reducible refine aS 21 ?_); refine wpList_load_part rfl 23 _ rfl (w.heap.size) 0 _ 23 (0, 0) _ (HI2.out.get 0 rfl) rfl .u8 ts (arr_part _ _) Tryd.underlying23 rfl (num_i HTL.out) ?_) | ((with_reducible refine aS 22 ?_); refine wpList_load_part rfl 23 _ rfl (w.heap.size + 1) 0 _ 23 (0, 0) _ (HI2.out.get 1 rfl) rfl .u8 ds (arr_part _ _) Tryd.underlying23 rfl (num_i HDL.out) ?_) | ((with_reducible refine aS 23 ?_); refine wpList_load_part rfl 23 _ rfl (w.heap.size + 1 + 1) 0 _ 23 (0, 0) _ (HI2.out.get 2 rfl) rfl .u8 xs (arr_part _ _) Tryd.underlying23 rfl (num_i HXL.out) ?_) | ((with_reducible show Calls _ 21 _ _ _); go_at_call 21; refine (HW2.out _ (ktab_below HTK.out HI2.out.below)).mono ?_; rintro e w3 ⟨⟨s3, c3, rfl, hs3, hc3⟩, hb3⟩; have HS3 := Lib.hid hs3; have HS2' := Lib.hid (HS2.out.below hb3); have HI3 := Lib.hid (HI2.out.kept hb3); clear hs3 hc3 hb3))
  (try simp only [World.size_alloc, Act.put, sA, sZ, sS])
  have q1 := src_string (c := c2) HS2'.out
  have q2 := src_string (c := c3) HS3.out
  generalize strOfNums wl = S at q1 q2
  have q3 : (we == we) = true := beq_self_eq_true we
  have q4 : (S.toList == S.toList) = true := beq_self_eq_true S.toList
  go_wp2_with (first | ((with_reducible show Calls _ 22 _ _ _); go_at_call 22; refine (num14_any _ _).mono ?_; rintro e w6 ⟨rfl, rfl⟩))
  (try simp only [Exit.then])
  go_ret
  exact ⟨rfl, HI3.out.below⟩
end Go.Proofs.YtanjhngehfbpbaaDoor.Wr
