/- WrapOpens: it answers true. Condition: the document's table holds what its text lays. -/
import Derived.Test.YtanjhngehfbpbaaDoorMm
import Derived.Test.YtanjhngehfbpbaaDoorMaV
set_option maxRecDepth 100000
set_option maxHeartbeats 16000000
set_option linter.unusedSimpArgs false
set_option linter.unusedVariables false
namespace Go.Proofs.YtanjhngehfbpbaaDoor.Wr
open Go.RowKit Lm Cu Sl Fp
theorem rowI_src {w : World} {a : Option Addr} {len cap : Nat} {zs : List Int} (h : RowI .u8 w a len cap zs) : Src w a len (zs.take len) ∧ bytes (zs.take len) ∧ len ≤ cap := by
  rcases h with ⟨rfl, rfl, rfl, rfl⟩ | ⟨x, rfl, hl, hm, hz, hc, hw⟩
  · exact ⟨⟨rfl, fun i hi => absurd hi (by omega)⟩, fun x hx => by simp at hx, Nat.le_refl _⟩
  · refine ⟨⟨by simp; omega, fun i hi => ⟨x, rfl, ?_⟩⟩, fun y hy => wf_u8 (hw y (List.mem_of_mem_take hy)), hl⟩
    rw [hc i (by omega)]
    simp [List.getD, hi]
theorem ures_len (S : Nat) (b : List Int) : (ures S b).1.length = 32 := by
  unfold ures
  split
  · split
    · exact n32_len _
    · split
      · rename_i h80 _ hok
        exact opened_len _ _ _ _ hok (by rw [List.length_drop, h80])
      · exact n32_len _
  · exact n32_len _
theorem opens_any {ss bs : List Int} (S : Nat) (sb : Option Addr) (nb cb : Nat) (w : World) (hS : K32 ss S) (hs : Src w sb nb bs) (hc : nb ≤ cb) (bB : bytes bs) (hk : Ha.TabK w) :
    Calls Tryd.prog 7 #[.agg (arr .u8 ss), .slice sb nb cb] w fun e w' => e = .returned (.bool true) ∧ Below w.heap.size w w' := by
  have HI0 := Lib.hid (Blk.one w (arr .u8 ss) 23)
  by_cases hnb : nb ≤ 200
  rotate_left
  · have hgt : (200 : Int) < (nb : Int) := by omega
    clear hnb hS hs hc bB hk
    go_enter Tryd.func7, Tryd.ntmps7
    go_wp2_with (first | ((with_reducible show Calls _ 19 _ _ _); go_at_call 19; refine (alive14_any _).mono ?_; rintro e w1 ⟨rfl, hb1⟩; have HI1 := Lib.hid (HI0.out.kept hb1); clear hb1))
    (try simp only [Exit.then])
    go_ret
    exact ⟨rfl, HI1.out.below⟩
  have hgt : ¬ ((200 : Int) < (nb : Int)) := by omega
  have hw1 := fun (u : World) (h : Src u sb nb bs) => unwrap_any S sb nb cb u hS h hc bB
  have hw2 := fun (u : World) (h : Src u sb nb bs) (hk : Ha.TabK u) => runwrap_any S sb nb cb u hS h hc bB hk
  have hul := ures_len S bs
  obtain ⟨ur, hur⟩ : ∃ x, x = (ures S bs).1 := ⟨_, rfl⟩
  obtain ⟨ue, hue⟩ : ∃ x, x = (ures S bs).2 := ⟨_, rfl⟩
  rw [← hur, ← hue] at hw1 hw2
  rw [← hur] at hul
  have HW1 := Lib.hid hw1
  have HW2 := Lib.hid hw2
  have HUL := Lib.hid hul
  have HSL := Lib.hid hS.len
  have HS := Lib.hid hs
  have HTK := Lib.hid hk
  obtain ⟨zn, hzn⟩ : ∃ zs : List Int, zs = List.replicate 32 0 := ⟨_, rfl⟩
  have HZzn : Hid (∀ w, (zeroValue 23).run Tryd.prog w = .ok (.agg (arr .u8 zn)) w) := Lib.hid (by intro w; rw [hzn]; exact zero_num w)
  have HLzn : Hid (zn.length = 32) := Lib.hid (by rw [hzn]; rfl)
  clear hzn hw1 hw2 hur hue hul hS hs hc bB hk hnb
  go_enter Tryd.func7, Tryd.ntmps7
  go_upto_region 4 with (first | ((with_reducible show Calls _ 19 _ _ _); go_at_call 19; refine (alive14_any _).mono ?_; rintro e w1 ⟨rfl, hb1⟩; have HI1 := Lib.hid (HI0.out.kept hb1); clear hb1))
  (try simp only [World.size_alloc, Act.put, sA, sZ, sS])
  go_upto_region 5 with (first | ((with_reducible refine aS 20 ?_); refine wpList_load_part rfl 23 _ rfl (w.heap.size) 0 _ 23 (0, 0) _ (HI1.out.get 0 rfl) rfl .u8 ss (arr_part _ _) Tryd.underlying23 rfl (num_i HSL.out) ?_) | ((with_reducible show Calls _ 23 _ _ _); go_at_call 23; refine (HW1.out _ (HS.out.below HI1.out.below)).mono ?_; rintro e w2 ⟨rfl, hb2⟩; have HI2 := Lib.hid (HI1.out.kept hb2); clear hb2) | ((with_reducible refine aS 6 ?_); refine wpList_alloc_row rfl 23 rfl _ (HZzn.out _) ?_; have HI3 := Lib.hid (HI2.out.alloc (arr .u8 zn) 23); generalize w2.heap.size = g6 at HI3 ⊢; generalize w2.alloc (.cells (arr .u8 zn) 23) = w3 at HI3 ⊢) | ((with_reducible refine aT 6 ?_); refine wpList_store_whole rfl 23 _ _ rfl (g6) _ _ 23 (HI3.out.get 1 rfl) rfl rfl (arr_len2 _ _ HUL.out HLzn.out) (num_s HUL.out) (all_arr _ _) ?_; intro w4 hb4 hk4 hz4; have HI4 := Lib.hid (HI3.out.put 1 rfl hk4 hb4); clear hb4 hk4 hz4))
  (try simp only [World.size_alloc, Act.put, sA, sZ, sS])
  go_upto_region 6 with (first | ((with_reducible refine aS 26 ?_); refine wpList_load_part rfl 23 _ rfl (w.heap.size) 0 _ 23 (0, 0) _ (HI4.out.get 0 rfl) rfl .u8 ss (arr_part _ _) Tryd.underlying23 rfl (num_i HSL.out) ?_) | ((with_reducible show Calls _ 24 _ _ _); go_at_call 24; refine (HW2.out _ (HS.out.below HI4.out.below) (ktab_below HTK.out HI4.out.below)).mono ?_; rintro e w5 ⟨rfl, hb5⟩; have HI5 := Lib.hid (HI4.out.kept hb5); clear hb5) | ((with_reducible refine aS 8 ?_); refine wpList_alloc_row rfl 23 rfl _ (HZzn.out _) ?_; have HI6 := Lib.hid (HI5.out.alloc (arr .u8 zn) 23); generalize w5.heap.size = g8 at HI6 ⊢; generalize w5.alloc (.cells (arr .u8 zn) 23) = w6 at HI6 ⊢) | ((with_reducible refine aT 8 ?_); refine wpList_store_whole rfl 23 _ _ rfl (g8) _ _ 23 (HI6.out.get 2 rfl) rfl rfl (arr_len2 _ _ HUL.out HLzn.out) (num_s HUL.out) (all_arr _ _) ?_; intro w7 hb7 hk7 hz7; have HI7 := Lib.hid (HI6.out.put 2 rfl hk7 hb7); clear hb7 hk7 hz7))
  (try simp only [World.size_alloc, Act.put, sA, sZ, sS])
  have hne : ∀ u, (binOp .eql 23 (.agg (arr .u8 ur)) (.agg (arr .u8 ur))).run Tryd.prog u = .ok (.bool true) u := fun u => by
    have := run_eql_arr (P := Tryd.prog) u 23 5 32 .u8 .u8 Tryd.underlying23 Tryd.underlying5 Ha.size_u8 ur ur HUL.out HUL.out
    rw [beq_self_eq_true ur] at this
    exact this
  have q3 : (ue == ue) = true := beq_self_eq_true ue
  go_wp2_with (first | ((with_reducible show Calls _ 22 _ _ _); go_at_call 22; refine (num14_any _ _).mono ?_; rintro e w8 ⟨rfl, rfl⟩) | ((with_reducible refine aS 36 ?_); refine wpList_load_wanted (by rfl) 23 _ rfl (g6) (0) _ 23 (0, 0) _ (HI7.out.get 1 rfl) rfl .u8 ur (arr_part _ _) Tryd.underlying23 rfl (num_i HUL.out) ?_) | ((with_reducible refine aS 37 ?_); refine wpList_load_wanted (by rfl) 23 _ rfl (g8) (0) _ 23 (0, 0) _ (HI7.out.get 2 rfl) rfl .u8 ur (arr_part _ _) Tryd.underlying23 rfl (num_i HUL.out) ?_))
  (try simp only [Exit.then])
  go_ret
  exact ⟨rfl, HI7.out.below⟩
end Go.Proofs.YtanjhngehfbpbaaDoor.Wr
