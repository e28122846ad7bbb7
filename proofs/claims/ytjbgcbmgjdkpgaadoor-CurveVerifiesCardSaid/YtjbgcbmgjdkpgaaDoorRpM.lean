/- The document's May: what they answer. Condition: 32 bytes; for May the tables. -/
import Derived.Test.YtjbgcbmgjdkpgaaDoorRpD
namespace Go.Proofs.YtjbgcbmgjdkpgaaDoor.Rd
open Go.RowKit Lm Fp Cu

set_option maxRecDepth 100000 in
set_option maxHeartbeats 4000000 in
theorem may_any (v : Nat) (w : World) (hv : v < 2 ^ 256) (hTd : TabD w) (hTi : TabI w) :
    Calls Tryd.prog 13 #[.agg (arr .u8 (nar (dig 256 32 v)))] w fun e w' => e = .returned (.bool (eread v).isSome) ∧ Below w.heap.size w w' := by
  obtain ⟨ns, hns⟩ : ∃ x, x = nar (dig 256 32 v) := ⟨_, rfl⟩
  have hr := fun w (h1 : TabD w) (h2 : TabI w) => read_any v w hv h1 h2
  have HNL : Hid (ns.length = 32) := Lib.hid (by rw [hns, nar_len, dig_len])
  rw [← hns] at hr ⊢
  obtain ⟨bb, hbb⟩ : ∃ b, b = (eread v).isSome := ⟨_, rfl⟩
  rw [← hbb] at hr ⊢
  have hS0 := Blk.one w (arr .u8 ns) 23
  have HTD := Lib.hid (range_below hTd hS0.below)
  have HTI := Lib.hid (range_below hTi hS0.below)
  have HS0 := Lib.hid hS0
  have HR := Lib.hid hr
  obtain ⟨zp, hzp⟩ : ∃ zs : List Int, zs = List.replicate 64 0 := ⟨_, rfl⟩
  have HZzp : Hid (∀ w, (zeroValue 65).run Tryd.prog w = .ok (.agg (arr .i64 zp)) w) := Lib.hid (by intro w; rw [hzp]; exact zero_pt w)
  have HLzp : Hid (zp.length = 64) := Lib.hid (by rw [hzp]; rfl)
  clear hzp hns hr hbb hS0 hTd hTi
  go_enter Tryd.func13, Tryd.ntmps13
  go_wp2_with (first | ((with_reducible refine aS 6 ?_); refine wpList_load_part rfl 23 _ rfl (w.heap.size) 0 _ 23 (0, 0) _ (HS0.out.get 0 rfl) rfl .u8 ns (arr_part _ _) Tryd.underlying23 rfl (num_i HNL.out) ?_) | ((with_reducible show Calls _ 31 _ _ _); go_at_call 31; refine (HR.out _ HTD.out HTI.out).mono ?_; rintro e w1 ⟨z1, rfl, h1, -, hb1⟩; have HL1 := Lib.hid h1; have HB1 := Lib.hid (HS0.out.kept hb1); clear h1 hb1) | ((with_reducible refine aS 3 ?_); refine wpList_alloc_row rfl 65 rfl _ (HZzp.out _) ?_; have HB2 := Lib.hid (HB1.out.alloc (arr .i64 zp) 65); generalize w1.heap.size = g1 at HB2 ⊢; generalize w1.alloc (.cells (arr .i64 zp) 65) = w2 at HB2 ⊢) | ((with_reducible refine aT 3 ?_); refine wpList_store_whole rfl 65 _ _ rfl (g1) _ _ 65 (HB2.out.get 1 rfl) rfl rfl (arr_len2 _ _ HL1.out HLzp.out) (pt_s HL1.out) (all_arr _ _) ?_; intro w3 hb3 hk3 hz3; have HB3 := Lib.hid (HB2.out.put 1 rfl hk3 hb3); clear hb3 hk3 hz3))
  go_ret
  exact ⟨rfl, HB3.out.below⟩

end Go.Proofs.YtjbgcbmgjdkpgaaDoor.Rd
