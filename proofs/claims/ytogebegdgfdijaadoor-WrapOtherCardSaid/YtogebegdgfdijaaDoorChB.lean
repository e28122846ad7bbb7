/- chacha.quarter and the document's: what they do. Condition: sixteen words lie there. -/
import Derived.Test.YtogebegdgfdijaaDoorCa
set_option maxRecDepth 100000
set_option maxHeartbeats 16000000
set_option linter.unusedSimpArgs false
set_option linter.unusedVariables false
namespace Go.Proofs.YtogebegdgfdijaaDoor.Ch
open Go.RowKit
theorem quarter_any (p : Nat) (s : List Int) (a b c d : Nat) (w : World) (hp : w.heap[p]? = some (.cells (arr .u32 s) 91 (0, 0))) (hl : s.length = 16) (ha : a < 16) (hb : b < 16) (hc : c < 16) (hd : d < 16) :
    Calls Tryd.prog 67 #[.pointer (some ⟨p, 0, none⟩), .int .i64 (a : Int), .int .i64 (b : Int), .int .i64 (c : Int), .int .i64 (d : Int)] w fun e w' => e = .returned (.tuple #[]) ∧ w'.heap[p]? = some (.cells (arr .u32 (quarter s a b c d)) 91 (0, 0)) ∧ Kept (fun x => x = p) w w' := by
  obtain ⟨qf, hqf⟩ : ∃ qf, qf = quarter s a b c d := ⟨_, rfl⟩
  have HQF := Lib.hid hqf
  have ia : (a : Int) < 16 := by omega
  have ib : (b : Int) < 16 := by omega
  have ic : (c : Int) < 16 := by omega
  have id : (d : Int) < 16 := by omega
  have K0 := Lib.hid (Kept.refl (fun x => x = p) w)
  have L0 := Lib.hid hl
  have H0 := Lib.hid hp
  rw [← hqf]
  clear hqf hl hp
  obtain ⟨w0, hw0⟩ : ∃ w0, w0 = w := ⟨_, rfl⟩
  rw [← hw0] at K0 H0 ⊢
  obtain ⟨s0, hs0⟩ : ∃ s0, s0 = s := ⟨_, rfl⟩
  rw [← hs0] at H0 L0
  have HS0 := Lib.hid hs0
  have HW0 := Lib.hid hw0
  clear hs0 hw0
  go_enter Tryd.func67, Tryd.ntmps67
  obtain ⟨s1, hs1⟩ : ∃ t, t = qa s0 a b := ⟨_, rfl⟩
  have x0' := blk_arr H0.out a (by rw [L0.out]; exact ha)
  have y0' := blk_arr H0.out b (by rw [L0.out]; exact hb)
  have f0 := free_blk H0.out a
  have hn0 : ∀ v, v = add (s0.getD a 0) (s0.getD b 0) → (w0.setCell ⟨p, a, none⟩ (.int .u32 v)).heap[p]? = some (.cells (arr .u32 s1) 91 (0, 0)) := by
    rintro v rfl
    rw [blk_arr_set H0.out, hs1]
    rfl
  have L1 : Hid (s1.length = 16) := Lib.hid (by rw [hs1]; simp only [qa_len]; exact L0.out)
  have HS1 := Lib.hid hs1
  have HN0 := Lib.hid hn0
  have KK0 := Lib.hid (fun v => (K0.out.at a v).drew)
  clear hs1 hn0 H0 K0
  generalize s0.getD a 0 = x0 at x0' HN0
  generalize s0.getD b 0 = y0 at y0' HN0
  go_wp2_with fail
  refine wp_region_still_tail 13 (by kernel_rfl) (by kernel_rfl) ?_
  simp only [List.take_succ_cons, List.take_zero, List.drop_succ_cons, List.drop_zero]
  repeat still_step
  refine wpStill_nil ?_
  change wpList _ _ _ _ _ w0.drew
  go_wp2_with fail
  have H1 : Hid ((w0.setCell ⟨p, a, none⟩ (.int .u32 ((x0 + y0) % 4294967296))).drew.heap[p]? = some (.cells (arr .u32 s1) 91 (0, 0))) := Lib.hid (HN0.out _ (by first | rfl | (unfold add; rfl)))
  have K1 := Lib.hid (KK0.out (.int .u32 ((x0 + y0) % 4294967296)))
  clear HN0 KK0 x0' y0' f0
  generalize (w0.setCell ⟨p, a, none⟩ (.int .u32 ((x0 + y0) % 4294967296))).drew = w1 at H1 K1 ⊢
  obtain ⟨s2, hs2⟩ : ∃ t, t = qx s1 d a 65536 65536 := ⟨_, rfl⟩
  have x1' := blk_arr H1.out d (by rw [L1.out]; exact hd)
  have y1' := blk_arr H1.out a (by rw [L1.out]; exact ha)
  have f1 := free_blk H1.out d
  have hn1 : ∀ v, v = rotl (bits .xor .u32 (s1.getD d 0) (s1.getD a 0)) 65536 65536 → (w1.setCell ⟨p, d, none⟩ (.int .u32 v)).heap[p]? = some (.cells (arr .u32 s2) 91 (0, 0)) := by
    rintro v rfl
    rw [blk_arr_set H1.out, hs2]
    rfl
  have L2 : Hid (s2.length = 16) := Lib.hid (by rw [hs2]; simp only [qx_len]; exact L1.out)
  have HS2 := Lib.hid hs2
  have HN1 := Lib.hid hn1
  have KK1 := Lib.hid (fun v => (K1.out.at d v).drew)
  clear hs2 hn1 H1 K1
  generalize s1.getD d 0 = x1 at x1' HN1
  generalize s1.getD a 0 = y1 at y1' HN1
  go_wp2_with fail
  refine wp_region_still_tail 16 (by kernel_rfl) (by kernel_rfl) ?_
  simp only [List.take_succ_cons, List.take_zero, List.drop_succ_cons, List.drop_zero]
  repeat still_step
  (refine wpStill_step (fun K hK => ?_); go_simp; refine Exists.intro _ (And.intro (sti (rl_16 _ _)) ?_); refine hK _ ?_; clear hK K)
  repeat still_step
  refine wpStill_nil ?_
  change wpList _ _ _ _ _ w1.drew
  go_wp2_with fail
  have H2 : Hid ((w1.setCell ⟨p, d, none⟩ (.int .u32 (rotl (bits .xor .u32 x1 y1) 65536 65536))).drew.heap[p]? = some (.cells (arr .u32 s2) 91 (0, 0))) := Lib.hid (HN1.out _ (by first | rfl | (unfold add; rfl)))
  have K2 := Lib.hid (KK1.out (.int .u32 (rotl (bits .xor .u32 x1 y1) 65536 65536)))
  clear HN1 KK1 x1' y1' f1
  generalize (w1.setCell ⟨p, d, none⟩ (.int .u32 (rotl (bits .xor .u32 x1 y1) 65536 65536))).drew = w2 at H2 K2 ⊢
  obtain ⟨s3, hs3⟩ : ∃ t, t = qa s2 c d := ⟨_, rfl⟩
  have x2' := blk_arr H2.out c (by rw [L2.out]; exact hc)
  have y2' := blk_arr H2.out d (by rw [L2.out]; exact hd)
  have f2 := free_blk H2.out c
  have hn2 : ∀ v, v = add (s2.getD c 0) (s2.getD d 0) → (w2.setCell ⟨p, c, none⟩ (.int .u32 v)).heap[p]? = some (.cells (arr .u32 s3) 91 (0, 0)) := by
    rintro v rfl
    rw [blk_arr_set H2.out, hs3]
    rfl
  have L3 : Hid (s3.length = 16) := Lib.hid (by rw [hs3]; simp only [qa_len]; exact L2.out)
  have HS3 := Lib.hid hs3
  have HN2 := Lib.hid hn2
  have KK2 := Lib.hid (fun v => (K2.out.at c v).drew)
  clear hs3 hn2 H2 K2
  generalize s2.getD c 0 = x2 at x2' HN2
  generalize s2.getD d 0 = y2 at y2' HN2
  go_wp2_with fail
  refine wp_region_still_tail 13 (by kernel_rfl) (by kernel_rfl) ?_
  simp only [List.take_succ_cons, List.take_zero, List.drop_succ_cons, List.drop_zero]
  repeat still_step
  refine wpStill_nil ?_
  change wpList _ _ _ _ _ w2.drew
  go_wp2_with fail
  have H3 : Hid ((w2.setCell ⟨p, c, none⟩ (.int .u32 ((x2 + y2) % 4294967296))).drew.heap[p]? = some (.cells (arr .u32 s3) 91 (0, 0))) := Lib.hid (HN2.out _ (by first | rfl | (unfold add; rfl)))
  have K3 := Lib.hid (KK2.out (.int .u32 ((x2 + y2) % 4294967296)))
  clear HN2 KK2 x2' y2' f2
  generalize (w2.setCell ⟨p, c, none⟩ (.int .u32 ((x2 + y2) % 4294967296))).drew = w3 at H3 K3 ⊢
  obtain ⟨s4, hs4⟩ : ∃ t, t = qx s3 b c 4096 1048576 := ⟨_, rfl⟩
  have x3' := blk_arr H3.out b (by rw [L3.out]; exact hb)
  have y3' := blk_arr H3.out c (by rw [L3.out]; exact hc)
  have f3 := free_blk H3.out b
  have hn3 : ∀ v, v = rotl (bits .xor .u32 (s3.getD b 0) (s3.getD c 0)) 4096 1048576 → (w3.setCell ⟨p, b, none⟩ (.int .u32 v)).heap[p]? = some (.cells (arr .u32 s4) 91 (0, 0)) := by
    rintro v rfl
    rw [blk_arr_set H3.out, hs4]
    rfl
  have L4 : Hid (s4.length = 16) := Lib.hid (by rw [hs4]; simp only [qx_len]; exact L3.out)
  have HS4 := Lib.hid hs4
  have HN3 := Lib.hid hn3
  have KK3 := Lib.hid (fun v => (K3.out.at b v).drew)
  clear hs4 hn3 H3 K3
  generalize s3.getD b 0 = x3 at x3' HN3
  generalize s3.getD c 0 = y3 at y3' HN3
  go_wp2_with fail
  refine wp_region_still_tail 16 (by kernel_rfl) (by kernel_rfl) ?_
  simp only [List.take_succ_cons, List.take_zero, List.drop_succ_cons, List.drop_zero]
  repeat still_step
  (refine wpStill_step (fun K hK => ?_); go_simp; refine Exists.intro _ (And.intro (sti (rl_12 _ _)) ?_); refine hK _ ?_; clear hK K)
  repeat still_step
  refine wpStill_nil ?_
  change wpList _ _ _ _ _ w3.drew
  go_wp2_with fail
  have H4 : Hid ((w3.setCell ⟨p, b, none⟩ (.int .u32 (rotl (bits .xor .u32 x3 y3) 4096 1048576))).drew.heap[p]? = some (.cells (arr .u32 s4) 91 (0, 0))) := Lib.hid (HN3.out _ (by first | rfl | (unfold add; rfl)))
  have K4 := Lib.hid (KK3.out (.int .u32 (rotl (bits .xor .u32 x3 y3) 4096 1048576)))
  clear HN3 KK3 x3' y3' f3
  generalize (w3.setCell ⟨p, b, none⟩ (.int .u32 (rotl (bits .xor .u32 x3 y3) 4096 1048576))).drew = w4 at H4 K4 ⊢
  obtain ⟨s5, hs5⟩ : ∃ t, t = qa s4 a b := ⟨_, rfl⟩
  have x4' := blk_arr H4.out a (by rw [L4.out]; exact ha)
  have y4' := blk_arr H4.out b (by rw [L4.out]; exact hb)
  have f4 := free_blk H4.out a
  have hn4 : ∀ v, v = add (s4.getD a 0) (s4.getD b 0) → (w4.setCell ⟨p, a, none⟩ (.int .u32 v)).heap[p]? = some (.cells (arr .u32 s5) 91 (0, 0)) := by
    rintro v rfl
    rw [blk_arr_set H4.out, hs5]
    rfl
  have L5 : Hid (s5.length = 16) := Lib.hid (by rw [hs5]; simp only [qa_len]; exact L4.out)
  have HS5 := Lib.hid hs5
  have HN4 := Lib.hid hn4
  have KK4 := Lib.hid (fun v => (K4.out.at a v).drew)
  clear hs5 hn4 H4 K4
  generalize s4.getD a 0 = x4 at x4' HN4
  generalize s4.getD b 0 = y4 at y4' HN4
  go_wp2_with fail
  refine wp_region_still_tail 13 (by kernel_rfl) (by kernel_rfl) ?_
  simp only [List.take_succ_cons, List.take_zero, List.drop_succ_cons, List.drop_zero]
  repeat still_step
  refine wpStill_nil ?_
  change wpList _ _ _ _ _ w4.drew
  go_wp2_with fail
  have H5 : Hid ((w4.setCell ⟨p, a, none⟩ (.int .u32 ((x4 + y4) % 4294967296))).drew.heap[p]? = some (.cells (arr .u32 s5) 91 (0, 0))) := Lib.hid (HN4.out _ (by first | rfl | (unfold add; rfl)))
  have K5 := Lib.hid (KK4.out (.int .u32 ((x4 + y4) % 4294967296)))
  clear HN4 KK4 x4' y4' f4
  generalize (w4.setCell ⟨p, a, none⟩ (.int .u32 ((x4 + y4) % 4294967296))).drew = w5 at H5 K5 ⊢
  obtain ⟨s6, hs6⟩ : ∃ t, t = qx s5 d a 256 16777216 := ⟨_, rfl⟩
  have x5' := blk_arr H5.out d (by rw [L5.out]; exact hd)
  have y5' := blk_arr H5.out a (by rw [L5.out]; exact ha)
  have f5 := free_blk H5.out d
  have hn5 : ∀ v, v = rotl (bits .xor .u32 (s5.getD d 0) (s5.getD a 0)) 256 16777216 → (w5.setCell ⟨p, d, none⟩ (.int .u32 v)).heap[p]? = some (.cells (arr .u32 s6) 91 (0, 0)) := by
    rintro v rfl
    rw [blk_arr_set H5.out, hs6]
    rfl
  have L6 : Hid (s6.length = 16) := Lib.hid (by rw [hs6]; simp only [qx_len]; exact L5.out)
  have HS6 := Lib.hid hs6
  have HN5 := Lib.hid hn5
  have KK5 := Lib.hid (fun v => (K5.out.at d v).drew)
  clear hs6 hn5 H5 K5
  generalize s5.getD d 0 = x5 at x5' HN5
  generalize s5.getD a 0 = y5 at y5' HN5
  go_wp2_with fail
  refine wp_region_still_tail 16 (by kernel_rfl) (by kernel_rfl) ?_
  simp only [List.take_succ_cons, List.take_zero, List.drop_succ_cons, List.drop_zero]
  repeat still_step
  (refine wpStill_step (fun K hK => ?_); go_simp; refine Exists.intro _ (And.intro (sti (rl_8 _ _)) ?_); refine hK _ ?_; clear hK K)
  repeat still_step
  refine wpStill_nil ?_
  change wpList _ _ _ _ _ w5.drew
  go_wp2_with fail
  have H6 : Hid ((w5.setCell ⟨p, d, none⟩ (.int .u32 (rotl (bits .xor .u32 x5 y5) 256 16777216))).drew.heap[p]? = some (.cells (arr .u32 s6) 91 (0, 0))) := Lib.hid (HN5.out _ (by first | rfl | (unfold add; rfl)))
  have K6 := Lib.hid (KK5.out (.int .u32 (rotl (bits .xor .u32 x5 y5) 256 16777216)))
  clear HN5 KK5 x5' y5' f5
  generalize (w5.setCell ⟨p, d, none⟩ (.int .u32 (rotl (bits .xor .u32 x5 y5) 256 16777216))).drew = w6 at H6 K6 ⊢
  obtain ⟨s7, hs7⟩ : ∃ t, t = qa s6 c d := ⟨_, rfl⟩
  have x6' := blk_arr H6.out c (by rw [L6.out]; exact hc)
  have y6' := blk_arr H6.out d (by rw [L6.out]; exact hd)
  have f6 := free_blk H6.out c
  have hn6 : ∀ v, v = add (s6.getD c 0) (s6.getD d 0) → (w6.setCell ⟨p, c, none⟩ (.int .u32 v)).heap[p]? = some (.cells (arr .u32 s7) 91 (0, 0)) := by
    rintro v rfl
    rw [blk_arr_set H6.out, hs7]
    rfl
  have L7 : Hid (s7.length = 16) := Lib.hid (by rw [hs7]; simp only [qa_len]; exact L6.out)
  have HS7 := Lib.hid hs7
  have HN6 := Lib.hid hn6
  have KK6 := Lib.hid (fun v => (K6.out.at c v).drew)
  clear hs7 hn6 H6 K6
  generalize s6.getD c 0 = x6 at x6' HN6
  generalize s6.getD d 0 = y6 at y6' HN6
  go_wp2_with fail
  refine wp_region_still_tail 13 (by kernel_rfl) (by kernel_rfl) ?_
  simp only [List.take_succ_cons, List.take_zero, List.drop_succ_cons, List.drop_zero]
  repeat still_step
  refine wpStill_nil ?_
  change wpList _ _ _ _ _ w6.drew
  go_wp2_with fail
  have H7 : Hid ((w6.setCell ⟨p, c, none⟩ (.int .u32 ((x6 + y6) % 4294967296))).drew.heap[p]? = some (.cells (arr .u32 s7) 91 (0, 0))) := Lib.hid (HN6.out _ (by first | rfl | (unfold add; rfl)))
  have K7 := Lib.hid (KK6.out (.int .u32 ((x6 + y6) % 4294967296)))
  clear HN6 KK6 x6' y6' f6
  generalize (w6.setCell ⟨p, c, none⟩ (.int .u32 ((x6 + y6) % 4294967296))).drew = w7 at H7 K7 ⊢
  obtain ⟨s8, hs8⟩ : ∃ t, t = qx s7 b c 128 33554432 := ⟨_, rfl⟩
  have x7' := blk_arr H7.out b (by rw [L7.out]; exact hb)
  have y7' := blk_arr H7.out c (by rw [L7.out]; exact hc)
  have f7 := free_blk H7.out b
  have hn7 : ∀ v, v = rotl (bits .xor .u32 (s7.getD b 0) (s7.getD c 0)) 128 33554432 → (w7.setCell ⟨p, b, none⟩ (.int .u32 v)).heap[p]? = some (.cells (arr .u32 s8) 91 (0, 0)) := by
    rintro v rfl
    rw [blk_arr_set H7.out, hs8]
    rfl
  have L8 : Hid (s8.length = 16) := Lib.hid (by rw [hs8]; simp only [qx_len]; exact L7.out)
  have HS8 := Lib.hid hs8
  have HN7 := Lib.hid hn7
  have KK7 := Lib.hid (fun v => (K7.out.at b v).drew)
  clear hs8 hn7 H7 K7
  generalize s7.getD b 0 = x7 at x7' HN7
  generalize s7.getD c 0 = y7 at y7' HN7
  go_wp2_with fail
  refine wp_region_still_tail 16 (by kernel_rfl) (by kernel_rfl) ?_
  simp only [List.take_succ_cons, List.take_zero, List.drop_succ_cons, List.drop_zero]
  repeat still_step
  (refine wpStill_step (fun K hK => ?_); go_simp; refine Exists.intro _ (And.intro (sti (rl_7 _ _)) ?_); refine hK _ ?_; clear hK K)
  repeat still_step
  refine wpStill_nil ?_
  change wpList _ _ _ _ _ w7.drew
  go_wp2_with fail
  have H8 : Hid ((w7.setCell ⟨p, b, none⟩ (.int .u32 (rotl (bits .xor .u32 x7 y7) 128 33554432))).drew.heap[p]? = some (.cells (arr .u32 s8) 91 (0, 0))) := Lib.hid (HN7.out _ (by first | rfl | (unfold add; rfl)))
  have K8 := Lib.hid (KK7.out (.int .u32 (rotl (bits .xor .u32 x7 y7) 128 33554432)))
  clear HN7 KK7 x7' y7' f7
  generalize (w7.setCell ⟨p, b, none⟩ (.int .u32 (rotl (bits .xor .u32 x7 y7) 128 33554432))).drew = w8 at H8 K8 ⊢
  go_end0
  have e : s8 = qf := by rw [HQF.out, HS8.out, HS7.out, HS6.out, HS5.out, HS4.out, HS3.out, HS2.out, HS1.out, HS0.out]; rfl
  rw [e] at H8
  exact ⟨rfl, H8.out, K8.out⟩
theorem rquarter_any (p : Nat) (s : List Int) (a b c d : Nat) (w : World) (hp : w.heap[p]? = some (.cells (arr .u32 s) 91 (0, 0))) (hl : s.length = 16) (ha : a < 16) (hb : b < 16) (hc : c < 16) (hd : d < 16) :
    Calls Tryd.prog 81 #[.pointer (some ⟨p, 0, none⟩), .int .i64 (a : Int), .int .i64 (b : Int), .int .i64 (c : Int), .int .i64 (d : Int)] w fun e w' => e = .returned (.tuple #[]) ∧ w'.heap[p]? = some (.cells (arr .u32 (quarter s a b c d)) 91 (0, 0)) ∧ Kept (fun x => x = p) w w' := by
  obtain ⟨qf, hqf⟩ : ∃ qf, qf = quarter s a b c d := ⟨_, rfl⟩
  have HQF := Lib.hid hqf
  have ia : (a : Int) < 16 := by omega
  have ib : (b : Int) < 16 := by omega
  have ic : (c : Int) < 16 := by omega
  have id : (d : Int) < 16 := by omega
  have K0 := Lib.hid (Kept.refl (fun x => x = p) w)
  have L0 := Lib.hid hl
  have H0 := Lib.hid hp
  rw [← hqf]
  clear hqf hl hp
  obtain ⟨w0, hw0⟩ : ∃ w0, w0 = w := ⟨_, rfl⟩
  rw [← hw0] at K0 H0 ⊢
  obtain ⟨s0, hs0⟩ : ∃ s0, s0 = s := ⟨_, rfl⟩
  rw [← hs0] at H0 L0
  have HS0 := Lib.hid hs0
  have HW0 := Lib.hid hw0
  clear hs0 hw0
  go_enter Tryd.func81, Tryd.ntmps81
  obtain ⟨s1, hs1⟩ : ∃ t, t = qa s0 a b := ⟨_, rfl⟩
  have x0' := blk_arr H0.out a (by rw [L0.out]; exact ha)
  have y0' := blk_arr H0.out b (by rw [L0.out]; exact hb)
  have f0 := free_blk H0.out a
  have hn0 : ∀ v, v = add (s0.getD a 0) (s0.getD b 0) → (w0.setCell ⟨p, a, none⟩ (.int .u32 v)).heap[p]? = some (.cells (arr .u32 s1) 91 (0, 0)) := by
    rintro v rfl
    rw [blk_arr_set H0.out, hs1]
    rfl
  have L1 : Hid (s1.length = 16) := Lib.hid (by rw [hs1]; simp only [qa_len]; exact L0.out)
  have HS1 := Lib.hid hs1
  have HN0 := Lib.hid hn0
  have KK0 := Lib.hid (fun v => (K0.out.at a v).drew)
  clear hs1 hn0 H0 K0
  generalize s0.getD a 0 = x0 at x0' HN0
  generalize s0.getD b 0 = y0 at y0' HN0
  go_wp2_with fail
  refine wp_region_still_tail 15 (by kernel_rfl) (by kernel_rfl) ?_
  simp only [List.take_succ_cons, List.take_zero, List.drop_succ_cons, List.drop_zero]
  repeat still_step
  refine wpStill_nil ?_
  change wpList _ _ _ _ _ w0.drew
  go_wp2_with fail
  have H1 : Hid ((w0.setCell ⟨p, a, none⟩ (.int .u32 ((x0 + y0) % 4294967296))).drew.heap[p]? = some (.cells (arr .u32 s1) 91 (0, 0))) := Lib.hid (HN0.out _ (by first | rfl | (unfold add; rfl)))
  have K1 := Lib.hid (KK0.out (.int .u32 ((x0 + y0) % 4294967296)))
  clear HN0 KK0 x0' y0' f0
  generalize (w0.setCell ⟨p, a, none⟩ (.int .u32 ((x0 + y0) % 4294967296))).drew = w1 at H1 K1 ⊢
  obtain ⟨s2, hs2⟩ : ∃ t, t = qx s1 d a 65536 65536 := ⟨_, rfl⟩
  have x1' := blk_arr H1.out d (by rw [L1.out]; exact hd)
  have y1' := blk_arr H1.out a (by rw [L1.out]; exact ha)
  have f1 := free_blk H1.out d
  have hn1 : ∀ v, v = rotl (bits .xor .u32 (s1.getD d 0) (s1.getD a 0)) 65536 65536 → (w1.setCell ⟨p, d, none⟩ (.int .u32 v)).heap[p]? = some (.cells (arr .u32 s2) 91 (0, 0)) := by
    rintro v rfl
    rw [blk_arr_set H1.out, hs2]
    rfl
  have L2 : Hid (s2.length = 16) := Lib.hid (by rw [hs2]; simp only [qx_len]; exact L1.out)
  have HS2 := Lib.hid hs2
  have HN1 := Lib.hid hn1
  have KK1 := Lib.hid (fun v => (K1.out.at d v).drew)
  clear hs2 hn1 H1 K1
  generalize s1.getD d 0 = x1 at x1' HN1
  generalize s1.getD a 0 = y1 at y1' HN1
  go_wp2_with fail
  refine wp_region_still_tail 16 (by kernel_rfl) (by kernel_rfl) ?_
  simp only [List.take_succ_cons, List.take_zero, List.drop_succ_cons, List.drop_zero]
  repeat still_step
  (refine wpStill_step (fun K hK => ?_); go_simp; refine Exists.intro _ (And.intro (sti (rol_16 _ _)) ?_); refine hK _ ?_; clear hK K)
  repeat still_step
  refine wpStill_nil ?_
  change wpList _ _ _ _ _ w1.drew
  go_wp2_with fail
  have H2 : Hid ((w1.setCell ⟨p, d, none⟩ (.int .u32 (rotl (bits .xor .u32 x1 y1) 65536 65536))).drew.heap[p]? = some (.cells (arr .u32 s2) 91 (0, 0))) := Lib.hid (HN1.out _ (by first | rfl | (unfold add; rfl)))
  have K2 := Lib.hid (KK1.out (.int .u32 (rotl (bits .xor .u32 x1 y1) 65536 65536)))
  clear HN1 KK1 x1' y1' f1
  generalize (w1.setCell ⟨p, d, none⟩ (.int .u32 (rotl (bits .xor .u32 x1 y1) 65536 65536))).drew = w2 at H2 K2 ⊢
  obtain ⟨s3, hs3⟩ : ∃ t, t = qa s2 c d := ⟨_, rfl⟩
  have x2' := blk_arr H2.out c (by rw [L2.out]; exact hc)
  have y2' := blk_arr H2.out d (by rw [L2.out]; exact hd)
  have f2 := free_blk H2.out c
  have hn2 : ∀ v, v = add (s2.getD c 0) (s2.getD d 0) → (w2.setCell ⟨p, c, none⟩ (.int .u32 v)).heap[p]? = some (.cells (arr .u32 s3) 91 (0, 0)) := by
    rintro v rfl
    rw [blk_arr_set H2.out, hs3]
    rfl
  have L3 : Hid (s3.length = 16) := Lib.hid (by rw [hs3]; simp only [qa_len]; exact L2.out)
  have HS3 := Lib.hid hs3
  have HN2 := Lib.hid hn2
  have KK2 := Lib.hid (fun v => (K2.out.at c v).drew)
  clear hs3 hn2 H2 K2
  generalize s2.getD c 0 = x2 at x2' HN2
  generalize s2.getD d 0 = y2 at y2' HN2
  go_wp2_with fail
  refine wp_region_still_tail 15 (by kernel_rfl) (by kernel_rfl) ?_
  simp only [List.take_succ_cons, List.take_zero, List.drop_succ_cons, List.drop_zero]
  repeat still_step
  refine wpStill_nil ?_
  change wpList _ _ _ _ _ w2.drew
  go_wp2_with fail
  have H3 : Hid ((w2.setCell ⟨p, c, none⟩ (.int .u32 ((x2 + y2) % 4294967296))).drew.heap[p]? = some (.cells (arr .u32 s3) 91 (0, 0))) := Lib.hid (HN2.out _ (by first | rfl | (unfold add; rfl)))
  have K3 := Lib.hid (KK2.out (.int .u32 ((x2 + y2) % 4294967296)))
  clear HN2 KK2 x2' y2' f2
  generalize (w2.setCell ⟨p, c, none⟩ (.int .u32 ((x2 + y2) % 4294967296))).drew = w3 at H3 K3 ⊢
  obtain ⟨s4, hs4⟩ : ∃ t, t = qx s3 b c 4096 1048576 := ⟨_, rfl⟩
  have x3' := blk_arr H3.out b (by rw [L3.out]; exact hb)
  have y3' := blk_arr H3.out c (by rw [L3.out]; exact hc)
  have f3 := free_blk H3.out b
  have hn3 : ∀ v, v = rotl (bits .xor .u32 (s3.getD b 0) (s3.getD c 0)) 4096 1048576 → (w3.setCell ⟨p, b, none⟩ (.int .u32 v)).heap[p]? = some (.cells (arr .u32 s4) 91 (0, 0)) := by
    rintro v rfl
    rw [blk_arr_set H3.out, hs4]
    rfl
  have L4 : Hid (s4.length = 16) := Lib.hid (by rw [hs4]; simp only [qx_len]; exact L3.out)
  have HS4 := Lib.hid hs4
  have HN3 := Lib.hid hn3
  have KK3 := Lib.hid (fun v => (K3.out.at b v).drew)
  clear hs4 hn3 H3 K3
  generalize s3.getD b 0 = x3 at x3' HN3
  generalize s3.getD c 0 = y3 at y3' HN3
  go_wp2_with fail
  refine wp_region_still_tail 16 (by kernel_rfl) (by kernel_rfl) ?_
  simp only [List.take_succ_cons, List.take_zero, List.drop_succ_cons, List.drop_zero]
  repeat still_step
  (refine wpStill_step (fun K hK => ?_); go_simp; refine Exists.intro _ (And.intro (sti (rol_12 _ _)) ?_); refine hK _ ?_; clear hK K)
  repeat still_step
  refine wpStill_nil ?_
  change wpList _ _ _ _ _ w3.drew
  go_wp2_with fail
  have H4 : Hid ((w3.setCell ⟨p, b, none⟩ (.int .u32 (rotl (bits .xor .u32 x3 y3) 4096 1048576))).drew.heap[p]? = some (.cells (arr .u32 s4) 91 (0, 0))) := Lib.hid (HN3.out _ (by first | rfl | (unfold add; rfl)))
  have K4 := Lib.hid (KK3.out (.int .u32 (rotl (bits .xor .u32 x3 y3) 4096 1048576)))
  clear HN3 KK3 x3' y3' f3
  generalize (w3.setCell ⟨p, b, none⟩ (.int .u32 (rotl (bits .xor .u32 x3 y3) 4096 1048576))).drew = w4 at H4 K4 ⊢
  obtain ⟨s5, hs5⟩ : ∃ t, t = qa s4 a b := ⟨_, rfl⟩
  have x4' := blk_arr H4.out a (by rw [L4.out]; exact ha)
  have y4' := blk_arr H4.out b (by rw [L4.out]; exact hb)
  have f4 := free_blk H4.out a
  have hn4 : ∀ v, v = add (s4.getD a 0) (s4.getD b 0) → (w4.setCell ⟨p, a, none⟩ (.int .u32 v)).heap[p]? = some (.cells (arr .u32 s5) 91 (0, 0)) := by
    rintro v rfl
    rw [blk_arr_set H4.out, hs5]
    rfl
  have L5 : Hid (s5.length = 16) := Lib.hid (by rw [hs5]; simp only [qa_len]; exact L4.out)
  have HS5 := Lib.hid hs5
  have HN4 := Lib.hid hn4
  have KK4 := Lib.hid (fun v => (K4.out.at a v).drew)
  clear hs5 hn4 H4 K4
  generalize s4.getD a 0 = x4 at x4' HN4
  generalize s4.getD b 0 = y4 at y4' HN4
  go_wp2_with fail
  refine wp_region_still_tail 15 (by kernel_rfl) (by kernel_rfl) ?_
  simp only [List.take_succ_cons, List.take_zero, List.drop_succ_cons, List.drop_zero]
  repeat still_step
  refine wpStill_nil ?_
  change wpList _ _ _ _ _ w4.drew
  go_wp2_with fail
  have H5 : Hid ((w4.setCell ⟨p, a, none⟩ (.int .u32 ((x4 + y4) % 4294967296))).drew.heap[p]? = some (.cells (arr .u32 s5) 91 (0, 0))) := Lib.hid (HN4.out _ (by first | rfl | (unfold add; rfl)))
  have K5 := Lib.hid (KK4.out (.int .u32 ((x4 + y4) % 4294967296)))
  clear HN4 KK4 x4' y4' f4
  generalize (w4.setCell ⟨p, a, none⟩ (.int .u32 ((x4 + y4) % 4294967296))).drew = w5 at H5 K5 ⊢
  obtain ⟨s6, hs6⟩ : ∃ t, t = qx s5 d a 256 16777216 := ⟨_, rfl⟩
  have x5' := blk_arr H5.out d (by rw [L5.out]; exact hd)
  have y5' := blk_arr H5.out a (by rw [L5.out]; exact ha)
  have f5 := free_blk H5.out d
  have hn5 : ∀ v, v = rotl (bits .xor .u32 (s5.getD d 0) (s5.getD a 0)) 256 16777216 → (w5.setCell ⟨p, d, none⟩ (.int .u32 v)).heap[p]? = some (.cells (arr .u32 s6) 91 (0, 0)) := by
    rintro v rfl
    rw [blk_arr_set H5.out, hs6]
    rfl
  have L6 : Hid (s6.length = 16) := Lib.hid (by rw [hs6]; simp only [qx_len]; exact L5.out)
  have HS6 := Lib.hid hs6
  have HN5 := Lib.hid hn5
  have KK5 := Lib.hid (fun v => (K5.out.at d v).drew)
  clear hs6 hn5 H5 K5
  generalize s5.getD d 0 = x5 at x5' HN5
  generalize s5.getD a 0 = y5 at y5' HN5
  go_wp2_with fail
  refine wp_region_still_tail 16 (by kernel_rfl) (by kernel_rfl) ?_
  simp only [List.take_succ_cons, List.take_zero, List.drop_succ_cons, List.drop_zero]
  repeat still_step
  (refine wpStill_step (fun K hK => ?_); go_simp; refine Exists.intro _ (And.intro (sti (rol_8 _ _)) ?_); refine hK _ ?_; clear hK K)
  repeat still_step
  refine wpStill_nil ?_
  change wpList _ _ _ _ _ w5.drew
  go_wp2_with fail
  have H6 : Hid ((w5.setCell ⟨p, d, none⟩ (.int .u32 (rotl (bits .xor .u32 x5 y5) 256 16777216))).drew.heap[p]? = some (.cells (arr .u32 s6) 91 (0, 0))) := Lib.hid (HN5.out _ (by first | rfl | (unfold add; rfl)))
  have K6 := Lib.hid (KK5.out (.int .u32 (rotl (bits .xor .u32 x5 y5) 256 16777216)))
  clear HN5 KK5 x5' y5' f5
  generalize (w5.setCell ⟨p, d, none⟩ (.int .u32 (rotl (bits .xor .u32 x5 y5) 256 16777216))).drew = w6 at H6 K6 ⊢
  obtain ⟨s7, hs7⟩ : ∃ t, t = qa s6 c d := ⟨_, rfl⟩
  have x6' := blk_arr H6.out c (by rw [L6.out]; exact hc)
  have y6' := blk_arr H6.out d (by rw [L6.out]; exact hd)
  have f6 := free_blk H6.out c
  have hn6 : ∀ v, v = add (s6.getD c 0) (s6.getD d 0) → (w6.setCell ⟨p, c, none⟩ (.int .u32 v)).heap[p]? = some (.cells (arr .u32 s7) 91 (0, 0)) := by
    rintro v rfl
    rw [blk_arr_set H6.out, hs7]
    rfl
  have L7 : Hid (s7.length = 16) := Lib.hid (by rw [hs7]; simp only [qa_len]; exact L6.out)
  have HS7 := Lib.hid hs7
  have HN6 := Lib.hid hn6
  have KK6 := Lib.hid (fun v => (K6.out.at c v).drew)
  clear hs7 hn6 H6 K6
  generalize s6.getD c 0 = x6 at x6' HN6
  generalize s6.getD d 0 = y6 at y6' HN6
  go_wp2_with fail
  refine wp_region_still_tail 15 (by kernel_rfl) (by kernel_rfl) ?_
  simp only [List.take_succ_cons, List.take_zero, List.drop_succ_cons, List.drop_zero]
  repeat still_step
  refine wpStill_nil ?_
  change wpList _ _ _ _ _ w6.drew
  go_wp2_with fail
  have H7 : Hid ((w6.setCell ⟨p, c, none⟩ (.int .u32 ((x6 + y6) % 4294967296))).drew.heap[p]? = some (.cells (arr .u32 s7) 91 (0, 0))) := Lib.hid (HN6.out _ (by first | rfl | (unfold add; rfl)))
  have K7 := Lib.hid (KK6.out (.int .u32 ((x6 + y6) % 4294967296)))
  clear HN6 KK6 x6' y6' f6
  generalize (w6.setCell ⟨p, c, none⟩ (.int .u32 ((x6 + y6) % 4294967296))).drew = w7 at H7 K7 ⊢
  obtain ⟨s8, hs8⟩ : ∃ t, t = qx s7 b c 128 33554432 := ⟨_, rfl⟩
  have x7' := blk_arr H7.out b (by rw [L7.out]; exact hb)
  have y7' := blk_arr H7.out c (by rw [L7.out]; exact hc)
  have f7 := free_blk H7.out b
  have hn7 : ∀ v, v = rotl (bits .xor .u32 (s7.getD b 0) (s7.getD c 0)) 128 33554432 → (w7.setCell ⟨p, b, none⟩ (.int .u32 v)).heap[p]? = some (.cells (arr .u32 s8) 91 (0, 0)) := by
    rintro v rfl
    rw [blk_arr_set H7.out, hs8]
    rfl
  have L8 : Hid (s8.length = 16) := Lib.hid (by rw [hs8]; simp only [qx_len]; exact L7.out)
  have HS8 := Lib.hid hs8
  have HN7 := Lib.hid hn7
  have KK7 := Lib.hid (fun v => (K7.out.at b v).drew)
  clear hs8 hn7 H7 K7
  generalize s7.getD b 0 = x7 at x7' HN7
  generalize s7.getD c 0 = y7 at y7' HN7
  go_wp2_with fail
  refine wp_region_still_tail 16 (by kernel_rfl) (by kernel_rfl) ?_
  simp only [List.take_succ_cons, List.take_zero, List.drop_succ_cons, List.drop_zero]
  repeat still_step
  (refine wpStill_step (fun K hK => ?_); go_simp; refine Exists.intro _ (And.intro (sti (rol_7 _ _)) ?_); refine hK _ ?_; clear hK K)
  repeat still_step
  refine wpStill_nil ?_
  change wpList _ _ _ _ _ w7.drew
  go_wp2_with fail
  have H8 : Hid ((w7.setCell ⟨p, b, none⟩ (.int .u32 (rotl (bits .xor .u32 x7 y7) 128 33554432))).drew.heap[p]? = some (.cells (arr .u32 s8) 91 (0, 0))) := Lib.hid (HN7.out _ (by first | rfl | (unfold add; rfl)))
  have K8 := Lib.hid (KK7.out (.int .u32 (rotl (bits .xor .u32 x7 y7) 128 33554432)))
  clear HN7 KK7 x7' y7' f7
  generalize (w7.setCell ⟨p, b, none⟩ (.int .u32 (rotl (bits .xor .u32 x7 y7) 128 33554432))).drew = w8 at H8 K8 ⊢
  go_end0
  have e : s8 = qf := by rw [HQF.out, HS8.out, HS7.out, HS6.out, HS5.out, HS4.out, HS3.out, HS2.out, HS1.out, HS0.out]; rfl
  rw [e] at H8
  exact ⟨rfl, H8.out, K8.out⟩
end Go.Proofs.YtogebegdgfdijaaDoor.Ch
