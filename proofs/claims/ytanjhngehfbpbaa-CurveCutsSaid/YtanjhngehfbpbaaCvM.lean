/- CurveCuts: it answers true. No condition. -/
import Derived.Test.YtanjhngehfbpbaaAgd
import Derived.Test.YtanjhngehfbpbaaOpen
import Derived.Test.YtanjhngehfbpbaaLig
namespace Go.Proofs.Ytanjhngehfbpbaa.Sl
open Go.RowKit Lm Fp Cu Rd Sc
set_option linter.unusedSimpArgs false
set_option linter.unusedSimpArgs false
set_option linter.unusedVariables false

theorem src_take {w : World} {sa : Option Addr} {n : Nat} {xs : List Int} (h : Src w sa n xs) (m : Nat) (hm : m ≤ n) : Src w sa m (xs.take m) := by
  refine ⟨by simp; have := h.len; omega, fun i hi => ?_⟩
  obtain ⟨a, e, hc⟩ := h.cell i (by omega)
  refine ⟨a, e, ?_⟩
  rw [hc]
  simp [List.getD, hi]
/-- A part of a source. -/
theorem src_part {w : World} {ad : Addr} {n : Nat} {xs : List Int} (h : Src w (some ad) n xs) (o m : Nat) (hm : o + m ≤ n) : Src w (some (ad.add o)) m ((xs.drop o).take m) := by
  refine ⟨by simp; have := h.len; omega, fun i hi => ⟨_, rfl, ?_⟩⟩
  obtain ⟨a, e, hc⟩ := h.cell (o + i) (by omega)
  cases e
  have : (ad.add o).add i = ad.add (o + i) := by
    obtain ⟨b, off, s⟩ := ad
    unfold Addr.add
    by_cases ho : o = 0
    · subst ho; simp
    · by_cases hj : i = 0
      · subst hj; simp
      · simp [ho, hj, Nat.add_assoc]
  rw [this, hc]
  simp [List.getD, hi, List.getElem?_drop]

theorem src_if {w : World} {ad : Addr} {n : Nat} {xs : List Int} (h : Src w (some ad) n xs) (c o m : Nat) (hc : n ≤ c) (hm : o + m ≤ n) : Src w (if c = o then some ad else some (ad.add o)) m ((xs.drop o).take m) := by
  by_cases e : c = o
  · rw [if_pos e]
    have hz : m = 0 := by omega
    subst hz
    exact ⟨by simp, fun i hi => absurd hi (by omega)⟩
  · rw [if_neg e]
    exact src_part h o m hm
theorem run_slice_to (u : World) (ad : Addr) (nb cb I : Nat) (h : I ≤ cb) : (Instr.sliceAt 24 (.slice (some ad) nb cb) none (some (.int .i64 (I : Int))) none).run Try.prog u = .ok (.slice (some ad) I cb) u := by
  have h1 : ¬ (cb : Int) < (I : Int) := by omega
  have h2 : ¬ (I : Int) < 0 := by omega
  go_simp
theorem run_slice_from (u : World) (ad : Addr) (nb cb I : Nat) (h : I ≤ nb) (h0 : nb ≤ cb) : (Instr.sliceAt 24 (.slice (some ad) nb cb) (some (.int .i64 (I : Int))) none none).run Try.prog u = .ok (.slice (if cb = I then some ad else some (ad.add I)) (nb - I) (cb - I)) u := by
  have h1 : ¬ (nb : Int) < (I : Int) := by omega
  have h2 : ¬ (I : Int) < 0 := by omega
  go_simp
theorem rowI_src {w : World} {a : Option Addr} {len cap : Nat} {zs : List Int} (h : RowI .u8 w a len cap zs) : Src w a len (zs.take len) ∧ bytes (zs.take len) ∧ len ≤ cap := by
  rcases h with ⟨rfl, rfl, rfl, rfl⟩ | ⟨x, rfl, hl, hm, hz, hc, hw⟩
  · exact ⟨⟨rfl, fun i hi => absurd hi (by omega)⟩, fun x hx => by simp at hx, Nat.le_refl _⟩
  · refine ⟨⟨by simp; omega, fun i hi => ⟨x, rfl, ?_⟩⟩, fun y hy => wf_u8 (hw y (List.mem_of_mem_take hy)), hl⟩
    rw [hc i (by omega)]
    simp [List.getD, hi]
theorem srcL_new {w : World} {sb : Option Addr} {nb cb : Nat} {bs : List Int} (h : Src w sb nb bs) (hc : nb ≤ cb) : SrcL (w.alloc (.cells #[.slice sb nb cb] 24)) (some ⟨w.heap.size, 0, none⟩) 1 [bs] := csrcL_one h hc
theorem src_mk {w : World} {g : Nat} {t : TypeId} {fr : Nat × Nat} {sb : Option Addr} {nb cb : Nat} {bs : List Int} (h : w.heap[g]? = some (.cells #[.slice sb nb cb] t fr)) (h1 : Src w sb nb bs) (hc : nb ≤ cb) : SrcL w (some ⟨g, 0, none⟩) 1 [bs] := by
  have e := h1.len
  subst e
  refine ⟨rfl, fun i hi => ?_⟩
  obtain rfl : i = 0 := by omega
  exact ⟨_, sb, cb, rfl, by rw [show (⟨g, 0, none⟩ : Addr).add 0 = ⟨g, 0, none⟩ from rfl, cell_blk h]; rfl, hc, h1⟩

theorem src_three {w : World} {g : Nat} {t : TypeId} {fr : Nat × Nat} {s1 s2 s3 : Option Addr} {n1 n2 n3 c1 c2 c3 : Nat} {x1 x2 x3 : List Int} (h : w.heap[g]? = some (.cells #[.slice s1 n1 c1, .slice s2 n2 c2, .slice s3 n3 c3] t fr))
    (h1 : Src w s1 n1 x1) (h2 : Src w s2 n2 x2) (h3 : Src w s3 n3 x3) (l1 : n1 ≤ c1) (l2 : n2 ≤ c2) (l3 : n3 ≤ c3) : SrcL w (some ⟨g, 0, none⟩) 3 [x1, x2, x3] := by
  have e1 := h1.len
  have e2 := h2.len
  have e3 := h3.len
  subst e1 e2 e3
  refine ⟨rfl, fun i hi => ?_⟩
  match i, hi with
  | 0, _ => exact ⟨_, s1, c1, rfl, by rw [show (⟨g, 0, none⟩ : Addr).add 0 = ⟨g, 0, none⟩ from rfl, cell_blk h]; rfl, l1, h1⟩
  | 1, _ => exact ⟨_, s2, c2, rfl, by rw [show (⟨g, 0, none⟩ : Addr).add 1 = ⟨g, 1, none⟩ from rfl, cell_blk h]; rfl, l2, h2⟩
  | 2, _ => exact ⟨_, s3, c3, rfl, by rw [show (⟨g, 0, none⟩ : Addr).add 2 = ⟨g, 2, none⟩ from rfl, cell_blk h]; rfl, l3, h3⟩

set_option maxRecDepth 100000 in
set_option maxHeartbeats 4000000 in
theorem cuts_long {ks : List Int} (sb : Option Addr) (nb cb : Nat) (i : Int) (w : World) (h : (300 : Int) < (nb : Int)) :
    Calls Try.prog 4 #[.agg (arr .u8 ks), .slice sb nb cb, .int .i64 i] w fun e w' => e = .returned (.bool true) ∧ Below w.heap.size w w' := by
  have HAL := Lib.hid (fun w => alive13_any w)
  have HS0 := Lib.hid (Blk.one w (arr .u8 ks) 23)
  go_enter Try.func4, Try.ntmps4
  go_wp2_with (first | ((with_reducible show Calls _ 7 _ _ _); go_at_call 7; refine (HAL.out _).mono ?_; rintro e w1 ⟨rfl, hb1⟩; have HI1 := Lib.hid (HS0.out.kept hb1); clear hb1))
  (try simp only [Exit.then])
  go_ret
  exact ⟨rfl, HI1.out.below⟩
set_option maxRecDepth 100000 in
set_option maxHeartbeats 4000000 in
theorem cuts_neg {ks : List Int} (sb : Option Addr) (nb cb : Nat) (i : Int) (w : World) (h0 : ¬ (300 : Int) < (nb : Int)) (h : i < 0) :
    Calls Try.prog 4 #[.agg (arr .u8 ks), .slice sb nb cb, .int .i64 i] w fun e w' => e = .returned (.bool true) ∧ Below w.heap.size w w' := by
  have HAL := Lib.hid (fun w => alive13_any w)
  have HS0 := Lib.hid (Blk.one w (arr .u8 ks) 23)
  go_enter Try.func4, Try.ntmps4
  go_wp2_with (first | ((with_reducible show Calls _ 7 _ _ _); go_at_call 7; refine (HAL.out _).mono ?_; rintro e w1 ⟨rfl, hb1⟩; have HI1 := Lib.hid (HS0.out.kept hb1); clear hb1))
  (try simp only [Exit.then])
  go_ret
  exact ⟨rfl, HI1.out.below⟩
set_option maxRecDepth 100000 in
set_option maxHeartbeats 4000000 in
theorem cuts_over {ks : List Int} (sb : Option Addr) (nb cb : Nat) (i : Int) (w : World) (h0 : ¬ (300 : Int) < (nb : Int)) (h1 : ¬ i < 0) (h : (nb : Int) < i) :
    Calls Try.prog 4 #[.agg (arr .u8 ks), .slice sb nb cb, .int .i64 i] w fun e w' => e = .returned (.bool true) ∧ Below w.heap.size w w' := by
  have HAL := Lib.hid (fun w => alive13_any w)
  have HS0 := Lib.hid (Blk.one w (arr .u8 ks) 23)
  go_enter Try.func4, Try.ntmps4
  go_wp2_with (first | ((with_reducible show Calls _ 7 _ _ _); go_at_call 7; refine (HAL.out _).mono ?_; rintro e w1 ⟨rfl, hb1⟩; have HI1 := Lib.hid (HS0.out.kept hb1); clear hb1))
  (try simp only [Exit.then])
  go_ret
  exact ⟨rfl, HI1.out.below⟩
set_option maxRecDepth 100000 in
set_option maxHeartbeats 16000000 in
theorem cuts_core {ks bs : List Int} (a I : Nat) (sb s1 s2 : Option Addr) (nb cb : Nat) (w : World) (hk : K32 ks a) (hs : Src w sb nb bs) (hc : nb ≤ cb) (hb : bytes bs) (hI : I ≤ nb) (hnb : nb ≤ 300)
    (hr1 : ∀ u, (Instr.sliceAt 24 (.slice sb nb cb) none (some (.int .i64 (I : Int))) none).run Try.prog u = .ok (.slice s1 I cb) u) (hr2 : ∀ u, (Instr.sliceAt 24 (.slice sb nb cb) (some (.int .i64 (I : Int))) none none).run Try.prog u = .ok (.slice s2 (nb - I) (cb - I)) u)
    (hp1 : ∀ u, Src u sb nb bs → Src u s1 I (bs.take I)) (hp2 : ∀ u, Src u sb nb bs → Src u s2 (nb - I) (bs.drop I)) :
    Calls Try.prog 4 #[.agg (arr .u8 ks), .slice sb nb cb, .int .i64 (I : Int)] w fun e w' => e = .returned (.bool true) ∧ Below w.heap.size w w' := by
  have hal := fun w => alive13_any w
  have hgt : ¬ ((300 : Int) < (nb : Int)) := by omega
  have hge : ¬ ((I : Int) < 0) := by omega
  have hle : ¬ ((nb : Int) < (I : Int)) := by omega
  have hl := hs.len
  have b1 : bytes (bs.take I) := fun x h => hb x (List.mem_of_mem_take h)
  have b2 : bytes (bs.drop I) := fun x h => hb x (List.mem_of_mem_drop h)
  have hf1 : ([bs] : List (List Int)).flatten = bs := by simp
  have hf2 : ([bs.take I, bs.drop I] : List (List Int)).flatten = bs := by simp
  have hf3 : ([bs.take I, [], bs.drop I] : List (List Int)).flatten = bs := by simp
  have hb1 : ∀ l ∈ ([bs] : List (List Int)), bytes l := by intro l h; simp only [List.mem_singleton] at h; subst h; exact hb
  have hb2 : ∀ l ∈ ([bs.take I, bs.drop I] : List (List Int)), bytes l := by intro l h; simp only [List.mem_cons, List.not_mem_nil, or_false] at h; rcases h with rfl | rfl <;> assumption
  have hb3 : ∀ l ∈ ([bs.take I, [], bs.drop I] : List (List Int)), bytes l := by
    intro l h
    simp only [List.mem_cons, List.not_mem_nil, or_false] at h
    rcases h with rfl | rfl | rfl
    · exact b1
    · intro x hx; simp at hx
    · exact b2
  have hsg1 := fun (u : World) (g : Nat) (h : SrcL u (some ⟨g, 0, none⟩) 1 [bs]) => csign_any a (some ⟨g, 0, none⟩) 1 1 [bs] u hk h hb1 (by rw [hf1, hl]; omega) (by decide)
  have hsg2 := fun (u : World) (g : Nat) (h : SrcL u (some ⟨g, 0, none⟩) 2 [bs.take I, bs.drop I]) => csign_any a (some ⟨g, 0, none⟩) 2 2 _ u hk h hb2 (by rw [hf2, hl]; omega) (by decide)
  rw [hf1] at hsg1
  rw [hf2] at hsg2
  have hgl := esign_len a bs
  have hgb := esign_bytes a bs
  have hpb := fun (u : World) => cpublic_any a u hk
  have hho := Ed.holds_sig a bs
  obtain ⟨PB, hPB⟩ : ∃ p, p = epub a := ⟨_, rfl⟩
  rw [← hPB] at hpb hho
  obtain ⟨gs, hgs⟩ : ∃ g, g = esign a bs := ⟨_, rfl⟩
  rw [← hgs] at hsg1 hsg2 hgl hgb hho
  have hv := fun (u : World) (g : Nat) (zs : List Int) (h0 : K32 zs PB) (h : SrcL u (some ⟨g, 0, none⟩) 3 [bs.take I, [], bs.drop I]) => cverify_any PB (some ⟨g, 0, none⟩) 3 3 _ u h0 hgl hgb h hb3 (by rw [hf3, hl]; omega) (by decide)
  rw [hf3, hho] at hv
  obtain ⟨x1, hx1⟩ : ∃ x, x = bs.take I := ⟨_, rfl⟩
  obtain ⟨x2, hx2⟩ : ∃ x, x = bs.drop I := ⟨_, rfl⟩
  rw [← hx1] at hsg2 hv hp1
  rw [← hx2] at hsg2 hv hp2
  have hca : I ≤ cb := by omega
  have hcb : nb - I ≤ cb - I := by omega
  obtain ⟨m, hm⟩ : ∃ m, m = nb - I := ⟨_, rfl⟩
  obtain ⟨c2, hc2⟩ : ∃ m, m = cb - I := ⟨_, rfl⟩
  rw [← hm] at hr2 hp2 hcb
  rw [← hc2] at hr2 hcb
  have hsl1 := fun (u : World) (g : Nat) (t : TypeId) (fr : Nat × Nat) (h : u.heap[g]? = some (.cells #[.slice s1 I cb, .slice s2 m c2] t fr)) (h2 : Src u sb nb bs) => src_two h (hp1 u h2) (hp2 u h2) hca hcb
  have hsl2 := fun (u : World) (g : Nat) (t : TypeId) (fr : Nat × Nat) (h : u.heap[g]? = some (.cells #[.slice s1 I cb, .slice none 0 0, .slice s2 m c2] t fr)) (h2 : Src u sb nb bs) => src_three h (hp1 u h2) (⟨rfl, fun i hi => absurd hi (by simp)⟩ : Src u none 0 []) (hp2 u h2) hca (Nat.le_refl 0) hcb
  have HAL := Lib.hid hal
  have HSG1 := Lib.hid hsg1
  have HSG2 := Lib.hid hsg2
  have HSL1 := Lib.hid hsl1
  have HSL2 := Lib.hid hsl2
  have HPUB := Lib.hid hpb
  have HV := Lib.hid hv
  have HR1 := Lib.hid hr1
  have HR2 := Lib.hid hr2
  have HGL := Lib.hid hgl
  have HK := Lib.hid hk
  have HKL := Lib.hid hk.len
  have HSB := Lib.hid hs
  have HC := Lib.hid hc
  obtain ⟨zs64, hzs64⟩ : ∃ zs : List Int, zs = List.replicate 64 0 := ⟨_, rfl⟩
  have HZzs64 : Hid (∀ w, (zeroValue 27).run Try.prog w = .ok (.agg (arr .u8 zs64)) w) := Lib.hid (by intro w; rw [hzs64]; exact zero_sig w)
  have HLzs64 : Hid (zs64.length = 64) := Lib.hid (by rw [hzs64]; rfl)
  have HS0 := Lib.hid (Blk.one w (arr .u8 ks) 23)
  clear hzs64 hal hnb hl hb b1 b2 hf1 hf2 hf3 hb1 hb2 hb3 hsg1 hsg2 hgl hgb hpb hho hPB hgs hv hx1 hx2 hca hcb hm hc2 hsl1 hsl2 hk hs hc hr1 hr2 hp1 hp2 hI
  go_enter Try.func4, Try.ntmps4
  go_upto_region 4 with (first | ((with_reducible show Calls _ 7 _ _ _); go_at_call 7; refine (HAL.out _).mono ?_; rintro e w1 ⟨rfl, hb1⟩; have HI1 := Lib.hid (HS0.out.kept hb1); clear hb1))
  (try simp only [World.size_alloc, Act.put, List.setIfInBounds_toArray, List.set_cons_zero, List.set_cons_succ])
  go_upto_region 5 with (first | ((with_reducible show wpList _ _ _ (Oper.mk (some 28) _ _ _ _ _ :: _) _ _); refine wpList_load_part rfl 23 _ rfl (w.heap.size) 0 _ 23 (0, 0) _ (HI1.out.get 0 rfl) rfl .u8 ks (arr_part _ _) Try.underlying23 rfl (num_i HKL.out) ?_) | ((with_reducible show Calls _ 8 _ _ _); go_at_call 8; refine (HSG1.out _ _ (srcL_new (HSB.out.below HI1.out.below) HC.out)).mono ?_; rintro e w2 ⟨rfl, hb2⟩; have HI2 := Lib.hid (HI1.out.kept (below_new hb2)); clear hb2) | ((with_reducible show wpList _ _ _ (Oper.mk (some 8) _ _ _ _ _ :: _) _ _); refine wpList_alloc_row rfl 27 rfl _ (HZzs64.out _) ?_; have HI3 := Lib.hid (HI2.out.alloc (arr .u8 zs64) 27); generalize w2.heap.size = g8 at HI3 ⊢; generalize w2.alloc (.cells (arr .u8 zs64) 27) = w3 at HI3 ⊢) | ((with_reducible show wpList _ _ _ (Oper.mk none (Op.store _ (Operand.tmp 8) _) _ _ _ _ :: _) _ _); refine wpList_store_whole rfl 27 _ _ rfl (g8) _ _ 27 (HI3.out.get 1 rfl) rfl rfl (arr_len2 _ _ HGL.out HLzs64.out) (sig_s HGL.out) (all_arr _ _) ?_; intro w4 hb4 hk4 hz4; have HI4 := Lib.hid (HI3.out.put 1 rfl hk4 hb4); clear hb4 hk4 hz4))
  (try simp only [World.size_alloc, Act.put, List.setIfInBounds_toArray, List.set_cons_zero, List.set_cons_succ])
  obtain ⟨z8001, hz8001⟩ : ∃ z : List Int, z = nar (dig 256 32 PB) := ⟨_, rfl⟩
  have HE8001 := Lib.hid hz8001
  have HL8001 : Hid (z8001.length = 32) := Lib.hid (by rw [hz8001]; exact (nar_len _).trans (dig_len _ _ _))
  clear hz8001
  refine wp_region_ling (fun (fF : Fill) (uF : World) => (∀ v, fF 0 = some v → v = .agg (arr .u8 gs) ∧ True) ∧ (∀ v, fF 1 = some v → v = .agg (arr .u8 ks) ∧ True) ∧ (∀ v, fF 2 = some v → v = .slice sb nb cb ∧ True) ∧ (∀ v, fF 3 = some v → v = .int .i64 (I : Int) ∧ True) ∧ (∀ v, fF 4 = some v → v = .slice s1 I cb ∧ True) ∧ (∀ v, fF 5 = some v → v = .slice sb nb cb ∧ True) ∧ (∀ v, fF 6 = some v → v = .int .i64 (I : Int) ∧ True) ∧ (∀ v, fF 7 = some v → v = .slice s2 m c2 ∧ True) ∧ (∀ v, fF 8 = some v → ∃ g : Nat, v = .slice (some ⟨g, 0, none⟩) 2 2) ∧ (∀ v, fF 9 = some v → v = .agg (arr .u8 gs) ∧ True) ∧ (∀ v, fF 10 = some v → v = .bool true ∧ True) ∧ (∀ v, fF 11 = some v → v = .bool true ∧ True) ∧ (∀ v, fF 12 = some v → v = .agg (arr .u8 ks) ∧ True) ∧ (∀ v, fF 13 = some v → v = .agg (arr .u8 z8001) ∧ K32 z8001 PB) ∧ (∀ v, fF 14 = some v → v = .agg (arr .u8 gs) ∧ True) ∧ (∀ v, fF 15 = some v → v = .slice sb nb cb ∧ True) ∧ (∀ v, fF 16 = some v → v = .int .i64 (I : Int) ∧ True) ∧ (∀ v, fF 17 = some v → v = .slice s1 I cb ∧ True) ∧ (∀ v, fF 18 = some v → v = .slice sb nb cb ∧ True) ∧ (∀ v, fF 19 = some v → v = .int .i64 (I : Int) ∧ True) ∧ (∀ v, fF 20 = some v → v = .slice s2 m c2 ∧ True) ∧ (∀ v, fF 21 = some v → ∃ g : Nat, v = .slice (some ⟨g, 0, none⟩) 3 3) ∧ (∀ v, fF 22 = some v → v = .bool true ∧ True) ∧ (∀ v, fF 23 = some v → v = .bool true ∧ True) ∧ (∀ v, fF 24 = some v → v = .bool true ∧ True) ∧ Blk w uF ([(w.heap.size, arr .u8 ks, 23), (g8, arr .u8 gs, 27)] ++ (ent (fF 8) (#[.slice s1 I cb, .slice s2 m c2]) 24 ++ (ent (fF 21) (#[.slice s1 I cb, .slice none 0 0, .slice s2 m c2]) 24)))) (by kernel_rfl) (by kernel_rfl) ?zm5 ?sm5 ?em5
  case zm5 => exact ⟨fun _ h => (by cases h), fun _ h => (by cases h), fun _ h => (by cases h), fun _ h => (by cases h), fun _ h => (by cases h), fun _ h => (by cases h), fun _ h => (by cases h), fun _ h => (by cases h), fun _ h => (by cases h), fun _ h => (by cases h), fun _ h => (by cases h), fun _ h => (by cases h), fun _ h => (by cases h), fun _ h => (by cases h), fun _ h => (by cases h), fun _ h => (by cases h), fun _ h => (by cases h), fun _ h => (by cases h), fun _ h => (by cases h), fun _ h => (by cases h), fun _ h => (by cases h), fun _ h => (by cases h), fun _ h => (by cases h), fun _ h => (by cases h), fun _ h => (by cases h), HI4.out.drew⟩
  case sm5 =>
    refine LinAllG.cons (fun fF bF uF kF hJF hfF hcF hupF hsF hKF => ?_) ?_
    · obtain ⟨j0, j1, j2, j3, j4, j5, j6, j7, j8, j9, j10, j11, j12, j13, j14, j15, j16, j17, j18, j19, j20, j21, j22, j23, j24, hB⟩ := hJF
      have e8 : bF.eval (.tmp 8) = .pointer (some ⟨g8, 0, none⟩) := hsF.old' 8 (by kernel_rfl) rfl
      have hB' := hB
      refine step_load_part rfl 27 _ rfl (g8) (0) (arr .u8 gs) 27 (0, 0) _ (hB'.get 1 rfl) e8 .u8 gs (arr_part _ _) Try.underlying27 rfl (sig_i HGL.out) ?_
      exact hKF _ _ ⟨fun _ h => ⟨(Option.some.inj h).symm, trivial⟩, j1, j2, j3, j4, j5, j6, j7, j8, j9, j10, j11, j12, j13, j14, j15, j16, j17, j18, j19, j20, j21, j22, j23, j24, hB⟩
    refine LinAllG.cons (fun fF bF uF kF hJF hfF hcF hupF hsF hKF => ?_) ?_
    · obtain ⟨j0, j1, j2, j3, j4, j5, j6, j7, j8, j9, j10, j11, j12, j13, j14, j15, j16, j17, j18, j19, j20, j21, j22, j23, j24, hB⟩ := hJF
      have e3 : bF.eval (.tmp 3) = .pointer (some ⟨w.heap.size, 0, none⟩) := hsF.old' 3 (by kernel_rfl) rfl
      have hB' := hB
      refine step_load_part rfl 23 _ rfl (w.heap.size) (0) (arr .u8 ks) 23 (0, 0) _ (hB'.get 0 rfl) e3 .u8 ks (arr_part _ _) Try.underlying23 rfl (num_i HKL.out) ?_
      exact hKF _ _ ⟨j0, fun _ h => ⟨(Option.some.inj h).symm, trivial⟩, j2, j3, j4, j5, j6, j7, j8, j9, j10, j11, j12, j13, j14, j15, j16, j17, j18, j19, j20, j21, j22, j23, j24, hB⟩
    refine LinAllG.cons (fun fF bF uF kF hJF hfF hcF hupF hsF hKF => ?_) ?_
    · obtain ⟨j0, j1, j2, j3, j4, j5, j6, j7, j8, j9, j10, j11, j12, j13, j14, j15, j16, j17, j18, j19, j20, j21, j22, j23, j24, hB⟩ := hJF
      have e1 : bF.eval (.tmp 1) = .slice sb nb cb := hsF.old' 1 (by kernel_rfl) rfl
      exact lin_pure rfl (.slice sb nb cb) (by simp only [execOp, e1] <;> first | rfl | kernel_rfl | (go_simp; done)) (hKF _ _ ⟨j0, j1, fun _ h => ⟨(Option.some.inj h).symm, trivial⟩, j3, j4, j5, j6, j7, j8, j9, j10, j11, j12, j13, j14, j15, j16, j17, j18, j19, j20, j21, j22, j23, j24, hB⟩)
    refine LinAllG.cons (fun fF bF uF kF hJF hfF hcF hupF hsF hKF => ?_) ?_
    · obtain ⟨j0, j1, j2, j3, j4, j5, j6, j7, j8, j9, j10, j11, j12, j13, j14, j15, j16, j17, j18, j19, j20, j21, j22, j23, j24, hB⟩ := hJF
      have e2 : bF.eval (.tmp 2) = .int .i64 (I : Int) := hsF.old' 2 (by kernel_rfl) rfl
      exact lin_pure rfl (.int .i64 (I : Int)) (by simp only [execOp, e2] <;> first | rfl | kernel_rfl | (go_simp; done)) (hKF _ _ ⟨j0, j1, j2, fun _ h => ⟨(Option.some.inj h).symm, trivial⟩, j4, j5, j6, j7, j8, j9, j10, j11, j12, j13, j14, j15, j16, j17, j18, j19, j20, j21, j22, j23, j24, hB⟩)
    refine LinAllG.cons (fun fF bF uF kF hJF hfF hcF hupF hsF hKF => ?_) ?_
    · obtain ⟨j0, j1, j2, j3, j4, j5, j6, j7, j8, j9, j10, j11, j12, j13, j14, j15, j16, j17, j18, j19, j20, j21, j22, j23, j24, hB⟩ := hJF
      obtain ⟨e34, p34⟩ := hsF.at hupF 2 34 (by kernel_rfl) rfl j2
      obtain ⟨e35, p35⟩ := hsF.at hupF 3 35 (by kernel_rfl) rfl j3
      exact lin_pure rfl (.slice s1 I cb) (exec_slice 24 (.tmp 34) none (some (.tmp 35)) rfl _ none (some (.int .i64 (I : Int))) e34 rfl (by rw [Option.map_some, e35]) _ (HR1.out _)) (hKF _ _ ⟨j0, j1, j2, j3, fun _ h => ⟨(Option.some.inj h).symm, trivial⟩, j5, j6, j7, j8, j9, j10, j11, j12, j13, j14, j15, j16, j17, j18, j19, j20, j21, j22, j23, j24, hB⟩)
    refine LinAllG.cons (fun fF bF uF kF hJF hfF hcF hupF hsF hKF => ?_) ?_
    · obtain ⟨j0, j1, j2, j3, j4, j5, j6, j7, j8, j9, j10, j11, j12, j13, j14, j15, j16, j17, j18, j19, j20, j21, j22, j23, j24, hB⟩ := hJF
      have e1 : bF.eval (.tmp 1) = .slice sb nb cb := hsF.old' 1 (by kernel_rfl) rfl
      exact lin_pure rfl (.slice sb nb cb) (by simp only [execOp, e1] <;> first | rfl | kernel_rfl | (go_simp; done)) (hKF _ _ ⟨j0, j1, j2, j3, j4, fun _ h => ⟨(Option.some.inj h).symm, trivial⟩, j6, j7, j8, j9, j10, j11, j12, j13, j14, j15, j16, j17, j18, j19, j20, j21, j22, j23, j24, hB⟩)
    refine LinAllG.cons (fun fF bF uF kF hJF hfF hcF hupF hsF hKF => ?_) ?_
    · obtain ⟨j0, j1, j2, j3, j4, j5, j6, j7, j8, j9, j10, j11, j12, j13, j14, j15, j16, j17, j18, j19, j20, j21, j22, j23, j24, hB⟩ := hJF
      have e2 : bF.eval (.tmp 2) = .int .i64 (I : Int) := hsF.old' 2 (by kernel_rfl) rfl
      exact lin_pure rfl (.int .i64 (I : Int)) (by simp only [execOp, e2] <;> first | rfl | kernel_rfl | (go_simp; done)) (hKF _ _ ⟨j0, j1, j2, j3, j4, j5, fun _ h => ⟨(Option.some.inj h).symm, trivial⟩, j7, j8, j9, j10, j11, j12, j13, j14, j15, j16, j17, j18, j19, j20, j21, j22, j23, j24, hB⟩)
    refine LinAllG.cons (fun fF bF uF kF hJF hfF hcF hupF hsF hKF => ?_) ?_
    · obtain ⟨j0, j1, j2, j3, j4, j5, j6, j7, j8, j9, j10, j11, j12, j13, j14, j15, j16, j17, j18, j19, j20, j21, j22, j23, j24, hB⟩ := hJF
      obtain ⟨e37, p37⟩ := hsF.at hupF 5 37 (by kernel_rfl) rfl j5
      obtain ⟨e38, p38⟩ := hsF.at hupF 6 38 (by kernel_rfl) rfl j6
      exact lin_pure rfl (.slice s2 m c2) (exec_slice 24 (.tmp 37) (some (.tmp 38)) none rfl _ (some (.int .i64 (I : Int))) none e37 (by rw [Option.map_some, e38]) rfl _ (HR2.out _)) (hKF _ _ ⟨j0, j1, j2, j3, j4, j5, j6, fun _ h => ⟨(Option.some.inj h).symm, trivial⟩, j8, j9, j10, j11, j12, j13, j14, j15, j16, j17, j18, j19, j20, j21, j22, j23, j24, hB⟩)
    refine LinAllG.cons (fun fF bF uF kF hJF hfF hcF hupF hsF hKF => ?_) ?_
    · obtain ⟨j0, j1, j2, j3, j4, j5, j6, j7, j8, j9, j10, j11, j12, j13, j14, j15, j16, j17, j18, j19, j20, j21, j22, j23, j24, hB⟩ := hJF
      obtain ⟨e36, p36⟩ := hsF.at hupF 4 36 (by kernel_rfl) rfl j4
      obtain ⟨e39, p39⟩ := hsF.at hupF 7 39 (by kernel_rfl) rfl j7
      have hB1 : Blk w (uF.alloc (.cells #[.slice s1 I cb, .slice s2 m c2] 24)) ([(w.heap.size, arr .u8 ks, 23), (g8, arr .u8 gs, 27)] ++ (ent ((some (.slice (some ⟨uF.heap.size, 0, none⟩) 2 2) : Option Value)) (#[.slice s1 I cb, .slice s2 m c2]) 24 ++ (ent (fF 21) (#[.slice s1 I cb, .slice none 0 0, .slice s2 m c2]) 24))) := hB.ins (a := [(w.heap.size, arr .u8 ks, 23), (g8, arr .u8 gs, 27)]) (b := ent (fF 21) (#[.slice s1 I cb, .slice none 0 0, .slice s2 m c2]) 24) _ _ (by rw [hfF]; simp only [ent_none, List.nil_append, List.append_nil, List.append_assoc, List.cons_append]) (by simp only [ent_slice, List.nil_append, List.append_nil, List.append_assoc, List.cons_append, Option.isSome_none, Bool.false_eq_true, if_false])
      rw [if_pos (by simp [Region.wanted])]
      unfold Oper.wp
      simp only [execOp, List.map_toArray, List.map_cons, List.map_nil, e36, e39]
      generalize hX : Sem.run Try.prog _ uF = X
      have hrun : X = .ok (.value (.slice (some ⟨uF.heap.size, 0, none⟩) 2 2)) (uF.alloc (.cells #[.slice s1 I cb, .slice s2 m c2] 24)) := by
        rw [← hX]
        first | rfl | kernel_rfl
      rw [hrun]
      exact hKF _ _ ⟨j0, j1, j2, j3, j4, j5, j6, j7, fun _ h => ⟨_, (Option.some.inj h).symm⟩, j9, j10, j11, j12, j13, j14, j15, j16, j17, j18, j19, j20, j21, j22, j23, j24, hB1⟩
    refine LinAllG.cons (fun fF bF uF kF hJF hfF hcF hupF hsF hKF => ?_) ?_
    · obtain ⟨j0, j1, j2, j3, j4, j5, j6, j7, j8, j9, j10, j11, j12, j13, j14, j15, j16, j17, j18, j19, j20, j21, j22, j23, j24, hB⟩ := hJF
      obtain ⟨e33, p33⟩ := hsF.at hupF 1 33 (by kernel_rfl) rfl j1
      have y8 := hupF 8 (by kernel_rfl)
      obtain ⟨v8, s8⟩ := Option.isSome_iff_exists.1 y8
      obtain ⟨gm5_2, rfl⟩ := j8 _ s8
      have e40 := hsF.val 8 40 rfl s8
      have hB' := hB
      rw [s8] at hB'
      have hsl := HSL1.out _ _ _ _ (hB'.get 2 rfl) (HSB.out.below hB.below)
      refine lin_call rfl 8 [Operand.tmp 33, Operand.tmp 40] _ [.agg (arr .u8 ks), .slice (some ⟨gm5_2, 0, none⟩) 2 2] rfl (by simp only [List.map_cons, List.map_nil, e33, e40] <;> rfl) (fun _ _ => by kernel_rfl) ?_
      refine Calls.mono (HSG2.out _ _ hsl) ?_
      rintro e w1 ⟨rfl, hb⟩
      exact ⟨_, rfl, hKF _ _ ⟨j0, j1, j2, j3, j4, j5, j6, j7, j8, fun _ h => ⟨(Option.some.inj h).symm, trivial⟩, j10, j11, j12, j13, j14, j15, j16, j17, j18, j19, j20, j21, j22, j23, j24, hB.kept hb⟩⟩
    refine LinAllG.cons (fun fF bF uF kF hJF hfF hcF hupF hsF hKF => ?_) ?_
    · obtain ⟨j0, j1, j2, j3, j4, j5, j6, j7, j8, j9, j10, j11, j12, j13, j14, j15, j16, j17, j18, j19, j20, j21, j22, j23, j24, hB⟩ := hJF
      obtain ⟨e32, p32⟩ := hsF.at hupF 0 32 (by kernel_rfl) rfl j0
      obtain ⟨e41, p41⟩ := hsF.at hupF 9 41 (by kernel_rfl) rfl j9
      exact lin_pure rfl (.bool true) (exec_eql_arr 27 _ _ (.tmp 32) (.tmp 41) rfl 64 .u8 .u8 Try.underlying27 Try.underlying5 (fun w => by kernel_rfl) (by kernel_rfl) gs gs e32 e41 HGL.out HGL.out _ (beq_self_eq_true gs)) (hKF _ _ ⟨j0, j1, j2, j3, j4, j5, j6, j7, j8, j9, fun _ h => ⟨(Option.some.inj h).symm, trivial⟩, j11, j12, j13, j14, j15, j16, j17, j18, j19, j20, j21, j22, j23, j24, hB⟩)
    refine LinAllG.cons (fun fF bF uF kF hJF hfF hcF hupF hsF hKF => ?_) ?_
    · obtain ⟨j0, j1, j2, j3, j4, j5, j6, j7, j8, j9, j10, j11, j12, j13, j14, j15, j16, j17, j18, j19, j20, j21, j22, j23, j24, hB⟩ := hJF
      obtain ⟨e42, p42⟩ := hsF.at hupF 10 42 (by kernel_rfl) rfl j10
      exact lin_pure rfl (.bool true) (by simp only [execOp, e42] <;> first | rfl | kernel_rfl | (go_simp; done)) (hKF _ _ ⟨j0, j1, j2, j3, j4, j5, j6, j7, j8, j9, j10, fun _ h => ⟨(Option.some.inj h).symm, trivial⟩, j12, j13, j14, j15, j16, j17, j18, j19, j20, j21, j22, j23, j24, hB⟩)
    refine LinAllG.cons (fun fF bF uF kF hJF hfF hcF hupF hsF hKF => ?_) ?_
    · obtain ⟨j0, j1, j2, j3, j4, j5, j6, j7, j8, j9, j10, j11, j12, j13, j14, j15, j16, j17, j18, j19, j20, j21, j22, j23, j24, hB⟩ := hJF
      obtain ⟨e43, p43⟩ := hsF.at hupF 11 43 (by kernel_rfl) rfl j11
      refine lin_unguard (wanted_of (j := 11) (s := 43) rfl rfl e43) ?_
      dsimp only
      have e3 : bF.eval (.tmp 3) = .pointer (some ⟨w.heap.size, 0, none⟩) := hsF.old' 3 (by kernel_rfl) rfl
      have hB' := hB
      refine step_load_part rfl 23 _ rfl (w.heap.size) (0) (arr .u8 ks) 23 (0, 0) _ (hB'.get 0 rfl) e3 .u8 ks (arr_part _ _) Try.underlying23 rfl (num_i HKL.out) ?_
      exact hKF _ _ ⟨j0, j1, j2, j3, j4, j5, j6, j7, j8, j9, j10, j11, fun _ h => ⟨(Option.some.inj h).symm, trivial⟩, j13, j14, j15, j16, j17, j18, j19, j20, j21, j22, j23, j24, hB⟩
    refine LinAllG.cons (fun fF bF uF kF hJF hfF hcF hupF hsF hKF => ?_) ?_
    · obtain ⟨j0, j1, j2, j3, j4, j5, j6, j7, j8, j9, j10, j11, j12, j13, j14, j15, j16, j17, j18, j19, j20, j21, j22, j23, j24, hB⟩ := hJF
      obtain ⟨e43, p43⟩ := hsF.at hupF 11 43 (by kernel_rfl) rfl j11
      refine lin_unguard (wanted_of (j := 11) (s := 43) rfl rfl e43) ?_
      dsimp only
      obtain ⟨e44, p44⟩ := hsF.at hupF 12 44 (by kernel_rfl) rfl j12
      refine lin_call rfl 9 [Operand.tmp 44] _ [.agg (arr .u8 ks)] rfl (by simp only [List.map_cons, List.map_nil, e44] <;> rfl) (fun _ _ => by kernel_rfl) ?_
      refine Calls.mono (HPUB.out _) ?_
      rintro e w1 ⟨y8003_0, rfl, r8003_0, hb⟩
      obtain rfl : y8003_0 = z8001 := r8003_0.1.trans HE8001.out.symm
      exact ⟨_, rfl, hKF _ _ ⟨j0, j1, j2, j3, j4, j5, j6, j7, j8, j9, j10, j11, j12, fun _ h => ⟨(Option.some.inj h).symm, r8003_0⟩, j14, j15, j16, j17, j18, j19, j20, j21, j22, j23, j24, hB.kept hb⟩⟩
    refine LinAllG.cons (fun fF bF uF kF hJF hfF hcF hupF hsF hKF => ?_) ?_
    · obtain ⟨j0, j1, j2, j3, j4, j5, j6, j7, j8, j9, j10, j11, j12, j13, j14, j15, j16, j17, j18, j19, j20, j21, j22, j23, j24, hB⟩ := hJF
      obtain ⟨e43, p43⟩ := hsF.at hupF 11 43 (by kernel_rfl) rfl j11
      refine lin_unguard (wanted_of (j := 11) (s := 43) rfl rfl e43) ?_
      dsimp only
      have e8 : bF.eval (.tmp 8) = .pointer (some ⟨g8, 0, none⟩) := hsF.old' 8 (by kernel_rfl) rfl
      have hB' := hB
      refine step_load_part rfl 27 _ rfl (g8) (0) (arr .u8 gs) 27 (0, 0) _ (hB'.get 1 rfl) e8 .u8 gs (arr_part _ _) Try.underlying27 rfl (sig_i HGL.out) ?_
      exact hKF _ _ ⟨j0, j1, j2, j3, j4, j5, j6, j7, j8, j9, j10, j11, j12, j13, fun _ h => ⟨(Option.some.inj h).symm, trivial⟩, j15, j16, j17, j18, j19, j20, j21, j22, j23, j24, hB⟩
    refine LinAllG.cons (fun fF bF uF kF hJF hfF hcF hupF hsF hKF => ?_) ?_
    · obtain ⟨j0, j1, j2, j3, j4, j5, j6, j7, j8, j9, j10, j11, j12, j13, j14, j15, j16, j17, j18, j19, j20, j21, j22, j23, j24, hB⟩ := hJF
      obtain ⟨e43, p43⟩ := hsF.at hupF 11 43 (by kernel_rfl) rfl j11
      refine lin_unguard (wanted_of (j := 11) (s := 43) rfl rfl e43) ?_
      dsimp only
      have e1 : bF.eval (.tmp 1) = .slice sb nb cb := hsF.old' 1 (by kernel_rfl) rfl
      exact lin_pure rfl (.slice sb nb cb) (by simp only [execOp, e1] <;> first | rfl | kernel_rfl | (go_simp; done)) (hKF _ _ ⟨j0, j1, j2, j3, j4, j5, j6, j7, j8, j9, j10, j11, j12, j13, j14, fun _ h => ⟨(Option.some.inj h).symm, trivial⟩, j16, j17, j18, j19, j20, j21, j22, j23, j24, hB⟩)
    refine LinAllG.cons (fun fF bF uF kF hJF hfF hcF hupF hsF hKF => ?_) ?_
    · obtain ⟨j0, j1, j2, j3, j4, j5, j6, j7, j8, j9, j10, j11, j12, j13, j14, j15, j16, j17, j18, j19, j20, j21, j22, j23, j24, hB⟩ := hJF
      obtain ⟨e43, p43⟩ := hsF.at hupF 11 43 (by kernel_rfl) rfl j11
      refine lin_unguard (wanted_of (j := 11) (s := 43) rfl rfl e43) ?_
      dsimp only
      have e2 : bF.eval (.tmp 2) = .int .i64 (I : Int) := hsF.old' 2 (by kernel_rfl) rfl
      exact lin_pure rfl (.int .i64 (I : Int)) (by simp only [execOp, e2] <;> first | rfl | kernel_rfl | (go_simp; done)) (hKF _ _ ⟨j0, j1, j2, j3, j4, j5, j6, j7, j8, j9, j10, j11, j12, j13, j14, j15, fun _ h => ⟨(Option.some.inj h).symm, trivial⟩, j17, j18, j19, j20, j21, j22, j23, j24, hB⟩)
    refine LinAllG.cons (fun fF bF uF kF hJF hfF hcF hupF hsF hKF => ?_) ?_
    · obtain ⟨j0, j1, j2, j3, j4, j5, j6, j7, j8, j9, j10, j11, j12, j13, j14, j15, j16, j17, j18, j19, j20, j21, j22, j23, j24, hB⟩ := hJF
      obtain ⟨e43, p43⟩ := hsF.at hupF 11 43 (by kernel_rfl) rfl j11
      refine lin_unguard (wanted_of (j := 11) (s := 43) rfl rfl e43) ?_
      dsimp only
      obtain ⟨e47, p47⟩ := hsF.at hupF 15 47 (by kernel_rfl) rfl j15
      obtain ⟨e48, p48⟩ := hsF.at hupF 16 48 (by kernel_rfl) rfl j16
      exact lin_pure rfl (.slice s1 I cb) (exec_slice 24 (.tmp 47) none (some (.tmp 48)) rfl _ none (some (.int .i64 (I : Int))) e47 rfl (by rw [Option.map_some, e48]) _ (HR1.out _)) (hKF _ _ ⟨j0, j1, j2, j3, j4, j5, j6, j7, j8, j9, j10, j11, j12, j13, j14, j15, j16, fun _ h => ⟨(Option.some.inj h).symm, trivial⟩, j18, j19, j20, j21, j22, j23, j24, hB⟩)
    refine LinAllG.cons (fun fF bF uF kF hJF hfF hcF hupF hsF hKF => ?_) ?_
    · obtain ⟨j0, j1, j2, j3, j4, j5, j6, j7, j8, j9, j10, j11, j12, j13, j14, j15, j16, j17, j18, j19, j20, j21, j22, j23, j24, hB⟩ := hJF
      obtain ⟨e43, p43⟩ := hsF.at hupF 11 43 (by kernel_rfl) rfl j11
      refine lin_unguard (wanted_of (j := 11) (s := 43) rfl rfl e43) ?_
      dsimp only
      have e1 : bF.eval (.tmp 1) = .slice sb nb cb := hsF.old' 1 (by kernel_rfl) rfl
      exact lin_pure rfl (.slice sb nb cb) (by simp only [execOp, e1] <;> first | rfl | kernel_rfl | (go_simp; done)) (hKF _ _ ⟨j0, j1, j2, j3, j4, j5, j6, j7, j8, j9, j10, j11, j12, j13, j14, j15, j16, j17, fun _ h => ⟨(Option.some.inj h).symm, trivial⟩, j19, j20, j21, j22, j23, j24, hB⟩)
    refine LinAllG.cons (fun fF bF uF kF hJF hfF hcF hupF hsF hKF => ?_) ?_
    · obtain ⟨j0, j1, j2, j3, j4, j5, j6, j7, j8, j9, j10, j11, j12, j13, j14, j15, j16, j17, j18, j19, j20, j21, j22, j23, j24, hB⟩ := hJF
      obtain ⟨e43, p43⟩ := hsF.at hupF 11 43 (by kernel_rfl) rfl j11
      refine lin_unguard (wanted_of (j := 11) (s := 43) rfl rfl e43) ?_
      dsimp only
      have e2 : bF.eval (.tmp 2) = .int .i64 (I : Int) := hsF.old' 2 (by kernel_rfl) rfl
      exact lin_pure rfl (.int .i64 (I : Int)) (by simp only [execOp, e2] <;> first | rfl | kernel_rfl | (go_simp; done)) (hKF _ _ ⟨j0, j1, j2, j3, j4, j5, j6, j7, j8, j9, j10, j11, j12, j13, j14, j15, j16, j17, j18, fun _ h => ⟨(Option.some.inj h).symm, trivial⟩, j20, j21, j22, j23, j24, hB⟩)
    refine LinAllG.cons (fun fF bF uF kF hJF hfF hcF hupF hsF hKF => ?_) ?_
    · obtain ⟨j0, j1, j2, j3, j4, j5, j6, j7, j8, j9, j10, j11, j12, j13, j14, j15, j16, j17, j18, j19, j20, j21, j22, j23, j24, hB⟩ := hJF
      obtain ⟨e43, p43⟩ := hsF.at hupF 11 43 (by kernel_rfl) rfl j11
      refine lin_unguard (wanted_of (j := 11) (s := 43) rfl rfl e43) ?_
      dsimp only
      obtain ⟨e50, p50⟩ := hsF.at hupF 18 50 (by kernel_rfl) rfl j18
      obtain ⟨e51, p51⟩ := hsF.at hupF 19 51 (by kernel_rfl) rfl j19
      exact lin_pure rfl (.slice s2 m c2) (exec_slice 24 (.tmp 50) (some (.tmp 51)) none rfl _ (some (.int .i64 (I : Int))) none e50 (by rw [Option.map_some, e51]) rfl _ (HR2.out _)) (hKF _ _ ⟨j0, j1, j2, j3, j4, j5, j6, j7, j8, j9, j10, j11, j12, j13, j14, j15, j16, j17, j18, j19, fun _ h => ⟨(Option.some.inj h).symm, trivial⟩, j21, j22, j23, j24, hB⟩)
    refine LinAllG.cons (fun fF bF uF kF hJF hfF hcF hupF hsF hKF => ?_) ?_
    · obtain ⟨j0, j1, j2, j3, j4, j5, j6, j7, j8, j9, j10, j11, j12, j13, j14, j15, j16, j17, j18, j19, j20, j21, j22, j23, j24, hB⟩ := hJF
      obtain ⟨e43, p43⟩ := hsF.at hupF 11 43 (by kernel_rfl) rfl j11
      refine lin_unguard (wanted_of (j := 11) (s := 43) rfl rfl e43) ?_
      dsimp only
      obtain ⟨e49, p49⟩ := hsF.at hupF 17 49 (by kernel_rfl) rfl j17
      obtain ⟨e52, p52⟩ := hsF.at hupF 20 52 (by kernel_rfl) rfl j20
      have hB1 : Blk w (uF.alloc (.cells #[.slice s1 I cb, .slice none 0 0, .slice s2 m c2] 24)) ([(w.heap.size, arr .u8 ks, 23), (g8, arr .u8 gs, 27)] ++ (ent (fF 8) (#[.slice s1 I cb, .slice s2 m c2]) 24 ++ (ent ((some (.slice (some ⟨uF.heap.size, 0, none⟩) 3 3) : Option Value)) (#[.slice s1 I cb, .slice none 0 0, .slice s2 m c2]) 24))) := hB.ins (a := [(w.heap.size, arr .u8 ks, 23), (g8, arr .u8 gs, 27)] ++ ent (fF 8) (#[.slice s1 I cb, .slice s2 m c2]) 24) (b := []) _ _ (by rw [hfF]; simp only [ent_none, List.nil_append, List.append_nil, List.append_assoc, List.cons_append]) (by simp only [ent_slice, List.nil_append, List.append_nil, List.append_assoc, List.cons_append, Option.isSome_none, Bool.false_eq_true, if_false])
      rw [if_pos (by simp [Region.wanted])]
      unfold Oper.wp
      simp only [execOp, List.map_toArray, List.map_cons, List.map_nil, e49, e52]
      generalize hX : Sem.run Try.prog _ uF = X
      have hrun : X = .ok (.value (.slice (some ⟨uF.heap.size, 0, none⟩) 3 3)) (uF.alloc (.cells #[.slice s1 I cb, .slice none 0 0, .slice s2 m c2] 24)) := by
        rw [← hX]
        first | rfl | kernel_rfl
      rw [hrun]
      exact hKF _ _ ⟨j0, j1, j2, j3, j4, j5, j6, j7, j8, j9, j10, j11, j12, j13, j14, j15, j16, j17, j18, j19, j20, fun _ h => ⟨_, (Option.some.inj h).symm⟩, j22, j23, j24, hB1⟩
    refine LinAllG.cons (fun fF bF uF kF hJF hfF hcF hupF hsF hKF => ?_) ?_
    · obtain ⟨j0, j1, j2, j3, j4, j5, j6, j7, j8, j9, j10, j11, j12, j13, j14, j15, j16, j17, j18, j19, j20, j21, j22, j23, j24, hB⟩ := hJF
      obtain ⟨e43, p43⟩ := hsF.at hupF 11 43 (by kernel_rfl) rfl j11
      refine lin_unguard (wanted_of (j := 11) (s := 43) rfl rfl e43) ?_
      dsimp only
      obtain ⟨e45, p45⟩ := hsF.at hupF 13 45 (by kernel_rfl) rfl j13
      obtain ⟨e46, p46⟩ := hsF.at hupF 14 46 (by kernel_rfl) rfl j14
      have y21 := hupF 21 (by kernel_rfl)
      obtain ⟨v21, s21⟩ := Option.isSome_iff_exists.1 y21
      obtain ⟨gm5_3, rfl⟩ := j21 _ s21
      have e53 := hsF.val 21 53 rfl s21
      have y13 := hupF 13 (by kernel_rfl)
      obtain ⟨v13, s13⟩ := Option.isSome_iff_exists.1 y13
      have HZ8001 := Lib.hid (j13 _ s13).2
      have y11 := hupF 11 (by kernel_rfl)
      have y9 := hcF.up 11 9 (by kernel_rfl) y11
      have y8 := hcF.up 9 8 (by kernel_rfl) y9
      obtain ⟨v8, s8⟩ := Option.isSome_iff_exists.1 y8
      obtain ⟨gm5_2, rfl⟩ := j8 _ s8
      have hB' := hB
      rw [s8, s21] at hB'
      have hsl := HSL2.out _ _ _ _ (hB'.get 3 rfl) (HSB.out.below hB.below)
      refine lin_call rfl 10 [Operand.tmp 45, Operand.tmp 46, Operand.tmp 53] _ [.agg (arr .u8 z8001), .agg (arr .u8 gs), .slice (some ⟨gm5_3, 0, none⟩) 3 3] rfl (by simp only [List.map_cons, List.map_nil, e45, e46, e53] <;> rfl) (fun _ _ => by kernel_rfl) ?_
      refine Calls.mono (HV.out _ _ _ HZ8001.out hsl) ?_
      rintro e w1 ⟨rfl, hb⟩
      exact ⟨_, rfl, hKF _ _ ⟨j0, j1, j2, j3, j4, j5, j6, j7, j8, j9, j10, j11, j12, j13, j14, j15, j16, j17, j18, j19, j20, j21, fun _ h => ⟨(Option.some.inj h).symm, trivial⟩, j23, j24, hB.kept hb⟩⟩
    refine LinAllG.cons (fun fF bF uF kF hJF hfF hcF hupF hsF hKF => ?_) ?_
    · obtain ⟨j0, j1, j2, j3, j4, j5, j6, j7, j8, j9, j10, j11, j12, j13, j14, j15, j16, j17, j18, j19, j20, j21, j22, j23, j24, hB⟩ := hJF
      obtain ⟨e43, p43⟩ := hsF.at hupF 11 43 (by kernel_rfl) rfl j11
      obtain ⟨e54, p54⟩ := hsF.at hupF 22 54 (by kernel_rfl) rfl j22
      exact lin_pure rfl (.bool true) (by simp only [execOp, e43, e54]; first | rfl | (go_simp; done)) (hKF _ _ ⟨j0, j1, j2, j3, j4, j5, j6, j7, j8, j9, j10, j11, j12, j13, j14, j15, j16, j17, j18, j19, j20, j21, j22, fun _ h => ⟨(Option.some.inj h).symm, trivial⟩, j24, hB⟩)
    refine LinAllG.cons (fun fF bF uF kF hJF hfF hcF hupF hsF hKF => ?_) ?_
    · obtain ⟨j0, j1, j2, j3, j4, j5, j6, j7, j8, j9, j10, j11, j12, j13, j14, j15, j16, j17, j18, j19, j20, j21, j22, j23, j24, hB⟩ := hJF
      obtain ⟨e55, p55⟩ := hsF.at hupF 23 55 (by kernel_rfl) rfl j23
      exact lin_pure rfl (.bool true) (by simp only [execOp, e55] <;> first | rfl | kernel_rfl | (go_simp; done)) (hKF _ _ ⟨j0, j1, j2, j3, j4, j5, j6, j7, j8, j9, j10, j11, j12, j13, j14, j15, j16, j17, j18, j19, j20, j21, j22, j23, fun _ h => ⟨(Option.some.inj h).symm, trivial⟩, hB⟩)
    exact LinAllG.nil
  case em5 =>
  intro fF um5 hall hJF
  obtain ⟨j0, j1, j2, j3, j4, j5, j6, j7, j8, j9, j10, j11, j12, j13, j14, j15, j16, j17, j18, j19, j20, j21, j22, j23, j24, hB⟩ := hJF
  obtain ⟨v0, h0⟩ := Option.isSome_iff_exists.1 (hall 0 (by decide))
  obtain ⟨rfl, p0⟩ := j0 _ h0
  obtain ⟨v1, h1⟩ := Option.isSome_iff_exists.1 (hall 1 (by decide))
  obtain ⟨rfl, p1⟩ := j1 _ h1
  obtain ⟨v2, h2⟩ := Option.isSome_iff_exists.1 (hall 2 (by decide))
  obtain ⟨rfl, p2⟩ := j2 _ h2
  obtain ⟨v3, h3⟩ := Option.isSome_iff_exists.1 (hall 3 (by decide))
  obtain ⟨rfl, p3⟩ := j3 _ h3
  obtain ⟨v4, h4⟩ := Option.isSome_iff_exists.1 (hall 4 (by decide))
  obtain ⟨rfl, p4⟩ := j4 _ h4
  obtain ⟨v5, h5⟩ := Option.isSome_iff_exists.1 (hall 5 (by decide))
  obtain ⟨rfl, p5⟩ := j5 _ h5
  obtain ⟨v6, h6⟩ := Option.isSome_iff_exists.1 (hall 6 (by decide))
  obtain ⟨rfl, p6⟩ := j6 _ h6
  obtain ⟨v7, h7⟩ := Option.isSome_iff_exists.1 (hall 7 (by decide))
  obtain ⟨rfl, p7⟩ := j7 _ h7
  obtain ⟨v8, h8⟩ := Option.isSome_iff_exists.1 (hall 8 (by decide))
  obtain ⟨gm5_2, rfl⟩ := j8 _ h8
  obtain ⟨v9, h9⟩ := Option.isSome_iff_exists.1 (hall 9 (by decide))
  obtain ⟨rfl, p9⟩ := j9 _ h9
  obtain ⟨v10, h10⟩ := Option.isSome_iff_exists.1 (hall 10 (by decide))
  obtain ⟨rfl, p10⟩ := j10 _ h10
  obtain ⟨v11, h11⟩ := Option.isSome_iff_exists.1 (hall 11 (by decide))
  obtain ⟨rfl, p11⟩ := j11 _ h11
  obtain ⟨v12, h12⟩ := Option.isSome_iff_exists.1 (hall 12 (by decide))
  obtain ⟨rfl, p12⟩ := j12 _ h12
  obtain ⟨v13, h13⟩ := Option.isSome_iff_exists.1 (hall 13 (by decide))
  obtain ⟨rfl, p13⟩ := j13 _ h13
  obtain ⟨v14, h14⟩ := Option.isSome_iff_exists.1 (hall 14 (by decide))
  obtain ⟨rfl, p14⟩ := j14 _ h14
  obtain ⟨v15, h15⟩ := Option.isSome_iff_exists.1 (hall 15 (by decide))
  obtain ⟨rfl, p15⟩ := j15 _ h15
  obtain ⟨v16, h16⟩ := Option.isSome_iff_exists.1 (hall 16 (by decide))
  obtain ⟨rfl, p16⟩ := j16 _ h16
  obtain ⟨v17, h17⟩ := Option.isSome_iff_exists.1 (hall 17 (by decide))
  obtain ⟨rfl, p17⟩ := j17 _ h17
  obtain ⟨v18, h18⟩ := Option.isSome_iff_exists.1 (hall 18 (by decide))
  obtain ⟨rfl, p18⟩ := j18 _ h18
  obtain ⟨v19, h19⟩ := Option.isSome_iff_exists.1 (hall 19 (by decide))
  obtain ⟨rfl, p19⟩ := j19 _ h19
  obtain ⟨v20, h20⟩ := Option.isSome_iff_exists.1 (hall 20 (by decide))
  obtain ⟨rfl, p20⟩ := j20 _ h20
  obtain ⟨v21, h21⟩ := Option.isSome_iff_exists.1 (hall 21 (by decide))
  obtain ⟨gm5_3, rfl⟩ := j21 _ h21
  obtain ⟨v22, h22⟩ := Option.isSome_iff_exists.1 (hall 22 (by decide))
  obtain ⟨rfl, p22⟩ := j22 _ h22
  obtain ⟨v23, h23⟩ := Option.isSome_iff_exists.1 (hall 23 (by decide))
  obtain ⟨rfl, p23⟩ := j23 _ h23
  obtain ⟨v24, h24⟩ := Option.isSome_iff_exists.1 (hall 24 (by decide))
  obtain ⟨rfl, p24⟩ := j24 _ h24
  rw [h8, h21] at hB
  have HBm5 : Hid (Blk w um5 [(w.heap.size, arr .u8 ks, 23), (g8, arr .u8 gs, 27), (gm5_2, #[.slice s1 I cb, .slice s2 m c2], 24), (gm5_3, #[.slice s1 I cb, .slice none 0 0, .slice s2 m c2], 24)]) := Lib.hid hB
  have HZ8001 := Lib.hid p13
  simp only [laid, Nat.zero_add, Nat.reduceAdd, h0, h1, h2, h3, h4, h5, h6, h7, h8, h9, h10, h11, h12, h13, h14, h15, h16, h17, h18, h19, h20, h21, h22, h23, h24, Act.put, List.setIfInBounds_toArray, List.set_cons_zero, List.set_cons_succ]
  clear j0 j1 j2 j3 j4 j5 j6 j7 j8 j9 j10 j11 j12 j13 j14 j15 j16 j17 j18 j19 j20 j21 j22 j23 j24 hB h0 h1 h2 h3 h4 h5 h6 h7 h8 h9 h10 h11 h12 h13 h14 h15 h16 h17 h18 h19 h20 h21 h22 h23 h24 hall fF HI4
  clear p0 p1 p2 p3 p4 p5 p6 p7 p9 p10 p11 p12 p13 p14 p15 p16 p17 p18 p19 p20 p22 p23 p24
  (try simp only [Exit.then])
  go_wp2_with fail
  (try simp only [Exit.then])
  go_ret
  exact ⟨rfl, HBm5.out.below⟩

theorem rowI_nil {w : World} {a : Option Addr} {len cap : Nat} {zs : List Int} (h : RowI .u8 w a len cap zs) : a = none → cap = 0 := by
  rcases h with ⟨rfl, rfl, rfl, rfl⟩ | ⟨x, rfl, hl, hm, hz, hc, hw⟩
  · exact fun _ => rfl
  · intro h
    cases h
theorem cuts_any {ks bs : List Int} (a : Nat) (i : Int) (sb : Option Addr) (nb cb : Nat) (w : World) (hk : K32 ks a) (hs : Src w sb nb bs) (hc : nb ≤ cb) (hz : sb = none → cb = 0) (hb : bytes bs) :
    Calls Try.prog 4 #[.agg (arr .u8 ks), .slice sb nb cb, .int .i64 i] w fun e w' => e = .returned (.bool true) ∧ Below w.heap.size w w' := by
  by_cases h1 : (300 : Int) < (nb : Int)
  · exact cuts_long sb nb cb i w h1
  by_cases h2 : i < 0
  · exact cuts_neg sb nb cb i w h1 h2
  by_cases h3 : (nb : Int) < i
  · exact cuts_over sb nb cb i w h1 h2 h3
  obtain ⟨I, rfl⟩ : ∃ I : Nat, i = (I : Int) := ⟨i.toNat, by omega⟩
  have hI : I ≤ nb := by omega
  cases sb with
  | none =>
    obtain rfl := hz rfl
    obtain rfl : nb = 0 := by omega
    obtain rfl : I = 0 := by omega
    have hbs : bs = [] := List.eq_nil_of_length_eq_zero hs.len
    subst hbs
    exact cuts_core a 0 none none none 0 0 w hk hs hc hb hI (by decide) (fun u => by kernel_rfl) (fun u => by kernel_rfl) (fun u h => h) (fun u h => h)
  | some ad =>
    have hr1 : ∀ u, (Instr.sliceAt 24 (.slice (some ad) nb cb) none (some (.int .i64 (I : Int))) none).run Try.prog u = .ok (.slice (some ad) I cb) u := fun u => run_slice_to u ad nb cb I (by omega)
    have hr2 : ∀ u, (Instr.sliceAt 24 (.slice (some ad) nb cb) (some (.int .i64 (I : Int))) none none).run Try.prog u = .ok (.slice (if cb = I then some ad else some (ad.add I)) (nb - I) (cb - I)) u := fun u => run_slice_from u ad nb cb I hI hc
    refine cuts_core a I (some ad) _ _ nb cb w hk hs hc hb hI (by omega) hr1 hr2 (fun u h => src_take h I hI) (fun u h => ?_)
    have h5 := src_if h cb I (nb - I) hc (by omega)
    rwa [List.take_of_length_le (by rw [List.length_drop, h.len]; exact Nat.le_refl _)] at h5
end Go.Proofs.Ytanjhngehfbpbaa.Sl
