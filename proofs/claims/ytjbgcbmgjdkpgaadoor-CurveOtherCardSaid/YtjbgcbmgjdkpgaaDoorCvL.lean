/- CurveOther: it answers true. Condition: the document's tables hold what their text lays. -/
import Derived.Test.YtjbgcbmgjdkpgaaDoorCvI
import Derived.Test.YtjbgcbmgjdkpgaaDoorRvB
import Derived.Test.YtjbgcbmgjdkpgaaDoorOpen
namespace Go.Proofs.YtjbgcbmgjdkpgaaDoor.Sl
open Go.RowKit Lm Fp Cu Rd Sc
set_option linter.unusedSimpArgs false
set_option linter.unusedVariables false
set_option linter.unusedSimpArgs false
set_option linter.unusedVariables false

theorem rowI_src {w : World} {a : Option Addr} {len cap : Nat} {zs : List Int} (h : RowI .u8 w a len cap zs) : Src w a len (zs.take len) ∧ bytes (zs.take len) ∧ len ≤ cap := by
  rcases h with ⟨rfl, rfl, rfl, rfl⟩ | ⟨x, rfl, hl, hm, hz, hc, hw⟩
  · exact ⟨⟨rfl, fun i hi => absurd hi (by omega)⟩, fun x hx => by simp at hx, Nat.le_refl _⟩
  · refine ⟨⟨by simp; omega, fun i hi => ⟨x, rfl, ?_⟩⟩, fun y hy => wf_u8 (hw y (List.mem_of_mem_take hy)), hl⟩
    rw [hc i (by omega)]
    simp [List.getD, hi]
structure Tabs (w : World) : Prop where
  d : TabD w
  i : TabI w
  x : TabX w
  y : TabY w
  q : TabQ w
  k : Hb.TabK w
theorem Tabs.below {a b : World} (h : Tabs a) (k : Below a.heap.size a b) : Tabs b := ⟨range_below h.d k, range_below h.i k, range_below h.x k, range_below h.y k, h.q.below k, tabk_below h.k k⟩
theorem srcL_new {w : World} {sb : Option Addr} {nb cb : Nat} {bs : List Int} (h : Src w sb nb bs) (hc : nb ≤ cb) : SrcL (w.alloc (.cells #[.slice sb nb cb] 26)) (some ⟨w.heap.size, 0, none⟩) 1 [bs] := csrcL_one h hc
theorem src_mk {w : World} {g : Nat} {t : TypeId} {fr : Nat × Nat} {sb : Option Addr} {nb cb : Nat} {bs : List Int} (h : w.heap[g]? = some (.cells #[.slice sb nb cb] t fr)) (h1 : Src w sb nb bs) (hc : nb ≤ cb) : SrcL w (some ⟨g, 0, none⟩) 1 [bs] := by
  have e := h1.len
  subst e
  refine ⟨rfl, fun i hi => ?_⟩
  obtain rfl : i = 0 := by omega
  exact ⟨_, sb, cb, rfl, by rw [show (⟨g, 0, none⟩ : Addr).add 0 = ⟨g, 0, none⟩ from rfl, cell_blk h]; rfl, hc, h1⟩

set_option maxRecDepth 100000 in
set_option maxHeartbeats 16000000 in
theorem other_any {xs ys bs : List Int} (a b : Nat) (sb : Option Addr) (nb cb : Nat) (w : World) (hx : K32 xs a) (hy : K32 ys b) (hs : Src w sb nb bs) (hc : nb ≤ cb) (hb : bytes bs) (hT : Tabs w) :
    Calls Tryd.prog 6 #[.agg (arr .u8 xs), .agg (arr .u8 ys), .slice sb nb cb] w fun e w' => e = .returned (.bool true) ∧ Below w.heap.size w w' := by
  have hal := fun w => alive13_any w
  by_cases hnb : nb ≤ 300
  rotate_left
  · have HAL := Lib.hid hal
    have hgt : (300 : Int) < (nb : Int) := by omega
    have HS0 := Lib.hid (Blk.two w (arr .u8 xs) (arr .u8 ys) 23 23)
    clear hal hnb
    go_enter Tryd.func6, Tryd.ntmps6
    go_wp2_with (first | ((with_reducible show Calls _ 9 _ _ _); go_at_call 9; refine (HAL.out _).mono ?_; rintro e w1 ⟨rfl, hb1⟩; have HI1 := Lib.hid (HS0.out.kept hb1); clear hb1))
    (try simp only [Exit.then])
    go_ret
    exact ⟨rfl, HI1.out.below⟩
  have hgt : ¬ ((300 : Int) < (nb : Int)) := by omega
  have hl := hs.len
  have hflat : ([bs] : List (List Int)).flatten = bs := by simp
  have hlb : ∀ l ∈ ([bs] : List (List Int)), bytes l := by intro l h; simp only [List.mem_singleton] at h; subst h; exact hb
  have hsg := fun (u : World) (g : Nat) (h : SrcL u (some ⟨g, 0, none⟩) 1 [bs]) => csign_any a (some ⟨g, 0, none⟩) 1 1 [bs] u hx h hlb (by rw [hflat, hl]; omega) (by decide)
  rw [hflat] at hsg
  have hgl := esign_len a bs
  have hgb := esign_bytes a bs
  have hpb := fun (u : World) => cpublic_any b u hy
  obtain ⟨PB, hPB⟩ : ∃ p, p = epub b := ⟨_, rfl⟩
  have hPBl : PB < 2 ^ 256 := by rw [hPB, show (2 : Nat) ^ 256 = 256 ^ 32 by decide]; exact epub_lt b
  rw [← hPB] at hpb
  obtain ⟨gs, hgs⟩ : ∃ g, g = esign a bs := ⟨_, rfl⟩
  rw [← hgs] at hsg hgl hgb
  have hv1 := fun (u : World) (g : Nat) (zs : List Int) (h0 : K32 zs PB) (h : SrcL u (some ⟨g, 0, none⟩) 1 [bs]) => cverify_any PB (some ⟨g, 0, none⟩) 1 1 [bs] u h0 hgl hgb h hlb (by rw [hflat, hl]; omega) (by decide)
  rw [hflat] at hv1
  have hv2 : ∀ (u : World) (zs : List Int), K32 zs PB → Src u sb nb bs → Tabs u → Calls Tryd.prog 11 #[.agg (arr .u8 zs), .agg (arr .u8 gs), .slice sb nb cb] u fun e w' => e = .returned (.bool (everify PB (hnum (gs.take 32)) (hnum (gs.drop 32)) bs)) ∧ Below u.heap.size u w' := by
    rintro u zs ⟨rfl, h0⟩ h1 h2
    exact rverify_any PB sb nb cb u hPBl hgl hgb h1 hc hb (by omega) h2.d h2.i h2.x h2.y h2.q h2.k
  obtain ⟨ev, hev⟩ : ∃ e, e = everify PB (hnum (gs.take 32)) (hnum (gs.drop 32)) bs := ⟨_, rfl⟩
  rw [← hev] at hv1 hv2
  have HAL := Lib.hid hal
  have HSG := Lib.hid hsg
  have HPUB := Lib.hid hpb
  have HV1 := Lib.hid hv1
  have HV2 := Lib.hid hv2
  have HGL := Lib.hid hgl
  have HX := Lib.hid hx
  have HXL := Lib.hid hx.len
  have HY := Lib.hid hy
  have HYL := Lib.hid hy.len
  have HSB := Lib.hid hs
  have HC := Lib.hid hc
  have HT := Lib.hid hT
  obtain ⟨zn, hzn⟩ : ∃ zs : List Int, zs = List.replicate 32 0 := ⟨_, rfl⟩
  have HZzn : Hid (∀ w, (zeroValue 23).run Tryd.prog w = .ok (.agg (arr .u8 zn)) w) := Lib.hid (by intro w; rw [hzn]; exact zero_num w)
  have HLzn : Hid (zn.length = 32) := Lib.hid (by rw [hzn]; rfl)
  obtain ⟨zs64, hzs64⟩ : ∃ zs : List Int, zs = List.replicate 64 0 := ⟨_, rfl⟩
  have HZzs64 : Hid (∀ w, (zeroValue 25).run Tryd.prog w = .ok (.agg (arr .u8 zs64)) w) := Lib.hid (by intro w; rw [hzs64]; exact zero_sig w)
  have HLzs64 : Hid (zs64.length = 64) := Lib.hid (by rw [hzs64]; rfl)
  have HS0 := Lib.hid (Blk.two w (arr .u8 xs) (arr .u8 ys) 23 23)
  clear hzn hzs64 hal hnb hl hflat hlb hsg hgl hgb hpb hPB hPBl hgs hv1 hv2 hev hx hy hs hc hb hT
  go_enter Tryd.func6, Tryd.ntmps6
  go_upto_region 4 with (first | ((with_reducible show Calls _ 9 _ _ _); go_at_call 9; refine (HAL.out _).mono ?_; rintro e w1 ⟨rfl, hb1⟩; have HI1 := Lib.hid (HS0.out.kept hb1); clear hb1))
  (try simp only [World.size_alloc, Act.put, sA, sZ, sS])
  go_upto_region 5 with (first | ((with_reducible refine aS 19 ?_); refine wpList_load_part rfl 23 _ rfl (w.heap.size) 0 _ 23 (0, 0) _ (HI1.out.get 0 rfl) rfl .u8 xs (arr_part _ _) Tryd.underlying23 rfl (num_i HXL.out) ?_) | ((with_reducible show Calls _ 16 _ _ _); go_at_call 16; refine (HSG.out _ _ (srcL_new (HSB.out.below HI1.out.below) HC.out)).mono ?_; rintro e w2 ⟨rfl, hb2⟩; have HI2 := Lib.hid (HI1.out.kept (below_new hb2)); clear hb2) | ((with_reducible refine aS 8 ?_); refine wpList_alloc_row rfl 25 rfl _ (HZzs64.out _) ?_; have HI3 := Lib.hid (HI2.out.alloc (arr .u8 zs64) 25); generalize w2.heap.size = g8 at HI3 ⊢; generalize w2.alloc (.cells (arr .u8 zs64) 25) = w3 at HI3 ⊢) | ((with_reducible refine aT 8 ?_); refine wpList_store_whole rfl 25 _ _ rfl (g8) _ _ 25 (HI3.out.get 2 rfl) rfl rfl (arr_len2 _ _ HGL.out HLzs64.out) (sig_s HGL.out) (all_arr _ _) ?_; intro w4 hb4 hk4 hz4; have HI4 := Lib.hid (HI3.out.put 2 rfl hk4 hb4); clear hb4 hk4 hz4))
  (try simp only [World.size_alloc, Act.put, sA, sZ, sS])
  go_upto_region 6 with (first | ((with_reducible refine aS 23 ?_); refine wpList_load_part rfl 23 _ rfl (w.heap.size + 1) 0 _ 23 (0, 0) _ (HI4.out.get 1 rfl) rfl .u8 ys (arr_part _ _) Tryd.underlying23 rfl (num_i HYL.out) ?_) | ((with_reducible show Calls _ 17 _ _ _); go_at_call 17; refine (HPUB.out _).mono ?_; rintro e w5 ⟨z5, rfl, h5, hb5⟩; have HZ5 := Lib.hid h5; have HL5 := Lib.hid h5.len; have HI5 := Lib.hid (HI4.out.kept hb5); clear h5 hb5) | ((with_reducible refine aS 9 ?_); refine wpList_alloc_row rfl 23 rfl _ (HZzn.out _) ?_; have HI6 := Lib.hid (HI5.out.alloc (arr .u8 zn) 23); generalize w5.heap.size = g9 at HI6 ⊢; generalize w5.alloc (.cells (arr .u8 zn) 23) = w6 at HI6 ⊢) | ((with_reducible refine aT 9 ?_); refine wpList_store_whole rfl 23 _ _ rfl (g9) _ _ 23 (HI6.out.get 3 rfl) rfl rfl (arr_len2 _ _ HL5.out HLzn.out) (num_s HL5.out) (all_arr _ _) ?_; intro w7 hb7 hk7 hz7; have HI7 := Lib.hid (HI6.out.put 3 rfl hk7 hb7); clear hb7 hk7 hz7))
  (try simp only [World.size_alloc, Act.put, sA, sZ, sS])
  refine wp_region_lin (fun (fF : Fill) (uF : World) => (∀ v, fF 0 = some v → v = .agg (arr .u8 z5) ∧ True) ∧ (∀ v, fF 1 = some v → v = .agg (arr .u8 gs) ∧ True) ∧ (∀ v, fF 2 = some v → v = .slice sb nb cb ∧ True) ∧ (∀ v, fF 3 = some v → ∃ g : Nat, v = .slice (some ⟨g, 0, none⟩) 1 1) ∧ (∀ v, fF 4 = some v → v = .bool ev ∧ True) ∧ (∀ v, fF 5 = some v → v = .agg (arr .u8 z5) ∧ True) ∧ (∀ v, fF 6 = some v → v = .agg (arr .u8 gs) ∧ True) ∧ (∀ v, fF 7 = some v → v = .slice sb nb cb ∧ True) ∧ (∀ v, fF 8 = some v → v = .bool ev ∧ True) ∧ (∀ v, fF 9 = some v → v = .bool true ∧ True) ∧ (∀ v, fF 10 = some v → v = .bool true ∧ True) ∧ Blk w uF ([(w.heap.size, arr .u8 xs, 23), (w.heap.size + 1, arr .u8 ys, 23), (g8, arr .u8 gs, 25), (g9, arr .u8 z5, 23)] ++ (ent (fF 3) (#[.slice sb nb cb]) 26))) (by kernel_rfl) (by kernel_rfl) ?zo6 ?so6 ?eo6
  case zo6 => exact ⟨fun _ h => (by cases h), fun _ h => (by cases h), fun _ h => (by cases h), fun _ h => (by cases h), fun _ h => (by cases h), fun _ h => (by cases h), fun _ h => (by cases h), fun _ h => (by cases h), fun _ h => (by cases h), fun _ h => (by cases h), fun _ h => (by cases h), HI7.out.drew⟩
  case so6 =>
    refine LinAll.cons (fun fF bF uF kF hJF hfF hcF hupF hsF hKF => ?_) ?_
    · obtain ⟨j0, j1, j2, j3, j4, j5, j6, j7, j8, j9, j10, hB⟩ := hJF
      have e9 : bF.eval (.tmp 9) = .pointer (some ⟨g9, 0, none⟩) := hsF.old' 9 (by kernel_rfl) rfl
      have hB' := hB
      refine step_load_part rfl 23 _ rfl (g9) (0) (arr .u8 z5) 23 (0, 0) _ (hB'.get 3 rfl) e9 .u8 z5 (arr_part _ _) Tryd.underlying23 rfl (num_i HL5.out) ?_
      exact hKF _ _ ⟨fun _ h => ⟨sI h, trivial⟩, j1, j2, j3, j4, j5, j6, j7, j8, j9, j10, hB⟩
    refine LinAll.cons (fun fF bF uF kF hJF hfF hcF hupF hsF hKF => ?_) ?_
    · obtain ⟨j0, j1, j2, j3, j4, j5, j6, j7, j8, j9, j10, hB⟩ := hJF
      have e8 : bF.eval (.tmp 8) = .pointer (some ⟨g8, 0, none⟩) := hsF.old' 8 (by kernel_rfl) rfl
      have hB' := hB
      refine step_load_part rfl 25 _ rfl (g8) (0) (arr .u8 gs) 25 (0, 0) _ (hB'.get 2 rfl) e8 .u8 gs (arr_part _ _) Tryd.underlying25 rfl (sig_i HGL.out) ?_
      exact hKF _ _ ⟨j0, fun _ h => ⟨sI h, trivial⟩, j2, j3, j4, j5, j6, j7, j8, j9, j10, hB⟩
    refine LinAll.cons (fun fF bF uF kF hJF hfF hcF hupF hsF hKF => ?_) ?_
    · obtain ⟨j0, j1, j2, j3, j4, j5, j6, j7, j8, j9, j10, hB⟩ := hJF
      have e2 : bF.eval (.tmp 2) = .slice sb nb cb := hsF.old' 2 (by kernel_rfl) rfl
      exact lin_pure rfl (.slice sb nb cb) (by simp only [execOp, e2] <;> first | rfl | kernel_rfl | (go_simp; done)) (hKF _ _ ⟨j0, j1, fun _ h => ⟨sI h, trivial⟩, j3, j4, j5, j6, j7, j8, j9, j10, hB⟩)
    refine LinAll.cons (fun fF bF uF kF hJF hfF hcF hupF hsF hKF => ?_) ?_
    · obtain ⟨j0, j1, j2, j3, j4, j5, j6, j7, j8, j9, j10, hB⟩ := hJF
      obtain ⟨e27, p27⟩ := hsF.at hupF 2 27 (by kernel_rfl) rfl j2
      have hB1 : Blk w (uF.alloc (.cells #[.slice sb nb cb] 26)) ([(w.heap.size, arr .u8 xs, 23), (w.heap.size + 1, arr .u8 ys, 23), (g8, arr .u8 gs, 25), (g9, arr .u8 z5, 23)] ++ (ent ((some (.slice (some ⟨uF.heap.size, 0, none⟩) 1 1) : Option Value)) (#[.slice sb nb cb]) 26)) := hB.ins (a := [(w.heap.size, arr .u8 xs, 23), (w.heap.size + 1, arr .u8 ys, 23), (g8, arr .u8 gs, 25), (g9, arr .u8 z5, 23)]) (b := []) _ _ (by rw [hfF]; simp only [ent_none, List.nil_append, List.append_nil, List.append_assoc, List.cons_append]) (by simp only [ent_slice, List.nil_append, List.append_nil, List.append_assoc, List.cons_append, Option.isSome_none, Bool.false_eq_true, if_false])
      rw [if_pos (by simp [Region.wanted])]
      unfold Oper.wp
      simp only [execOp, List.map_toArray, List.map_cons, List.map_nil, e27]
      go_simp
      exact hKF _ _ ⟨j0, j1, j2, fun _ h => ⟨_, sI h⟩, j4, j5, j6, j7, j8, j9, j10, hB1⟩
    refine LinAll.cons (fun fF bF uF kF hJF hfF hcF hupF hsF hKF => ?_) ?_
    · obtain ⟨j0, j1, j2, j3, j4, j5, j6, j7, j8, j9, j10, hB⟩ := hJF
      obtain ⟨e25, p25⟩ := hsF.at hupF 0 25 (by kernel_rfl) rfl j0
      obtain ⟨e26, p26⟩ := hsF.at hupF 1 26 (by kernel_rfl) rfl j1
      have y3 := hupF 3 (by kernel_rfl)
      obtain ⟨v3, s3⟩ := sE y3
      obtain ⟨go6_4, rfl⟩ := j3 _ s3
      have e28 := hsF.val 3 28 rfl s3
      have hB' := hB
      rw [s3] at hB'
      have hsl := src_mk (hB'.get 4 rfl) (HSB.out.below hB.below) HC.out
      refine lin_call rfl 10 [Operand.tmp 25, Operand.tmp 26, Operand.tmp 28] _ [.agg (arr .u8 z5), .agg (arr .u8 gs), .slice (some ⟨go6_4, 0, none⟩) 1 1] rfl (by simp only [List.map_cons, List.map_nil, e25, e26, e28] <;> rfl) (fun _ _ => by kernel_rfl) ?_
      refine Calls.mono (HV1.out _ _ _ HZ5.out hsl) ?_
      rintro e w1 ⟨rfl, hb⟩
      exact ⟨_, rfl, hKF _ _ ⟨j0, j1, j2, j3, fun _ h => ⟨sI h, trivial⟩, j5, j6, j7, j8, j9, j10, hB.kept hb⟩⟩
    refine LinAll.cons (fun fF bF uF kF hJF hfF hcF hupF hsF hKF => ?_) ?_
    · obtain ⟨j0, j1, j2, j3, j4, j5, j6, j7, j8, j9, j10, hB⟩ := hJF
      have e9 : bF.eval (.tmp 9) = .pointer (some ⟨g9, 0, none⟩) := hsF.old' 9 (by kernel_rfl) rfl
      have hB' := hB
      refine step_load_part rfl 23 _ rfl (g9) (0) (arr .u8 z5) 23 (0, 0) _ (hB'.get 3 rfl) e9 .u8 z5 (arr_part _ _) Tryd.underlying23 rfl (num_i HL5.out) ?_
      exact hKF _ _ ⟨j0, j1, j2, j3, j4, fun _ h => ⟨sI h, trivial⟩, j6, j7, j8, j9, j10, hB⟩
    refine LinAll.cons (fun fF bF uF kF hJF hfF hcF hupF hsF hKF => ?_) ?_
    · obtain ⟨j0, j1, j2, j3, j4, j5, j6, j7, j8, j9, j10, hB⟩ := hJF
      have e8 : bF.eval (.tmp 8) = .pointer (some ⟨g8, 0, none⟩) := hsF.old' 8 (by kernel_rfl) rfl
      have hB' := hB
      refine step_load_part rfl 25 _ rfl (g8) (0) (arr .u8 gs) 25 (0, 0) _ (hB'.get 2 rfl) e8 .u8 gs (arr_part _ _) Tryd.underlying25 rfl (sig_i HGL.out) ?_
      exact hKF _ _ ⟨j0, j1, j2, j3, j4, j5, fun _ h => ⟨sI h, trivial⟩, j7, j8, j9, j10, hB⟩
    refine LinAll.cons (fun fF bF uF kF hJF hfF hcF hupF hsF hKF => ?_) ?_
    · obtain ⟨j0, j1, j2, j3, j4, j5, j6, j7, j8, j9, j10, hB⟩ := hJF
      have e2 : bF.eval (.tmp 2) = .slice sb nb cb := hsF.old' 2 (by kernel_rfl) rfl
      exact lin_pure rfl (.slice sb nb cb) (by simp only [execOp, e2] <;> first | rfl | kernel_rfl | (go_simp; done)) (hKF _ _ ⟨j0, j1, j2, j3, j4, j5, j6, fun _ h => ⟨sI h, trivial⟩, j8, j9, j10, hB⟩)
    refine LinAll.cons (fun fF bF uF kF hJF hfF hcF hupF hsF hKF => ?_) ?_
    · obtain ⟨j0, j1, j2, j3, j4, j5, j6, j7, j8, j9, j10, hB⟩ := hJF
      obtain ⟨e30, p30⟩ := hsF.at hupF 5 30 (by kernel_rfl) rfl j5
      obtain ⟨e31, p31⟩ := hsF.at hupF 6 31 (by kernel_rfl) rfl j6
      obtain ⟨e32, p32⟩ := hsF.at hupF 7 32 (by kernel_rfl) rfl j7
      refine lin_call rfl 11 [Operand.tmp 30, Operand.tmp 31, Operand.tmp 32] _ [.agg (arr .u8 z5), .agg (arr .u8 gs), .slice sb nb cb] rfl (by simp only [List.map_cons, List.map_nil, e30, e31, e32] <;> rfl) (fun _ _ => by kernel_rfl) ?_
      refine Calls.mono (HV2.out _ _ HZ5.out (HSB.out.below hB.below) (HT.out.below hB.below)) ?_
      rintro e w1 ⟨rfl, hb⟩
      exact ⟨_, rfl, hKF _ _ ⟨j0, j1, j2, j3, j4, j5, j6, j7, fun _ h => ⟨sI h, trivial⟩, j9, j10, hB.kept hb⟩⟩
    refine LinAll.cons (fun fF bF uF kF hJF hfF hcF hupF hsF hKF => ?_) ?_
    · obtain ⟨j0, j1, j2, j3, j4, j5, j6, j7, j8, j9, j10, hB⟩ := hJF
      obtain ⟨e29, p29⟩ := hsF.at hupF 4 29 (by kernel_rfl) rfl j4
      obtain ⟨e33, p33⟩ := hsF.at hupF 8 33 (by kernel_rfl) rfl j8
      exact lin_pure rfl (.bool true) (by simp only [execOp, e29, e33]; cases ev <;> first | rfl | (go_simp; done)) (hKF _ _ ⟨j0, j1, j2, j3, j4, j5, j6, j7, j8, fun _ h => ⟨sI h, trivial⟩, j10, hB⟩)
    refine LinAll.cons (fun fF bF uF kF hJF hfF hcF hupF hsF hKF => ?_) ?_
    · obtain ⟨j0, j1, j2, j3, j4, j5, j6, j7, j8, j9, j10, hB⟩ := hJF
      obtain ⟨e34, p34⟩ := hsF.at hupF 9 34 (by kernel_rfl) rfl j9
      exact lin_pure rfl (.bool true) (by simp only [execOp, e34] <;> first | rfl | kernel_rfl | (go_simp; done)) (hKF _ _ ⟨j0, j1, j2, j3, j4, j5, j6, j7, j8, j9, fun _ h => ⟨sI h, trivial⟩, hB⟩)
    exact LinAll.nil
  case eo6 =>
  intro fF uo6 hall hJF
  obtain ⟨j0, j1, j2, j3, j4, j5, j6, j7, j8, j9, j10, hB⟩ := hJF
  obtain ⟨v0, h0⟩ := sE (hall 0 (by decide))
  obtain ⟨rfl, p0⟩ := j0 _ h0
  obtain ⟨v1, h1⟩ := sE (hall 1 (by decide))
  obtain ⟨rfl, p1⟩ := j1 _ h1
  obtain ⟨v2, h2⟩ := sE (hall 2 (by decide))
  obtain ⟨rfl, p2⟩ := j2 _ h2
  obtain ⟨v3, h3⟩ := sE (hall 3 (by decide))
  obtain ⟨go6_4, rfl⟩ := j3 _ h3
  obtain ⟨v4, h4⟩ := sE (hall 4 (by decide))
  obtain ⟨rfl, p4⟩ := j4 _ h4
  obtain ⟨v5, h5⟩ := sE (hall 5 (by decide))
  obtain ⟨rfl, p5⟩ := j5 _ h5
  obtain ⟨v6, h6⟩ := sE (hall 6 (by decide))
  obtain ⟨rfl, p6⟩ := j6 _ h6
  obtain ⟨v7, h7⟩ := sE (hall 7 (by decide))
  obtain ⟨rfl, p7⟩ := j7 _ h7
  obtain ⟨v8, h8⟩ := sE (hall 8 (by decide))
  obtain ⟨rfl, p8⟩ := j8 _ h8
  obtain ⟨v9, h9⟩ := sE (hall 9 (by decide))
  obtain ⟨rfl, p9⟩ := j9 _ h9
  obtain ⟨v10, h10⟩ := sE (hall 10 (by decide))
  obtain ⟨rfl, p10⟩ := j10 _ h10
  rw [h3] at hB
  have HBo6 : Hid (Blk w uo6 [(w.heap.size, arr .u8 xs, 23), (w.heap.size + 1, arr .u8 ys, 23), (g8, arr .u8 gs, 25), (g9, arr .u8 z5, 23), (go6_4, #[.slice sb nb cb], 26)]) := Lib.hid hB
  simp only [laid, Nat.zero_add, Nat.reduceAdd, h0, h1, h2, h3, h4, h5, h6, h7, h8, h9, h10, Act.put, sA, sZ, sS]
  clear j0 j1 j2 j3 j4 j5 j6 j7 j8 j9 j10 hB h0 h1 h2 h3 h4 h5 h6 h7 h8 h9 h10 hall fF HI7
  clear p0 p1 p2 p4 p5 p6 p7 p8 p9 p10
  (try simp only [Exit.then])
  go_wp2_with fail
  (try simp only [Exit.then])
  go_ret
  exact ⟨rfl, HBo6.out.below⟩
end Go.Proofs.YtjbgcbmgjdkpgaaDoor.Sl
