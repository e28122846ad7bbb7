/- CurveVerifies: it answers true. Condition: the document's tables hold what their text lays. -/
import Derived.Test.YtjbgcbmgjdkpgaaDoorCvI
import Derived.Test.YtjbgcbmgjdkpgaaDoorRw
import Derived.Test.YtjbgcbmgjdkpgaaDoorRpM
import Derived.Test.YtjbgcbmgjdkpgaaDoorOpen
import Derived.Test.YtjbgcbmgjdkpgaaDoorLig
namespace Go.Proofs.YtjbgcbmgjdkpgaaDoor.Sl
open Go.RowKit Lm Fp Cu Rd Sc
set_option linter.unusedSimpArgs false
set_option linter.unusedSimpArgs false
set_option linter.unusedVariables false

theorem rowI_src {w : World} {a : Option Addr} {len cap : Nat} {zs : List Int} (h : RowI .u8 w a len cap zs) : Src w a len (zs.take len) ∧ bytes (zs.take len) ∧ len ≤ cap := by
  rcases h with ⟨rfl, rfl, rfl, rfl⟩ | ⟨x, rfl, hl, hm, hz, hc, hw⟩
  · exact ⟨⟨rfl, fun i hi => absurd hi (by omega)⟩, fun x hx => by simp at hx, Nat.le_refl _⟩
  · refine ⟨⟨by simp; omega, fun i hi => ⟨x, rfl, ?_⟩⟩, fun y hy => wf_u8 (hw y (List.mem_of_mem_take hy)), hl⟩
    rw [hc i (by omega)]
    simp [List.getD, hi]
structure Tabs (w : World) : Prop where
  d : TabD w
  i : TabI w
  x : TabX w
  y : TabY w
  q : TabQ w
  k : Hb.TabK w
theorem Tabs.below {a b : World} (h : Tabs a) (k : Below a.heap.size a b) : Tabs b := ⟨range_below h.d k, range_below h.i k, range_below h.x k, range_below h.y k, h.q.below k, tabk_below h.k k⟩
theorem srcL_new {w : World} {sb : Option Addr} {nb cb : Nat} {bs : List Int} (h : Src w sb nb bs) (hc : nb ≤ cb) : SrcL (w.alloc (.cells #[.slice sb nb cb] 26)) (some ⟨w.heap.size, 0, none⟩) 1 [bs] := csrcL_one h hc
theorem src_mk {w : World} {g : Nat} {t : TypeId} {fr : Nat × Nat} {sb : Option Addr} {nb cb : Nat} {bs : List Int} (h : w.heap[g]? = some (.cells #[.slice sb nb cb] t fr)) (h1 : Src w sb nb bs) (hc : nb ≤ cb) : SrcL w (some ⟨g, 0, none⟩) 1 [bs] := by
  have e := h1.len
  subst e
  refine ⟨rfl, fun i hi => ?_⟩
  obtain rfl : i = 0 := by omega
  exact ⟨_, sb, cb, rfl, by rw [show (⟨g, 0, none⟩ : Addr).add 0 = ⟨g, 0, none⟩ from rfl, cell_blk h]; rfl, hc, h1⟩

set_option maxRecDepth 100000 in
set_option maxHeartbeats 16000000 in
theorem verifies_any {ks gs bs : List Int} (key : Nat) (sb : Option Addr) (nb cb : Nat) (w : World) (hk : K32 ks key) (hgl : gs.length = 64) (hgb : bytes gs) (hs : Src w sb nb bs) (hc : nb ≤ cb) (hb : bytes bs) (hT : Tabs w) :
    Calls Tryd.prog 3 #[.agg (arr .u8 ks), .agg (arr .u8 gs), .slice sb nb cb] w fun e w' => e = .returned (.bool true) ∧ Below w.heap.size w w' := by
  have hal := fun w => alive13_any w
  by_cases hnb : nb ≤ 1000
  rotate_left
  · have HAL := Lib.hid hal
    have hgt : (1000 : Int) < (nb : Int) := by omega
    have HS0 := Lib.hid (Blk.two w (arr .u8 ks) (arr .u8 gs) 23 25)
    clear hal hnb
    go_enter Tryd.func3, Tryd.ntmps3
    go_wp2_with (first | ((with_reducible show Calls _ 9 _ _ _); go_at_call 9; refine (HAL.out _).mono ?_; rintro e w1 ⟨rfl, hb1⟩; have HI1 := Lib.hid (HS0.out.kept hb1); clear hb1))
    (try simp only [Exit.then])
    go_ret
    exact ⟨rfl, HI1.out.below⟩
  have hgt : ¬ ((1000 : Int) < (nb : Int)) := by omega
  have hl := hs.len
  have hflat : ([bs] : List (List Int)).flatten = bs := by simp
  have hlb : ∀ l ∈ ([bs] : List (List Int)), bytes l := by intro l h; simp only [List.mem_singleton] at h; subst h; exact hb
  have hkl : key < 2 ^ 256 := by rw [show (2 : Nat) ^ 256 = 256 ^ 32 by decide]; exact hk.2
  have hv1 := fun (u : World) (g : Nat) (h : SrcL u (some ⟨g, 0, none⟩) 1 [bs]) => cverify_any key (some ⟨g, 0, none⟩) 1 1 [bs] u hk hgl hgb h hlb (by rw [hflat, hl]; omega) (by decide)
  rw [hflat] at hv1
  have hv2 : ∀ (u : World), Src u sb nb bs → Tabs u → Calls Tryd.prog 11 #[.agg (arr .u8 ks), .agg (arr .u8 gs), .slice sb nb cb] u fun e w' => e = .returned (.bool (everify key (hnum (gs.take 32)) (hnum (gs.drop 32)) bs)) ∧ Below u.heap.size u w' := by
    intro u h1 h2
    rw [hk.1]
    exact rverify_any key sb nb cb u hkl hgl hgb h1 hc hb (by omega) h2.d h2.i h2.x h2.y h2.q h2.k
  have hm1 := fun (u : World) => cmay_any key u hk
  have hm2 : ∀ (u : World), Tabs u → Calls Tryd.prog 13 #[.agg (arr .u8 ks)] u fun e w' => e = .returned (.bool (eread key).isSome) ∧ Below u.heap.size u w' := by
    intro u h
    rw [hk.1]
    exact may_any key u hkl h.d h.i
  obtain ⟨ev, hev⟩ : ∃ e, e = everify key (hnum (gs.take 32)) (hnum (gs.drop 32)) bs := ⟨_, rfl⟩
  rw [← hev] at hv1 hv2
  obtain ⟨mb, hmb⟩ : ∃ e, e = (eread key).isSome := ⟨_, rfl⟩
  rw [← hmb] at hm1 hm2
  have HAL := Lib.hid hal
  have HV1 := Lib.hid hv1
  have HV2 := Lib.hid hv2
  have HM1 := Lib.hid hm1
  have HM2 := Lib.hid hm2
  have HGL := Lib.hid hgl
  have HK := Lib.hid hk
  have HKL := Lib.hid hk.len
  have HSB := Lib.hid hs
  have HC := Lib.hid hc
  have HT := Lib.hid hT
  have HS0 := Lib.hid (Blk.two w (arr .u8 ks) (arr .u8 gs) 23 25)
  clear hal hnb hl hflat hlb hkl hv1 hv2 hm1 hm2 hev hmb hgl hgb hk hs hc hb hT
  go_enter Tryd.func3, Tryd.ntmps3
  go_upto_region 4 with (first | ((with_reducible show Calls _ 9 _ _ _); go_at_call 9; refine (HAL.out _).mono ?_; rintro e w1 ⟨rfl, hb1⟩; have HI1 := Lib.hid (HS0.out.kept hb1); clear hb1))
  (try simp only [World.size_alloc, Act.put, sA, sZ, sS])
  refine wp_region_ling (fun (fF : Fill) (uF : World) => (∀ v, fF 0 = some v → v = .agg (arr .u8 ks) ∧ True) ∧ (∀ v, fF 1 = some v → v = .agg (arr .u8 gs) ∧ True) ∧ (∀ v, fF 2 = some v → v = .slice sb nb cb ∧ True) ∧ (∀ v, fF 3 = some v → ∃ g : Nat, v = .slice (some ⟨g, 0, none⟩) 1 1) ∧ (∀ v, fF 4 = some v → v = .bool ev ∧ True) ∧ (∀ v, fF 5 = some v → v = .agg (arr .u8 ks) ∧ True) ∧ (∀ v, fF 6 = some v → v = .agg (arr .u8 gs) ∧ True) ∧ (∀ v, fF 7 = some v → v = .slice sb nb cb ∧ True) ∧ (∀ v, fF 8 = some v → v = .bool ev ∧ True) ∧ (∀ v, fF 9 = some v → v = .bool true ∧ True) ∧ (∀ v, fF 10 = some v → v = .bool true ∧ True) ∧ (∀ v, fF 11 = some v → v = .agg (arr .u8 ks) ∧ True) ∧ (∀ v, fF 12 = some v → v = .bool mb ∧ True) ∧ (∀ v, fF 13 = some v → v = .agg (arr .u8 ks) ∧ True) ∧ (∀ v, fF 14 = some v → v = .bool mb ∧ True) ∧ (∀ v, fF 15 = some v → v = .bool true ∧ True) ∧ (∀ v, fF 16 = some v → v = .bool true ∧ True) ∧ (∀ v, fF 17 = some v → v = .bool true ∧ True) ∧ Blk w uF ([(w.heap.size, arr .u8 ks, 23), (w.heap.size + 1, arr .u8 gs, 25)] ++ (ent (fF 3) (#[.slice sb nb cb]) 26))) (by kernel_rfl) (by kernel_rfl) ?zv4 ?sv4 ?ev4
  case zv4 => exact ⟨fun _ h => (by cases h), fun _ h => (by cases h), fun _ h => (by cases h), fun _ h => (by cases h), fun _ h => (by cases h), fun _ h => (by cases h), fun _ h => (by cases h), fun _ h => (by cases h), fun _ h => (by cases h), fun _ h => (by cases h), fun _ h => (by cases h), fun _ h => (by cases h), fun _ h => (by cases h), fun _ h => (by cases h), fun _ h => (by cases h), fun _ h => (by cases h), fun _ h => (by cases h), fun _ h => (by cases h), HI1.out.drew⟩
  case sv4 =>
    refine LinAllG.cons (fun fF bF uF kF hJF hfF hcF hupF hsF hKF => ?_) ?_
    · obtain ⟨j0, j1, j2, j3, j4, j5, j6, j7, j8, j9, j10, j11, j12, j13, j14, j15, j16, j17, hB⟩ := hJF
      have e3 : bF.eval (.tmp 3) = .pointer (some ⟨w.heap.size, 0, none⟩) := hsF.old' 3 (by kernel_rfl) rfl
      have hB' := hB
      refine step_load_part rfl 23 _ rfl (w.heap.size) (0) (arr .u8 ks) 23 (0, 0) _ (hB'.get 0 rfl) e3 .u8 ks (arr_part _ _) Tryd.underlying23 rfl (num_i HKL.out) ?_
      exact hKF _ _ ⟨fun _ h => ⟨sI h, trivial⟩, j1, j2, j3, j4, j5, j6, j7, j8, j9, j10, j11, j12, j13, j14, j15, j16, j17, hB⟩
    refine LinAllG.cons (fun fF bF uF kF hJF hfF hcF hupF hsF hKF => ?_) ?_
    · obtain ⟨j0, j1, j2, j3, j4, j5, j6, j7, j8, j9, j10, j11, j12, j13, j14, j15, j16, j17, hB⟩ := hJF
      have e4 : bF.eval (.tmp 4) = .pointer (some ⟨w.heap.size + 1, 0, none⟩) := hsF.old' 4 (by kernel_rfl) rfl
      have hB' := hB
      refine step_load_part rfl 25 _ rfl (w.heap.size + 1) (0) (arr .u8 gs) 25 (0, 0) _ (hB'.get 1 rfl) e4 .u8 gs (arr_part _ _) Tryd.underlying25 rfl (sig_i HGL.out) ?_
      exact hKF _ _ ⟨j0, fun _ h => ⟨sI h, trivial⟩, j2, j3, j4, j5, j6, j7, j8, j9, j10, j11, j12, j13, j14, j15, j16, j17, hB⟩
    refine LinAllG.cons (fun fF bF uF kF hJF hfF hcF hupF hsF hKF => ?_) ?_
    · obtain ⟨j0, j1, j2, j3, j4, j5, j6, j7, j8, j9, j10, j11, j12, j13, j14, j15, j16, j17, hB⟩ := hJF
      have e2 : bF.eval (.tmp 2) = .slice sb nb cb := hsF.old' 2 (by kernel_rfl) rfl
      exact lin_pure rfl (.slice sb nb cb) (by simp only [execOp, e2] <;> first | rfl | kernel_rfl | (go_simp; done)) (hKF _ _ ⟨j0, j1, fun _ h => ⟨sI h, trivial⟩, j3, j4, j5, j6, j7, j8, j9, j10, j11, j12, j13, j14, j15, j16, j17, hB⟩)
    refine LinAllG.cons (fun fF bF uF kF hJF hfF hcF hupF hsF hKF => ?_) ?_
    · obtain ⟨j0, j1, j2, j3, j4, j5, j6, j7, j8, j9, j10, j11, j12, j13, j14, j15, j16, j17, hB⟩ := hJF
      obtain ⟨e19, p19⟩ := hsF.at hupF 2 19 (by kernel_rfl) rfl j2
      have hB1 : Blk w (uF.alloc (.cells #[.slice sb nb cb] 26)) ([(w.heap.size, arr .u8 ks, 23), (w.heap.size + 1, arr .u8 gs, 25)] ++ (ent ((some (.slice (some ⟨uF.heap.size, 0, none⟩) 1 1) : Option Value)) (#[.slice sb nb cb]) 26)) := hB.ins (a := [(w.heap.size, arr .u8 ks, 23), (w.heap.size + 1, arr .u8 gs, 25)]) (b := []) _ _ (by rw [hfF]; simp only [ent_none, List.nil_append, List.append_nil, List.append_assoc, List.cons_append]) (by simp only [ent_slice, List.nil_append, List.append_nil, List.append_assoc, List.cons_append, Option.isSome_none, Bool.false_eq_true, if_false])
      rw [if_pos (by simp [Region.wanted])]
      unfold Oper.wp
      simp only [execOp, List.map_toArray, List.map_cons, List.map_nil, e19]
      generalize hX : Sem.run Tryd.prog _ uF = X
      have hrun : X = .ok (.value (.slice (some ⟨uF.heap.size, 0, none⟩) 1 1)) (uF.alloc (.cells #[.slice sb nb cb] 26)) := by
        rw [← hX]
        first | rfl | kernel_rfl
      rw [hrun]
      exact hKF _ _ ⟨j0, j1, j2, fun _ h => ⟨_, sI h⟩, j4, j5, j6, j7, j8, j9, j10, j11, j12, j13, j14, j15, j16, j17, hB1⟩
    refine LinAllG.cons (fun fF bF uF kF hJF hfF hcF hupF hsF hKF => ?_) ?_
    · obtain ⟨j0, j1, j2, j3, j4, j5, j6, j7, j8, j9, j10, j11, j12, j13, j14, j15, j16, j17, hB⟩ := hJF
      obtain ⟨e17, p17⟩ := hsF.at hupF 0 17 (by kernel_rfl) rfl j0
      obtain ⟨e18, p18⟩ := hsF.at hupF 1 18 (by kernel_rfl) rfl j1
      have y3 := hupF 3 (by kernel_rfl)
      obtain ⟨v3, s3⟩ := sE y3
      obtain ⟨gv4_2, rfl⟩ := j3 _ s3
      have e20 := hsF.val 3 20 rfl s3
      have hB' := hB
      rw [s3] at hB'
      have hsl := src_mk (hB'.get 2 rfl) (HSB.out.below hB.below) HC.out
      refine lin_call rfl 10 [Operand.tmp 17, Operand.tmp 18, Operand.tmp 20] _ [.agg (arr .u8 ks), .agg (arr .u8 gs), .slice (some ⟨gv4_2, 0, none⟩) 1 1] rfl (by simp only [List.map_cons, List.map_nil, e17, e18, e20] <;> rfl) (fun _ _ => by kernel_rfl) ?_
      refine Calls.mono (HV1.out _ _ hsl) ?_
      rintro e w1 ⟨rfl, hb⟩
      exact ⟨_, rfl, hKF _ _ ⟨j0, j1, j2, j3, fun _ h => ⟨sI h, trivial⟩, j5, j6, j7, j8, j9, j10, j11, j12, j13, j14, j15, j16, j17, hB.kept hb⟩⟩
    refine LinAllG.cons (fun fF bF uF kF hJF hfF hcF hupF hsF hKF => ?_) ?_
    · obtain ⟨j0, j1, j2, j3, j4, j5, j6, j7, j8, j9, j10, j11, j12, j13, j14, j15, j16, j17, hB⟩ := hJF
      have e3 : bF.eval (.tmp 3) = .pointer (some ⟨w.heap.size, 0, none⟩) := hsF.old' 3 (by kernel_rfl) rfl
      have hB' := hB
      refine step_load_part rfl 23 _ rfl (w.heap.size) (0) (arr .u8 ks) 23 (0, 0) _ (hB'.get 0 rfl) e3 .u8 ks (arr_part _ _) Tryd.underlying23 rfl (num_i HKL.out) ?_
      exact hKF _ _ ⟨j0, j1, j2, j3, j4, fun _ h => ⟨sI h, trivial⟩, j6, j7, j8, j9, j10, j11, j12, j13, j14, j15, j16, j17, hB⟩
    refine LinAllG.cons (fun fF bF uF kF hJF hfF hcF hupF hsF hKF => ?_) ?_
    · obtain ⟨j0, j1, j2, j3, j4, j5, j6, j7, j8, j9, j10, j11, j12, j13, j14, j15, j16, j17, hB⟩ := hJF
      have e4 : bF.eval (.tmp 4) = .pointer (some ⟨w.heap.size + 1, 0, none⟩) := hsF.old' 4 (by kernel_rfl) rfl
      have hB' := hB
      refine step_load_part rfl 25 _ rfl (w.heap.size + 1) (0) (arr .u8 gs) 25 (0, 0) _ (hB'.get 1 rfl) e4 .u8 gs (arr_part _ _) Tryd.underlying25 rfl (sig_i HGL.out) ?_
      exact hKF _ _ ⟨j0, j1, j2, j3, j4, j5, fun _ h => ⟨sI h, trivial⟩, j7, j8, j9, j10, j11, j12, j13, j14, j15, j16, j17, hB⟩
    refine LinAllG.cons (fun fF bF uF kF hJF hfF hcF hupF hsF hKF => ?_) ?_
    · obtain ⟨j0, j1, j2, j3, j4, j5, j6, j7, j8, j9, j10, j11, j12, j13, j14, j15, j16, j17, hB⟩ := hJF
      have e2 : bF.eval (.tmp 2) = .slice sb nb cb := hsF.old' 2 (by kernel_rfl) rfl
      exact lin_pure rfl (.slice sb nb cb) (by simp only [execOp, e2] <;> first | rfl | kernel_rfl | (go_simp; done)) (hKF _ _ ⟨j0, j1, j2, j3, j4, j5, j6, fun _ h => ⟨sI h, trivial⟩, j8, j9, j10, j11, j12, j13, j14, j15, j16, j17, hB⟩)
    refine LinAllG.cons (fun fF bF uF kF hJF hfF hcF hupF hsF hKF => ?_) ?_
    · obtain ⟨j0, j1, j2, j3, j4, j5, j6, j7, j8, j9, j10, j11, j12, j13, j14, j15, j16, j17, hB⟩ := hJF
      obtain ⟨e22, p22⟩ := hsF.at hupF 5 22 (by kernel_rfl) rfl j5
      obtain ⟨e23, p23⟩ := hsF.at hupF 6 23 (by kernel_rfl) rfl j6
      obtain ⟨e24, p24⟩ := hsF.at hupF 7 24 (by kernel_rfl) rfl j7
      refine lin_call rfl 11 [Operand.tmp 22, Operand.tmp 23, Operand.tmp 24] _ [.agg (arr .u8 ks), .agg (arr .u8 gs), .slice sb nb cb] rfl (by simp only [List.map_cons, List.map_nil, e22, e23, e24] <;> rfl) (fun _ _ => by kernel_rfl) ?_
      refine Calls.mono (HV2.out _ (HSB.out.below hB.below) (HT.out.below hB.below)) ?_
      rintro e w1 ⟨rfl, hb⟩
      exact ⟨_, rfl, hKF _ _ ⟨j0, j1, j2, j3, j4, j5, j6, j7, fun _ h => ⟨sI h, trivial⟩, j9, j10, j11, j12, j13, j14, j15, j16, j17, hB.kept hb⟩⟩
    refine LinAllG.cons (fun fF bF uF kF hJF hfF hcF hupF hsF hKF => ?_) ?_
    · obtain ⟨j0, j1, j2, j3, j4, j5, j6, j7, j8, j9, j10, j11, j12, j13, j14, j15, j16, j17, hB⟩ := hJF
      obtain ⟨e21, p21⟩ := hsF.at hupF 4 21 (by kernel_rfl) rfl j4
      obtain ⟨e25, p25⟩ := hsF.at hupF 8 25 (by kernel_rfl) rfl j8
      exact lin_pure rfl (.bool true) (by simp only [execOp, e21, e25]; cases ev <;> first | rfl | (go_simp; done)) (hKF _ _ ⟨j0, j1, j2, j3, j4, j5, j6, j7, j8, fun _ h => ⟨sI h, trivial⟩, j10, j11, j12, j13, j14, j15, j16, j17, hB⟩)
    refine LinAllG.cons (fun fF bF uF kF hJF hfF hcF hupF hsF hKF => ?_) ?_
    · obtain ⟨j0, j1, j2, j3, j4, j5, j6, j7, j8, j9, j10, j11, j12, j13, j14, j15, j16, j17, hB⟩ := hJF
      obtain ⟨e26, p26⟩ := hsF.at hupF 9 26 (by kernel_rfl) rfl j9
      exact lin_pure rfl (.bool true) (by simp only [execOp, e26] <;> first | rfl | kernel_rfl | (go_simp; done)) (hKF _ _ ⟨j0, j1, j2, j3, j4, j5, j6, j7, j8, j9, fun _ h => ⟨sI h, trivial⟩, j11, j12, j13, j14, j15, j16, j17, hB⟩)
    refine LinAllG.cons (fun fF bF uF kF hJF hfF hcF hupF hsF hKF => ?_) ?_
    · obtain ⟨j0, j1, j2, j3, j4, j5, j6, j7, j8, j9, j10, j11, j12, j13, j14, j15, j16, j17, hB⟩ := hJF
      obtain ⟨e27, p27⟩ := hsF.at hupF 10 27 (by kernel_rfl) rfl j10
      have e3 : bF.eval (.tmp 3) = .pointer (some ⟨w.heap.size, 0, none⟩) := hsF.old' 3 (by kernel_rfl) rfl
      rw [if_pos (wanted_of (j := 10) (s := 27) rfl rfl e27)]
      refine wp_load_mid 23 (.tmp 3) rfl (w.heap.size) 0 e3 (ks.map (Value.int .u8)) _ (range_part (hB.get 0 rfl) 0 _ (by rw [List.length_map]; exact arr_part _ _)) Tryd.underlying23 rfl (by rw [List.length_map]; exact num_i HKL.out) ?_
      exact hKF _ _ ⟨j0, j1, j2, j3, j4, j5, j6, j7, j8, j9, j10, fun _ h => ⟨sI h, trivial⟩, j12, j13, j14, j15, j16, j17, hB⟩
    refine LinAllG.cons (fun fF bF uF kF hJF hfF hcF hupF hsF hKF => ?_) ?_
    · obtain ⟨j0, j1, j2, j3, j4, j5, j6, j7, j8, j9, j10, j11, j12, j13, j14, j15, j16, j17, hB⟩ := hJF
      obtain ⟨e27, p27⟩ := hsF.at hupF 10 27 (by kernel_rfl) rfl j10
      obtain ⟨e28, p28⟩ := hsF.at hupF 11 28 (by kernel_rfl) rfl j11
      refine lin_callW (wanted_of (j := 10) (s := 27) rfl rfl e27) 12 [.tmp 28] _ [.agg (arr .u8 ks)] rfl (by simp only [List.map_cons, List.map_nil, e28] <;> rfl) (fun _ _ => by kernel_rfl) ?_
      refine Calls.mono (HM1.out _) ?_
      rintro e w1 ⟨rfl, hb⟩
      exact ⟨_, rfl, hKF _ _ ⟨j0, j1, j2, j3, j4, j5, j6, j7, j8, j9, j10, j11, fun _ h => ⟨sI h, trivial⟩, j13, j14, j15, j16, j17, hB.kept hb⟩⟩
    refine LinAllG.cons (fun fF bF uF kF hJF hfF hcF hupF hsF hKF => ?_) ?_
    · obtain ⟨j0, j1, j2, j3, j4, j5, j6, j7, j8, j9, j10, j11, j12, j13, j14, j15, j16, j17, hB⟩ := hJF
      obtain ⟨e27, p27⟩ := hsF.at hupF 10 27 (by kernel_rfl) rfl j10
      have e3 : bF.eval (.tmp 3) = .pointer (some ⟨w.heap.size, 0, none⟩) := hsF.old' 3 (by kernel_rfl) rfl
      rw [if_pos (wanted_of (j := 10) (s := 27) rfl rfl e27)]
      refine wp_load_mid 23 (.tmp 3) rfl (w.heap.size) 0 e3 (ks.map (Value.int .u8)) _ (range_part (hB.get 0 rfl) 0 _ (by rw [List.length_map]; exact arr_part _ _)) Tryd.underlying23 rfl (by rw [List.length_map]; exact num_i HKL.out) ?_
      exact hKF _ _ ⟨j0, j1, j2, j3, j4, j5, j6, j7, j8, j9, j10, j11, j12, fun _ h => ⟨sI h, trivial⟩, j14, j15, j16, j17, hB⟩
    refine LinAllG.cons (fun fF bF uF kF hJF hfF hcF hupF hsF hKF => ?_) ?_
    · obtain ⟨j0, j1, j2, j3, j4, j5, j6, j7, j8, j9, j10, j11, j12, j13, j14, j15, j16, j17, hB⟩ := hJF
      obtain ⟨e27, p27⟩ := hsF.at hupF 10 27 (by kernel_rfl) rfl j10
      obtain ⟨e30, p30⟩ := hsF.at hupF 13 30 (by kernel_rfl) rfl j13
      refine lin_callW (wanted_of (j := 10) (s := 27) rfl rfl e27) 13 [.tmp 30] _ [.agg (arr .u8 ks)] rfl (by simp only [List.map_cons, List.map_nil, e30] <;> rfl) (fun _ _ => by kernel_rfl) ?_
      refine Calls.mono (HM2.out _ (HT.out.below hB.below)) ?_
      rintro e w1 ⟨rfl, hb⟩
      exact ⟨_, rfl, hKF _ _ ⟨j0, j1, j2, j3, j4, j5, j6, j7, j8, j9, j10, j11, j12, j13, fun _ h => ⟨sI h, trivial⟩, j15, j16, j17, hB.kept hb⟩⟩
    refine LinAllG.cons (fun fF bF uF kF hJF hfF hcF hupF hsF hKF => ?_) ?_
    · obtain ⟨j0, j1, j2, j3, j4, j5, j6, j7, j8, j9, j10, j11, j12, j13, j14, j15, j16, j17, hB⟩ := hJF
      obtain ⟨e29, p29⟩ := hsF.at hupF 12 29 (by kernel_rfl) rfl j12
      obtain ⟨e31, p31⟩ := hsF.at hupF 14 31 (by kernel_rfl) rfl j14
      obtain ⟨e27, p27⟩ := hsF.at hupF 10 27 (by kernel_rfl) rfl j10
      exact lin_pureW (wanted_of (j := 10) (s := 27) rfl rfl e27) (.bool true) (by simp only [execOp, e29, e31]; cases mb <;> first | rfl | (go_simp; done)) (hKF _ _ ⟨j0, j1, j2, j3, j4, j5, j6, j7, j8, j9, j10, j11, j12, j13, j14, fun _ h => ⟨sI h, trivial⟩, j16, j17, hB⟩)
    refine LinAllG.cons (fun fF bF uF kF hJF hfF hcF hupF hsF hKF => ?_) ?_
    · obtain ⟨j0, j1, j2, j3, j4, j5, j6, j7, j8, j9, j10, j11, j12, j13, j14, j15, j16, j17, hB⟩ := hJF
      obtain ⟨e27, p27⟩ := hsF.at hupF 10 27 (by kernel_rfl) rfl j10
      obtain ⟨e32, p32⟩ := hsF.at hupF 15 32 (by kernel_rfl) rfl j15
      exact lin_pure rfl (.bool true) (by simp only [execOp, e27, e32]; first | rfl | (go_simp; done)) (hKF _ _ ⟨j0, j1, j2, j3, j4, j5, j6, j7, j8, j9, j10, j11, j12, j13, j14, j15, fun _ h => ⟨sI h, trivial⟩, j17, hB⟩)
    refine LinAllG.cons (fun fF bF uF kF hJF hfF hcF hupF hsF hKF => ?_) ?_
    · obtain ⟨j0, j1, j2, j3, j4, j5, j6, j7, j8, j9, j10, j11, j12, j13, j14, j15, j16, j17, hB⟩ := hJF
      obtain ⟨e33, p33⟩ := hsF.at hupF 16 33 (by kernel_rfl) rfl j16
      exact lin_pure rfl (.bool true) (by simp only [execOp, e33] <;> first | rfl | kernel_rfl | (go_simp; done)) (hKF _ _ ⟨j0, j1, j2, j3, j4, j5, j6, j7, j8, j9, j10, j11, j12, j13, j14, j15, j16, fun _ h => ⟨sI h, trivial⟩, hB⟩)
    exact LinAllG.nil
  case ev4 =>
  intro fF uv4 hall hJF
  obtain ⟨j0, j1, j2, j3, j4, j5, j6, j7, j8, j9, j10, j11, j12, j13, j14, j15, j16, j17, hB⟩ := hJF
  obtain ⟨v0, h0⟩ := sE (hall 0 (by decide))
  obtain ⟨rfl, p0⟩ := j0 _ h0
  obtain ⟨v1, h1⟩ := sE (hall 1 (by decide))
  obtain ⟨rfl, p1⟩ := j1 _ h1
  obtain ⟨v2, h2⟩ := sE (hall 2 (by decide))
  obtain ⟨rfl, p2⟩ := j2 _ h2
  obtain ⟨v3, h3⟩ := sE (hall 3 (by decide))
  obtain ⟨gv4_2, rfl⟩ := j3 _ h3
  obtain ⟨v4, h4⟩ := sE (hall 4 (by decide))
  obtain ⟨rfl, p4⟩ := j4 _ h4
  obtain ⟨v5, h5⟩ := sE (hall 5 (by decide))
  obtain ⟨rfl, p5⟩ := j5 _ h5
  obtain ⟨v6, h6⟩ := sE (hall 6 (by decide))
  obtain ⟨rfl, p6⟩ := j6 _ h6
  obtain ⟨v7, h7⟩ := sE (hall 7 (by decide))
  obtain ⟨rfl, p7⟩ := j7 _ h7
  obtain ⟨v8, h8⟩ := sE (hall 8 (by decide))
  obtain ⟨rfl, p8⟩ := j8 _ h8
  obtain ⟨v9, h9⟩ := sE (hall 9 (by decide))
  obtain ⟨rfl, p9⟩ := j9 _ h9
  obtain ⟨v10, h10⟩ := sE (hall 10 (by decide))
  obtain ⟨rfl, p10⟩ := j10 _ h10
  obtain ⟨v11, h11⟩ := sE (hall 11 (by decide))
  obtain ⟨rfl, p11⟩ := j11 _ h11
  obtain ⟨v12, h12⟩ := sE (hall 12 (by decide))
  obtain ⟨rfl, p12⟩ := j12 _ h12
  obtain ⟨v13, h13⟩ := sE (hall 13 (by decide))
  obtain ⟨rfl, p13⟩ := j13 _ h13
  obtain ⟨v14, h14⟩ := sE (hall 14 (by decide))
  obtain ⟨rfl, p14⟩ := j14 _ h14
  obtain ⟨v15, h15⟩ := sE (hall 15 (by decide))
  obtain ⟨rfl, p15⟩ := j15 _ h15
  obtain ⟨v16, h16⟩ := sE (hall 16 (by decide))
  obtain ⟨rfl, p16⟩ := j16 _ h16
  obtain ⟨v17, h17⟩ := sE (hall 17 (by decide))
  obtain ⟨rfl, p17⟩ := j17 _ h17
  rw [h3] at hB
  have HBv4 : Hid (Blk w uv4 [(w.heap.size, arr .u8 ks, 23), (w.heap.size + 1, arr .u8 gs, 25), (gv4_2, #[.slice sb nb cb], 26)]) := Lib.hid hB
  simp only [laid, Nat.zero_add, Nat.reduceAdd, h0, h1, h2, h3, h4, h5, h6, h7, h8, h9, h10, h11, h12, h13, h14, h15, h16, h17, Act.put, sA, sZ, sS]
  clear j0 j1 j2 j3 j4 j5 j6 j7 j8 j9 j10 j11 j12 j13 j14 j15 j16 j17 hB h0 h1 h2 h3 h4 h5 h6 h7 h8 h9 h10 h11 h12 h13 h14 h15 h16 h17 hall fF HI1
  clear p0 p1 p2 p4 p5 p6 p7 p8 p9 p10 p11 p12 p13 p14 p15 p16 p17
  (try simp only [Exit.then])
  go_wp2_with fail
  (try simp only [Exit.then])
  go_ret
  exact ⟨rfl, HBv4.out.below⟩
end Go.Proofs.YtjbgcbmgjdkpgaaDoor.Sl
