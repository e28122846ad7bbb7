/- curve.secret, Public, sum: what they answer. Condition: 32 bytes; lists of the call's size. -/
import Derived.Test.YtanjhngehfbpbaaDoorCvE
namespace Go.Proofs.YtanjhngehfbpbaaDoor.Sl
open Go.RowKit Lm Fp Cu Rd Sc
set_option linter.unusedSimpArgs false

theorem zero_sig (w : World) : (zeroValue 30).run Tryd.prog w = .ok (.agg (arr .u8 (List.replicate 64 0))) w := by kernel_rfl
theorem size_sig : (Tryd.prog.info? 30).map (·.size) = some 64 := by kernel_rfl
theorem sig_s {xs : List Int} (h : xs.length = 64) : (Tryd.prog.info? 30).map (·.size) = some (arr .u8 xs).size := by rw [arr_size, h]; exact size_sig
theorem sig_i {xs : List Int} (h : xs.length = 64) : (Tryd.prog.info? 30).map (·.size) = some xs.length := by rw [h]; exact size_sig
theorem src_off {w : World} {g : Nat} {xs : List Int} {t : TypeId} {fr : Nat × Nat} (h : w.heap[g]? = some (.cells (arr .u8 xs) t fr)) (o m : Nat) (hm : o + m ≤ xs.length) : Src w (some ⟨g, o, none⟩) m ((xs.drop o).take m) := by
  refine ⟨by rw [List.length_take, List.length_drop]; omega, fun i hi => ⟨_, rfl, ?_⟩⟩
  rw [Addr.add_lit, blk_arr' h (o + i) (by omega)]
  have e : ((xs.drop o).take m).getD i 0 = xs.getD (o + i) 0 := by simp [List.getD, List.getElem?_take, hi, List.getElem?_drop]
  rw [e]
theorem src_all {w : World} {g : Nat} {xs : List Int} {t : TypeId} {fr : Nat × Nat} (h : w.heap[g]? = some (.cells (arr .u8 xs) t fr)) (m : Nat) (hm : xs.length = m) : Src w (some ⟨g, 0, none⟩) m xs := by
  have := src_off h 0 m (by omega)
  rwa [List.drop_zero, List.take_of_length_le (by omega)] at this
theorem csrcL_one {w : World} {si : Option Addr} {n ci : Nat} {l : List Int} (h : Src w si n l) (hc : n ≤ ci) :
    SrcL (w.alloc (.cells #[.slice si n ci] 33)) (some ⟨w.heap.size, 0, none⟩) 1 [l] := by
  have hl := h.len
  subst hl
  refine ⟨rfl, fun i hi => ?_⟩
  obtain rfl : i = 0 := by omega
  refine ⟨_, si, ci, rfl, ?_, hc, h.below ((Below.refl _ w).alloc (Nat.le_refl _) _)⟩
  rw [show (⟨w.heap.size, 0, none⟩ : Addr).add 0 = ⟨w.heap.size, 0, none⟩ from rfl, cell_blk (blk_new w _)]
  rfl
theorem below_new {w w' : World} {o : Obj} (h : Below (w.alloc o).heap.size (w.alloc o) w') : Below w.heap.size w w' := by
  have b1 : Below w.heap.size w (w.alloc o) := (Below.refl _ w).alloc (Nat.le_refl _) o
  exact b1.trans (h.mono b1.size)
theorem Blk.add {w wr w' : World} {l : List (Nat × Array Value × TypeId)} (h : Blk w wr l) (b : Below wr.heap.size wr w') {g : Nat} {c : Array Value} {t : TypeId} (hg : w'.heap[g]? = some (.cells c t (0, 0))) (hle : wr.heap.size ≤ g) : Blk w w' (l ++ [(g, c, t)]) := by
  have h1 := h.kept b
  have hlt : ∀ (i g' : Nat) (c' : Array Value) (t' : TypeId), l[i]? = some (g', c', t') → g' < wr.heap.size := fun i g' c' t' hi => h.lt i hi
  refine ⟨fun i g' c' t' hi => ?_, fun i j g' c1 t1 c2 t2 hi hj => ?_, h1.below⟩
  · rcases Nat.lt_or_ge i l.length with hl | hl
    · rw [List.getElem?_append_left hl] at hi
      exact h1.mem i g' c' t' hi
    · rw [List.getElem?_append_right hl] at hi
      obtain ⟨hh0, e⟩ := List.getElem?_eq_some_iff.1 hi
      have e2 : (g, c, t) = (g', c', t') := by rw [← e]; simp
      cases e2
      exact ⟨hg, Nat.le_trans h.below.size hle⟩
  · have key : ∀ (i g' : Nat) (c' : Array Value) (t' : TypeId), (l ++ [(g, c, t)])[i]? = some (g', c', t') → (i < l.length ∧ l[i]? = some (g', c', t')) ∨ (i = l.length ∧ g' = g) := by
      intro i g' c' t' hi
      rcases Nat.lt_or_ge i l.length with hl | hl
      · rw [List.getElem?_append_left hl] at hi
        exact .inl ⟨hl, hi⟩
      · rw [List.getElem?_append_right hl] at hi
        obtain ⟨hh, e⟩ := List.getElem?_eq_some_iff.1 hi
        have e2 : (g, c, t) = (g', c', t') := by rw [← e]; simp
        cases e2
        simp at hh
        exact .inr ⟨by omega, rfl⟩
    rcases key i g' c1 t1 hi with ⟨a1, a2⟩ | ⟨a1, a2⟩ <;> rcases key j g' c2 t2 hj with ⟨b1, b2⟩ | ⟨b1, b2⟩
    · exact h.inj i j _ _ _ _ _ a2 b2
    · have := hlt i g' c1 t1 a2; omega
    · have := hlt j g' c2 t2 b2; omega
    · omega
theorem part_off (xs : List Int) (o m : Nat) (h : o + m ≤ xs.length) : ((arr .u8 xs).toList.drop o).take ((xs.drop o).take m).length = ((xs.drop o).take m).map (Value.int .u8) := by
  show ((xs.map (Value.int .u8)).drop o).take _ = _
  rw [List.length_take, List.length_drop, ← List.map_drop, List.map_take]
  congr 1
  omega
theorem src_two {w : World} {g : Nat} {t : TypeId} {fr : Nat × Nat} {s1 s2 : Option Addr} {n1 n2 c1 c2 : Nat} {x1 x2 : List Int} (h : w.heap[g]? = some (.cells #[.slice s1 n1 c1, .slice s2 n2 c2] t fr)) (h1 : Src w s1 n1 x1) (h2 : Src w s2 n2 x2) (l1 : n1 ≤ c1) (l2 : n2 ≤ c2) :
    SrcL w (some ⟨g, 0, none⟩) 2 [x1, x2] := by
  have e1 := h1.len
  have e2 := h2.len
  subst e1 e2
  refine ⟨rfl, fun i hi => ?_⟩
  match i, hi with
  | 0, _ => exact ⟨_, s1, c1, rfl, by rw [show (⟨g, 0, none⟩ : Addr).add 0 = ⟨g, 0, none⟩ from rfl, cell_blk h]; rfl, l1, h1⟩
  | 1, _ => exact ⟨_, s2, c2, rfl, by rw [show (⟨g, 0, none⟩ : Addr).add 1 = ⟨g, 1, none⟩ from rfl, cell_blk h]; rfl, l2, h2⟩
theorem part_take (xs : List Int) (n : Nat) : ((arr .u8 xs).toList.drop 0).take (xs.take n).length = (xs.take n).map (Value.int .u8) := by
  show ((xs.map (Value.int .u8)).drop 0).take _ = _
  rw [List.drop_zero, List.length_take, ← List.map_take]
  congr 1
  apply List.ext_getElem?
  intro i
  simp only [List.getElem?_take]
  by_cases h1 : i < xs.length
  · by_cases h2 : i < n
    · rw [if_pos (by omega), if_pos h2]
    · rw [if_neg (by omega), if_neg h2]
  · simp [List.getElem?_eq_none (Nat.not_lt.1 h1)]

set_option maxRecDepth 100000 in
set_option maxHeartbeats 4000000 in
theorem csecret_any {ks : List Int} (seed : Nat) (w : World) (hk : K32 ks seed) : Calls Tryd.prog 26 #[.agg (arr .u8 ks)] w fun e w' => ∃ zs g hs, e = .returned (.tuple #[.agg (arr .u8 zs), .slice (some ⟨g, 32, none⟩) 32 32]) ∧ K32 zs (spart seed) ∧ (w'.heap[g]? = some (.cells (arr .u8 hs) 30 (0, 0)) ∧ w.heap.size ≤ g ∧ hs.length = 64 ∧ hs.drop 32 = srest seed) ∧ Below w.heap.size w w' := by
  have hkb : bytes ks := by rw [hk.1]; exact n32_bytes seed
  have hh : bytes (Hb.hash ks) := hash_bytes' ks
  have hl : (Hb.hash ks).length = 64 := Hb.hash_len ks
  have h32 : K32 ((Hb.hash ks).take 32) (hnum ((Hb.hash ks).take 32)) := ⟨(n32_hnum (bytes_take hh 32) (by rw [List.length_take, hl]; rfl)).symm, by have := hnum_lt (bytes_take hh 32); rwa [List.length_take, hl] at this⟩
  have hsp : clamp (hnum ((Hb.hash ks).take 32)) = spart seed := by rw [spart, n32, ← hk.1]
  have hsr : srest seed = (Hb.hash ks).drop 32 := by rw [srest, n32, ← hk.1]
  have hsum := fun (sa : Option Addr) (n c : Nat) (w : World) (hs : SrcL w sa n [ks]) (hn : n = 1) => Hb.sum_any sa n c [ks] w hs (by intro l h; simp only [List.mem_singleton] at h; subst h; exact hkb) (by simp [hk.len]) (by omega)
  rw [show [ks].flatten = ks by simp] at hsum
  obtain ⟨hs, hhs⟩ : ∃ h, h = Hb.hash ks := ⟨_, rfl⟩
  have hpt := part_take hs 32
  rw [← hhs] at hsum hl h32 hsp hsr
  obtain ⟨h0, hh0⟩ : ∃ h, h = hs.take 32 := ⟨_, rfl⟩
  rw [← hh0] at h32 hsp hpt
  rw [hsr]
  obtain ⟨N0, hN0⟩ : ∃ n, n = hnum h0 := ⟨_, rfl⟩
  rw [← hN0] at h32 hsp
  have HCLP : Hid (∀ (xs : List Int) (w : World), K32 xs N0 → Calls Tryd.prog 57 #[.agg (arr .u8 xs)] w fun e w' => ∃ zs, e = .returned (.agg (arr .u8 zs)) ∧ K32 zs (spart seed) ∧ Below w.heap.size w w') := Lib.hid (fun xs w h => by rw [← hsp]; exact clamp_any N0 w h)
  have H32 := Lib.hid h32
  have H32L := Lib.hid h32.len
  have HSUM := Lib.hid hsum
  have HPT := Lib.hid hpt
  have HSL := Lib.hid hl
  have HKL := Lib.hid hk.len
  obtain ⟨zn, hzn⟩ : ∃ zs : List Int, zs = List.replicate 32 0 := ⟨_, rfl⟩
  have HZzn : Hid (∀ w, (zeroValue 23).run Tryd.prog w = .ok (.agg (arr .u8 zn)) w) := Lib.hid (by intro w; rw [hzn]; exact zero_num w)
  have HLzn : Hid (zn.length = 32) := Lib.hid (by rw [hzn]; rfl)
  obtain ⟨zs64, hzs64⟩ : ∃ zs : List Int, zs = List.replicate 64 0 := ⟨_, rfl⟩
  have HZzs64 : Hid (∀ w, (zeroValue 30).run Tryd.prog w = .ok (.agg (arr .u8 zs64)) w) := Lib.hid (by intro w; rw [hzs64]; exact zero_sig w)
  have HLzs64 : Hid (zs64.length = 64) := Lib.hid (by rw [hzs64]; rfl)
  have HS0 := Lib.hid (Blk.two w (arr .u8 ks) (arr .u8 zn) 23 23)
  clear hzn hzs64 hk hkb hh hl h32 hsp hsr hsum hhs hpt hh0 hN0
  go_enter Tryd.func26, Tryd.ntmps26
  go_upto_region 1 with (first | ((with_reducible refine aS 2 ?_); refine wpList_alloc_row rfl 23 rfl _ (HZzn.out _) ?_))
  (try simp only [World.size_alloc, Act.put, sA, sZ, sS])
  generalize ((w.alloc (.cells (arr .u8 ks) 23)).alloc (.cells (arr .u8 zn) 23)) = wb at HS0 ⊢
  go_upto_region 2 with (first | ((with_reducible show Calls _ 56 _ _ _); go_at_call 56; refine (HSUM.out _ _ _ _ (csrcL_one (src_all (HS0.out.get 0 rfl) 32 HKL.out) (Nat.le_refl _)) rfl).mono ?_; rintro e w1 ⟨rfl, hb1⟩; have HB1 := Lib.hid (HS0.out.kept (below_new hb1)); clear hb1) | ((with_reducible refine aS 4 ?_); refine wpList_alloc_row rfl 30 rfl _ (HZzs64.out _) ?_; have HB2 := Lib.hid (HB1.out.alloc (arr .u8 zs64) 30); generalize w1.heap.size = g4 at HB2 ⊢; generalize w1.alloc (.cells (arr .u8 zs64) 30) = w2 at HB2 ⊢) | ((with_reducible refine aT 4 ?_); refine wpList_store_whole rfl 30 _ _ rfl (g4) _ _ 30 (HB2.out.get 2 rfl) rfl rfl (arr_len2 _ _ HSL.out HLzs64.out) (sig_s HSL.out) (all_arr _ _) ?_; intro w3 hb3 hk3 hz3; have HB3 := Lib.hid (HB2.out.put 2 rfl hk3 hb3); clear hb3 hk3 hz3))
  (try simp only [World.size_alloc, Act.put, sA, sZ, sS])
  obtain ⟨z5901, hz5901⟩ : ∃ z : List Int, z = nar (dig 256 32 (spart seed)) := ⟨_, rfl⟩
  have HE5901 := Lib.hid hz5901
  have HL5901 : Hid (z5901.length = 32) := Lib.hid (by rw [hz5901]; exact (nar_len _).trans (dig_len _ _ _))
  clear hz5901
  refine wp_region_lin (fun (fF : Fill) (uF : World) => (∀ v, fF 0 = some v → v = .slice (some ⟨g4, 0, none⟩) 32 64 ∧ True) ∧ (∀ v, fF 1 = some v → v = .pointer (some ⟨g4, 0, none⟩) ∧ True) ∧ (∀ v, fF 2 = some v → v = .agg (arr .u8 h0) ∧ True) ∧ (∀ v, fF 3 = some v → v = .agg (arr .u8 z5901) ∧ K32 z5901 (spart seed)) ∧ (∀ v, fF 4 = some v → v = .slice (some ⟨g4, 32, none⟩) 32 32 ∧ True) ∧ (∀ v, fF 6 = some v → v = .slice (some ⟨g4, 32, none⟩) 32 32 ∧ True) ∧ Blk w uF ([(w.heap.size, arr .u8 ks, 23), (w.heap.size + 1, (if (fF 5).isSome = true then arr .u8 z5901 else arr .u8 zn), 23), (g4, arr .u8 hs, 30)])) (by kernel_rfl) (by kernel_rfl) ?zs2 ?ss2 ?es2
  case zs2 => exact ⟨fun _ h => (by cases h), fun _ h => (by cases h), fun _ h => (by cases h), fun _ h => (by cases h), fun _ h => (by cases h), fun _ h => (by cases h), HB3.out.drew⟩
  case ss2 =>
    refine LinAll.cons (fun fF bF uF kF hJF hfF hcF hupF hsF hKF => ?_) ?_
    · obtain ⟨j0, j1, j2, j3, j4, j6, hB⟩ := hJF
      have e4 : bF.eval (.tmp 4) = .pointer (some ⟨g4, 0, none⟩) := hsF.old' 4 (by kernel_rfl) rfl
      exact lin_pure rfl (.slice (some ⟨g4, 0, none⟩) 32 64) (by simp only [execOp, e4]; first | rfl | (go_simp; done)) (hKF _ _ ⟨fun _ h => ⟨sI h, trivial⟩, j1, j2, j3, j4, j6, hB⟩)
    refine LinAll.cons (fun fF bF uF kF hJF hfF hcF hupF hsF hKF => ?_) ?_
    · obtain ⟨j0, j1, j2, j3, j4, j6, hB⟩ := hJF
      obtain ⟨e8, p8⟩ := hsF.at hupF 0 8 (by kernel_rfl) rfl j0
      exact lin_pure rfl (.pointer (some ⟨g4, 0, none⟩)) (by simp only [execOp, e8]; first | rfl | (go_simp; done)) (hKF _ _ ⟨j0, fun _ h => ⟨sI h, trivial⟩, j2, j3, j4, j6, hB⟩)
    refine LinAll.cons (fun fF bF uF kF hJF hfF hcF hupF hsF hKF => ?_) ?_
    · obtain ⟨j0, j1, j2, j3, j4, j6, hB⟩ := hJF
      obtain ⟨e9, p9⟩ := hsF.at hupF 1 9 (by kernel_rfl) rfl j1
      have hB' := hB
      refine step_load_part rfl 23 _ rfl (g4) (0) (arr .u8 hs) 30 (0, 0) _ (hB'.get 2 rfl) e9 .u8 h0 (HPT.out) Tryd.underlying23 rfl (num_i H32L.out) ?_
      exact hKF _ _ ⟨j0, j1, fun _ h => ⟨sI h, trivial⟩, j3, j4, j6, hB⟩
    refine LinAll.cons (fun fF bF uF kF hJF hfF hcF hupF hsF hKF => ?_) ?_
    · obtain ⟨j0, j1, j2, j3, j4, j6, hB⟩ := hJF
      obtain ⟨e10, p10⟩ := hsF.at hupF 2 10 (by kernel_rfl) rfl j2
      refine lin_call rfl 57 [Operand.tmp 10] _ [.agg (arr .u8 h0)] rfl (by simp only [List.map_cons, List.map_nil, e10] <;> rfl) (fun _ _ => by kernel_rfl) ?_
      refine Calls.mono (HCLP.out _ _ H32.out) ?_
      rintro e w1 ⟨y5902_0, rfl, r5902_0, hb⟩
      obtain rfl : y5902_0 = z5901 := r5902_0.1.trans HE5901.out.symm
      exact ⟨_, rfl, hKF _ _ ⟨j0, j1, j2, fun _ h => ⟨sI h, r5902_0⟩, j4, j6, hB.kept hb⟩⟩
    refine LinAll.cons (fun fF bF uF kF hJF hfF hcF hupF hsF hKF => ?_) ?_
    · obtain ⟨j0, j1, j2, j3, j4, j6, hB⟩ := hJF
      have e4 : bF.eval (.tmp 4) = .pointer (some ⟨g4, 0, none⟩) := hsF.old' 4 (by kernel_rfl) rfl
      exact lin_pure rfl (.slice (some ⟨g4, 32, none⟩) 32 32) (by simp only [execOp, e4]; first | rfl | (go_simp; done)) (hKF _ _ ⟨j0, j1, j2, j3, fun _ h => ⟨sI h, trivial⟩, j6, hB⟩)
    refine LinAll.cons (fun fF bF uF kF hJF hfF hcF hupF hsF hKF => ?_) ?_
    · obtain ⟨j0, j1, j2, j3, j4, j6, hB⟩ := hJF
      have e2 : bF.eval (.tmp 2) = .pointer (some ⟨w.heap.size + 1, 0, none⟩) := hsF.old' 2 (by kernel_rfl) rfl
      obtain ⟨e11, p11⟩ := hsF.at hupF 3 11 (by kernel_rfl) rfl j3
      have y3 := hupF 3 (by kernel_rfl)
      obtain ⟨v3, s3⟩ := sE y3
      have HZ5901 := Lib.hid (j3 _ s3).2
      have hB' := hB
      rw [hfF] at hB'
      refine step_store_whole rfl 23 (.tmp 2) (.tmp 11) rfl (w.heap.size + 1) (arr .u8 zn) _ 23 (hB'.get 1 rfl) e2 e11 (arr_len2 _ _ HL5901.out HLzn.out) (num_s HL5901.out) (all_arr _ _) ?_
      intro w1 hb1 hk1 hz1
      have hB1 : Blk w w1 ([(w.heap.size, arr .u8 ks, 23), (w.heap.size + 1, (if ((some undef : Option Value)).isSome = true then arr .u8 z5901 else arr .u8 zn), 23), (g4, arr .u8 hs, 30)]) := hB'.put 1 rfl hk1 hb1
      exact hKF undef w1 ⟨j0, j1, j2, j3, j4, j6, hB1⟩
    refine LinAll.cons (fun fF bF uF kF hJF hfF hcF hupF hsF hKF => ?_) ?_
    · obtain ⟨j0, j1, j2, j3, j4, j6, hB⟩ := hJF
      obtain ⟨e12, p12⟩ := hsF.at hupF 4 12 (by kernel_rfl) rfl j4
      exact lin_pure rfl (.slice (some ⟨g4, 32, none⟩) 32 32) (by simp only [execOp, e12] <;> first | rfl | kernel_rfl | (go_simp; done)) (hKF _ _ ⟨j0, j1, j2, j3, j4, fun _ h => ⟨sI h, trivial⟩, hB⟩)
    exact LinAll.nil
  case es2 =>
  intro fF us2 hall hJF
  obtain ⟨j0, j1, j2, j3, j4, j6, hB⟩ := hJF
  obtain ⟨v0, h0⟩ := sE (hall 0 (by decide))
  obtain ⟨rfl, p0⟩ := j0 _ h0
  obtain ⟨v1, h1⟩ := sE (hall 1 (by decide))
  obtain ⟨rfl, p1⟩ := j1 _ h1
  obtain ⟨v2, h2⟩ := sE (hall 2 (by decide))
  obtain ⟨rfl, p2⟩ := j2 _ h2
  obtain ⟨v3, h3⟩ := sE (hall 3 (by decide))
  obtain ⟨rfl, p3⟩ := j3 _ h3
  obtain ⟨v4, h4⟩ := sE (hall 4 (by decide))
  obtain ⟨rfl, p4⟩ := j4 _ h4
  obtain ⟨v5, h5⟩ := sE (hall 5 (by decide))
  obtain ⟨v6, h6⟩ := sE (hall 6 (by decide))
  obtain ⟨rfl, p6⟩ := j6 _ h6
  rw [h5] at hB
  have HBs2 : Hid (Blk w us2 [(w.heap.size, arr .u8 ks, 23), (w.heap.size + 1, arr .u8 z5901, 23), (g4, arr .u8 hs, 30)]) := Lib.hid hB
  have HZ5901 := Lib.hid p3
  simp only [laid, Nat.zero_add, Nat.reduceAdd, h0, h1, h2, h3, h4, h5, h6, Act.put, sA, sZ, sS]
  clear j0 j1 j2 j3 j4 j6 hB h0 h1 h2 h3 h4 h5 h6 hall fF HB3
  clear p0 p1 p2 p3 p4 p6
  (try simp only [Exit.then])
  go_wp2_with fail
  refine bodyPost_ret (results_cell_tmp_row rfl _ _ (w.heap.size + 1) 23 _ (0, 0) _ _ rfl (HBs2.out.get 1 rfl) Tryd.underlying23 rfl (num_s HL5901.out) rfl) rfl ?_
  exact ⟨_, _, hs, rfl, HZ5901.out, ⟨HBs2.out.get 2 rfl, HBs2.out.low 2 rfl, HSL.out, rfl⟩, HBs2.out.below⟩

set_option maxRecDepth 100000 in
set_option maxHeartbeats 4000000 in
theorem cpublic_any {ks : List Int} (seed : Nat) (w : World) (hk : K32 ks seed) : Calls Tryd.prog 10 #[.agg (arr .u8 ks)] w fun e w' => ∃ zs, e = .returned (.agg (arr .u8 zs)) ∧ K32 zs (epub seed) ∧ Below w.heap.size w w' := by
  have HK := Lib.hid hk
  have HKL := Lib.hid hk.len
  obtain ⟨zn, hzn⟩ : ∃ zs : List Int, zs = List.replicate 32 0 := ⟨_, rfl⟩
  have HZzn : Hid (∀ w, (zeroValue 23).run Tryd.prog w = .ok (.agg (arr .u8 zn)) w) := Lib.hid (by intro w; rw [hzn]; exact zero_num w)
  have HLzn : Hid (zn.length = 32) := Lib.hid (by rw [hzn]; rfl)
  have HS0 := Lib.hid (Blk.two w (arr .u8 ks) (arr .u8 zn) 23 23)
  clear hzn hk
  go_enter Tryd.func10, Tryd.ntmps10
  go_upto_region 1 with (first | ((with_reducible refine aS 2 ?_); refine wpList_alloc_row rfl 23 rfl _ (HZzn.out _) ?_))
  (try simp only [World.size_alloc, Act.put, sA, sZ, sS])
  generalize ((w.alloc (.cells (arr .u8 ks) 23)).alloc (.cells (arr .u8 zn) 23)) = wb at HS0 ⊢
  go_upto_region 2 with (first | ((with_reducible refine aS 6 ?_); refine wpList_load_part rfl 23 _ rfl (w.heap.size) 0 _ 23 (0, 0) _ (HS0.out.get 0 rfl) rfl .u8 ks (arr_part _ _) Tryd.underlying23 rfl (num_i HKL.out) ?_) | ((with_reducible show Calls _ 26 _ _ _); go_at_call 26; refine (csecret_any _ _ HK.out).mono ?_; rintro e w1 ⟨z1, gs, hs1, rfl, h1, -, hb1⟩; have HZ1 := Lib.hid h1; have HL1 := Lib.hid h1.len; have HB1 := Lib.hid (HS0.out.kept hb1); clear h1 hb1) | ((with_reducible refine aS 3 ?_); refine wpList_alloc_row rfl 23 rfl _ (HZzn.out _) ?_; have HB2 := Lib.hid (HB1.out.alloc (arr .u8 zn) 23); generalize w1.heap.size = g3 at HB2 ⊢; generalize w1.alloc (.cells (arr .u8 zn) 23) = w2 at HB2 ⊢) | ((with_reducible refine aT 3 ?_); refine wpList_store_whole rfl 23 _ _ rfl (g3) _ _ 23 (HB2.out.get 2 rfl) rfl rfl (arr_len2 _ _ HL1.out HLzn.out) (num_s HL1.out) (all_arr _ _) ?_; intro w3 hb3 hk3 hz3; have HB3 := Lib.hid (HB2.out.put 2 rfl hk3 hb3); clear hb3 hk3 hz3))
  (try simp only [World.size_alloc, Act.put, sA, sZ, sS])
  obtain ⟨z5903, hz5903⟩ : ∃ z : List Int, z = ptl base := ⟨_, rfl⟩
  have HE5903 := Lib.hid hz5903
  have HL5903 : Hid (z5903.length = 16) := Lib.hid (by rw [hz5903]; exact ptl_len _)
  clear hz5903
  obtain ⟨z5904, hz5904⟩ : ∃ z : List Int, z = ptl (emul base (spart seed) 256) := ⟨_, rfl⟩
  have HE5904 := Lib.hid hz5904
  have HL5904 : Hid (z5904.length = 16) := Lib.hid (by rw [hz5904]; exact ptl_len _)
  clear hz5904
  obtain ⟨z5905, hz5905⟩ : ∃ z : List Int, z = nar (dig 256 32 (ebytes (emul base (spart seed) 256))) := ⟨_, rfl⟩
  have HE5905 := Lib.hid hz5905
  have HL5905 : Hid (z5905.length = 32) := Lib.hid (by rw [hz5905]; exact (nar_len _).trans (dig_len _ _ _))
  clear hz5905
  refine wp_region_lin (fun (fF : Fill) (uF : World) => (∀ v, fF 0 = some v → v = .agg (arr .u64 z5903) ∧ P4 z5903 base) ∧ (∀ v, fF 1 = some v → v = .agg (arr .u8 z1) ∧ True) ∧ (∀ v, fF 2 = some v → v = .agg (arr .u64 z5904) ∧ P4 z5904 (emul base (spart seed) 256)) ∧ (∀ v, fF 3 = some v → v = .agg (arr .u8 z5905) ∧ K32 z5905 (ebytes (emul base (spart seed) 256))) ∧ Blk w uF ([(w.heap.size, arr .u8 ks, 23), (w.heap.size + 1, (if (fF 4).isSome = true then arr .u8 z5905 else arr .u8 zn), 23), (g3, arr .u8 z1, 23)])) (by kernel_rfl) (by kernel_rfl) ?zp2 ?sp2 ?ep2
  case zp2 => exact ⟨fun _ h => (by cases h), fun _ h => (by cases h), fun _ h => (by cases h), fun _ h => (by cases h), HB3.out.drew⟩
  case sp2 =>
    refine LinAll.cons (fun fF bF uF kF hJF hfF hcF hupF hsF hKF => ?_) ?_
    · obtain ⟨j0, j1, j2, j3, hB⟩ := hJF
      refine lin_call rfl 27 [] _ [] rfl (by simp only [List.map_cons, List.map_nil] <;> rfl) (fun _ _ => by kernel_rfl) ?_
      refine Calls.mono (base_any _) ?_
      rintro e w1 ⟨y5906_0, rfl, r5906_0, hb⟩
      obtain rfl : y5906_0 = z5903 := r5906_0.1.trans HE5903.out.symm
      exact ⟨_, rfl, hKF _ _ ⟨fun _ h => ⟨sI h, r5906_0⟩, j1, j2, j3, hB.kept hb⟩⟩
    refine LinAll.cons (fun fF bF uF kF hJF hfF hcF hupF hsF hKF => ?_) ?_
    · obtain ⟨j0, j1, j2, j3, hB⟩ := hJF
      have e3 : bF.eval (.tmp 3) = .pointer (some ⟨g3, 0, none⟩) := hsF.old' 3 (by kernel_rfl) rfl
      have hB' := hB
      refine step_load_part rfl 23 _ rfl (g3) (0) (arr .u8 z1) 23 (0, 0) _ (hB'.get 2 rfl) e3 .u8 z1 (arr_part _ _) Tryd.underlying23 rfl (num_i HL1.out) ?_
      exact hKF _ _ ⟨j0, fun _ h => ⟨sI h, trivial⟩, j2, j3, hB⟩
    refine LinAll.cons (fun fF bF uF kF hJF hfF hcF hupF hsF hKF => ?_) ?_
    · obtain ⟨j0, j1, j2, j3, hB⟩ := hJF
      obtain ⟨e10, p10⟩ := hsF.at hupF 0 10 (by kernel_rfl) rfl j0
      obtain ⟨e11, p11⟩ := hsF.at hupF 1 11 (by kernel_rfl) rfl j1
      have y0 := hupF 0 (by kernel_rfl)
      obtain ⟨v0, s0⟩ := sE y0
      have HZ5903 := Lib.hid (j0 _ s0).2
      refine lin_call rfl 28 [Operand.tmp 10, Operand.tmp 11] _ [.agg (arr .u64 z5903), .agg (arr .u8 z1)] rfl (by simp only [List.map_cons, List.map_nil, e10, e11] <;> rfl) (fun _ _ => by kernel_rfl) ?_
      refine Calls.mono (ptimes_any _ _ _ HZ5903.out HZ1.out) ?_
      rintro e w1 ⟨y5907_0, rfl, r5907_0, hb⟩
      obtain rfl : y5907_0 = z5904 := r5907_0.1.trans HE5904.out.symm
      exact ⟨_, rfl, hKF _ _ ⟨j0, j1, fun _ h => ⟨sI h, r5907_0⟩, j3, hB.kept hb⟩⟩
    refine LinAll.cons (fun fF bF uF kF hJF hfF hcF hupF hsF hKF => ?_) ?_
    · obtain ⟨j0, j1, j2, j3, hB⟩ := hJF
      obtain ⟨e12, p12⟩ := hsF.at hupF 2 12 (by kernel_rfl) rfl j2
      have y2 := hupF 2 (by kernel_rfl)
      obtain ⟨v2, s2⟩ := sE y2
      have HZ5904 := Lib.hid (j2 _ s2).2
      refine lin_call rfl 29 [Operand.tmp 12] _ [.agg (arr .u64 z5904)] rfl (by simp only [List.map_cons, List.map_nil, e12] <;> rfl) (fun _ _ => by kernel_rfl) ?_
      refine Calls.mono (pbytes_any _ _ HZ5904.out) ?_
      rintro e w1 ⟨y5908_0, rfl, r5908_0, hb⟩
      obtain rfl : y5908_0 = z5905 := r5908_0.1.trans HE5905.out.symm
      exact ⟨_, rfl, hKF _ _ ⟨j0, j1, j2, fun _ h => ⟨sI h, r5908_0⟩, hB.kept hb⟩⟩
    refine LinAll.cons (fun fF bF uF kF hJF hfF hcF hupF hsF hKF => ?_) ?_
    · obtain ⟨j0, j1, j2, j3, hB⟩ := hJF
      have e2 : bF.eval (.tmp 2) = .pointer (some ⟨w.heap.size + 1, 0, none⟩) := hsF.old' 2 (by kernel_rfl) rfl
      obtain ⟨e13, p13⟩ := hsF.at hupF 3 13 (by kernel_rfl) rfl j3
      have y3 := hupF 3 (by kernel_rfl)
      obtain ⟨v3, s3⟩ := sE y3
      have HZ5905 := Lib.hid (j3 _ s3).2
      have hB' := hB
      rw [hfF] at hB'
      refine step_store_whole rfl 23 (.tmp 2) (.tmp 13) rfl (w.heap.size + 1) (arr .u8 zn) _ 23 (hB'.get 1 rfl) e2 e13 (arr_len2 _ _ HL5905.out HLzn.out) (num_s HL5905.out) (all_arr _ _) ?_
      intro w1 hb1 hk1 hz1
      have hB1 : Blk w w1 ([(w.heap.size, arr .u8 ks, 23), (w.heap.size + 1, (if ((some undef : Option Value)).isSome = true then arr .u8 z5905 else arr .u8 zn), 23), (g3, arr .u8 z1, 23)]) := hB'.put 1 rfl hk1 hb1
      exact hKF undef w1 ⟨j0, j1, j2, j3, hB1⟩
    exact LinAll.nil
  case ep2 =>
  intro fF up2 hall hJF
  obtain ⟨j0, j1, j2, j3, hB⟩ := hJF
  obtain ⟨v0, h0⟩ := sE (hall 0 (by decide))
  obtain ⟨rfl, p0⟩ := j0 _ h0
  obtain ⟨v1, h1⟩ := sE (hall 1 (by decide))
  obtain ⟨rfl, p1⟩ := j1 _ h1
  obtain ⟨v2, h2⟩ := sE (hall 2 (by decide))
  obtain ⟨rfl, p2⟩ := j2 _ h2
  obtain ⟨v3, h3⟩ := sE (hall 3 (by decide))
  obtain ⟨rfl, p3⟩ := j3 _ h3
  obtain ⟨v4, h4⟩ := sE (hall 4 (by decide))
  rw [h4] at hB
  have HBp2 : Hid (Blk w up2 [(w.heap.size, arr .u8 ks, 23), (w.heap.size + 1, arr .u8 z5905, 23), (g3, arr .u8 z1, 23)]) := Lib.hid hB
  have HZ5903 := Lib.hid p0
  have HZ5904 := Lib.hid p2
  have HZ5905 := Lib.hid p3
  simp only [laid, Nat.zero_add, Nat.reduceAdd, h0, h1, h2, h3, h4, Act.put, sA, sZ, sS]
  clear j0 j1 j2 j3 hB h0 h1 h2 h3 h4 hall fF HB3
  clear p0 p1 p2 p3
  (try simp only [Exit.then])
  go_wp2_with fail
  refine bodyPost_ret (results_cell_row rfl _ _ (w.heap.size + 1) 23 _ (0, 0) _ rfl (HBp2.out.get 1 rfl) Tryd.underlying23 rfl (num_s HL5905.out)) rfl ?_
  exact ⟨_, rfl, HZ5905.out, HBp2.out.below⟩

set_option maxRecDepth 100000 in
set_option maxHeartbeats 4000000 in
theorem csum_any (g oa na : Nat) (LA : List (List Int)) (sb : Option Addr) (nb cb : Nat) (LB : List (List Int)) (w : World) (hA : SrcL w (some ⟨g, oa, none⟩) na LA) (hB : SrcL w sb nb LB)
    (bA : ∀ l ∈ LA, bytes l) (bB : ∀ l ∈ LB, bytes l) (hN : (LA ++ LB).flatten.length ≤ 1152921504606846976) (hn : na + nb ≤ 1099511627776) :
    Calls Tryd.prog 35 #[.slice sb nb cb, .slice (some ⟨g, oa, none⟩) na na] w fun e w' => ∃ zs, e = .returned (.agg (arr .u8 zs)) ∧ K32 zs (wide (LA ++ LB).flatten) ∧ Below w.heap.size w w' := by
  have hsum := fun (ad : Addr) (c : Nat) (w' : World) (hs : SrcL w' (some ad) (na + nb) (LA ++ LB)) => Hb.sum_any (some ad) (na + nb) c (LA ++ LB) w' hs (fun l h => (List.mem_append.1 h).elim (bA l) (bB l)) hN hn
  have hwd : wide (LA ++ LB).flatten = hnum (Hb.hash (LA ++ LB).flatten) % q := rfl
  have hh := hash_bytes' (LA ++ LB).flatten
  have hl := Hb.hash_len (LA ++ LB).flatten
  rw [hwd]
  obtain ⟨hs, hhs⟩ : ∃ h, h = Hb.hash (LA ++ LB).flatten := ⟨_, rfl⟩
  rw [← hhs] at hsum hh hl ⊢
  have hd := dig_hnum hh
  rw [hl] at hd
  have hV := hnum_lt hh
  rw [hl] at hV
  obtain ⟨V, hVe⟩ : ∃ v, v = hnum hs := ⟨_, rfl⟩
  rw [← hVe] at hd hV ⊢
  have HA := Lib.hid (hA.below ((Below.refl _ w).alloc (Nat.le_refl _) (.cells (arr .u8 (List.replicate 32 0)) 23)))
  have HB := Lib.hid (hB.below ((Below.refl _ w).alloc (Nat.le_refl _) (.cells (arr .u8 (List.replicate 32 0)) 23)))
  have HSUM := Lib.hid hsum
  have HHN := Lib.hid hn
  have HRED : Hid (∀ (sa : Option Addr) (w : World), Src w sa 64 hs → Calls Tryd.prog 76 #[.slice sa 64 64] w fun e w' => ∃ zs, e = .returned (.agg (arr .u8 zs)) ∧ K32 zs (V % q) ∧ Below w.heap.size w w') := Lib.hid (fun sa w h => sreduce_any sa 64 V w (by rw [hd]; exact h) hV (Nat.le_refl _))
  have HSL := Lib.hid hl
  obtain ⟨zn, hzn⟩ : ∃ zs : List Int, zs = List.replicate 32 0 := ⟨_, rfl⟩
  have HZzn : Hid (∀ w, (zeroValue 23).run Tryd.prog w = .ok (.agg (arr .u8 zn)) w) := Lib.hid (by intro w; rw [hzn]; exact zero_num w)
  have HLzn : Hid (zn.length = 32) := Lib.hid (by rw [hzn]; rfl)
  obtain ⟨zs64, hzs64⟩ : ∃ zs : List Int, zs = List.replicate 64 0 := ⟨_, rfl⟩
  have HZzs64 : Hid (∀ w, (zeroValue 30).run Tryd.prog w = .ok (.agg (arr .u8 zs64)) w) := Lib.hid (by intro w; rw [hzs64]; exact zero_sig w)
  have HLzs64 : Hid (zs64.length = 64) := Lib.hid (by rw [hzs64]; rfl)
  rw [← hzn] at HA HB
  have HS0 := Lib.hid (Blk.one w (arr .u8 zn) 23)
  clear hzn hzs64 hA hB bA bB hN hn hsum hwd hh hl hhs hd hV hVe
  go_enter Tryd.func35, Tryd.ntmps35
  go_upto_region 1 with (first | ((with_reducible refine aS 4 ?_); refine wpList_alloc_row rfl 23 rfl _ (HZzn.out _) ?_))
  (try simp only [World.size_alloc, Act.put, sA, sZ, sS])
  generalize (w.alloc (.cells (arr .u8 zn) 23)) = wb at HS0 HA HB ⊢
  go_upto_region 2 with (first | ((with_reducible refine aS 8 ?_); refine wpList_appLL rfl (.tmp 6) (.tmp 7) rfl g oa na LA sb nb cb LB rfl rfl HA.out HB.out HHN.out ?_; intro ad' cap w0 hs0 hb0; have HL0 := Lib.hid hs0; have HB0 := Lib.hid (HS0.out.kept hb0); clear hs0 hb0) | ((with_reducible show Calls _ 56 _ _ _); go_at_call 56; refine (HSUM.out _ _ _ HL0.out).mono ?_; rintro e w1 ⟨rfl, hb1⟩; have HB1 := Lib.hid (HB0.out.kept hb1); clear hb1) | ((with_reducible refine aS 5 ?_); refine wpList_alloc_row rfl 30 rfl _ (HZzs64.out _) ?_; have HB2 := Lib.hid (HB1.out.alloc (arr .u8 zs64) 30); generalize w1.heap.size = g5 at HB2 ⊢; generalize w1.alloc (.cells (arr .u8 zs64) 30) = w2 at HB2 ⊢) | ((with_reducible refine aT 5 ?_); refine wpList_store_whole rfl 30 _ _ rfl (g5) _ _ 30 (HB2.out.get 1 rfl) rfl rfl (arr_len2 _ _ HSL.out HLzs64.out) (sig_s HSL.out) (all_arr _ _) ?_; intro w3 hb3 hk3 hz3; have HB3 := Lib.hid (HB2.out.put 1 rfl hk3 hb3); clear hb3 hk3 hz3))
  (try simp only [World.size_alloc, Act.put, sA, sZ, sS])
  go_wp2_with (first | ((with_reducible show Calls _ 76 _ _ _); go_at_call 76; refine (HRED.out _ _ (src_all (HB3.out.get 1 rfl) 64 HSL.out)).mono ?_; rintro e w4 ⟨z4, rfl, h4, hb4⟩; have HZ4 := Lib.hid h4; have HL4 := Lib.hid h4.len; have HB4 := Lib.hid (HB3.out.kept hb4); clear h4 hb4) | ((with_reducible refine aT 4 ?_); refine wpList_store_whole rfl 23 _ _ rfl (w.heap.size) _ _ 23 (HB4.out.get 0 rfl) rfl rfl (arr_len2 _ _ HL4.out HLzn.out) (num_s HL4.out) (all_arr _ _) ?_; intro w5 hb5 hk5 hz5; have HB5 := Lib.hid (HB4.out.put 0 rfl hk5 hb5); clear hb5 hk5 hz5))
  (try simp only [Exit.then])
  refine bodyPost_ret (results_cell_row rfl _ _ (w.heap.size) 23 _ (0, 0) _ rfl (HB5.out.get 0 rfl) Tryd.underlying23 rfl (num_s HL4.out)) rfl ?_
  exact ⟨_, rfl, HZ4.out, HB5.out.below⟩
end Go.Proofs.YtanjhngehfbpbaaDoor.Sl
