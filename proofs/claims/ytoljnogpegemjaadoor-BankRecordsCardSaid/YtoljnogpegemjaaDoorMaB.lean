/- derive.Extract, Expand (of 32 bytes), Key; wrap.key: what they answer. Condition: the key and the bytes lie there. -/
import Derived.Test.YtoljnogpegemjaaDoorMaA
import Derived.Test.YtoljnogpegemjaaDoorStb
import Derived.Test.YtoljnogpegemjaaDoorL1
namespace Go.Proofs.YtoljnogpegemjaaDoor.Wr
open Go.RowKit Lm Cu Sl
set_option linter.unusedSimpArgs false
set_option linter.unusedSimpArgs false
set_option linter.unusedVariables false

theorem src_three {w : World} {g : Nat} {t : TypeId} {fr : Nat × Nat} {s1 s2 s3 : Option Addr} {n1 n2 n3 c1 c2 c3 : Nat} {x1 x2 x3 : List Int} (h : w.heap[g]? = some (.cells #[.slice s1 n1 c1, .slice s2 n2 c2, .slice s3 n3 c3] t fr))
    (h1 : Src w s1 n1 x1) (h2 : Src w s2 n2 x2) (h3 : Src w s3 n3 x3) (l1 : n1 ≤ c1) (l2 : n2 ≤ c2) (l3 : n3 ≤ c3) : SrcL w (some ⟨g, 0, none⟩) 3 [x1, x2, x3] := by
  have e1 := h1.len
  have e2 := h2.len
  have e3 := h3.len
  subst e1 e2 e3
  refine ⟨rfl, fun i hi => ?_⟩
  match i, hi with
  | 0, _ => exact ⟨_, s1, c1, rfl, by rw [show (⟨g, 0, none⟩ : Addr).add 0 = ⟨g, 0, none⟩ from rfl, cell_blk h]; rfl, l1, h1⟩
  | 1, _ => exact ⟨_, s2, c2, rfl, by rw [show (⟨g, 0, none⟩ : Addr).add 1 = ⟨g, 1, none⟩ from rfl, cell_blk h]; rfl, l2, h2⟩
  | 2, _ => exact ⟨_, s3, c3, rfl, by rw [show (⟨g, 0, none⟩ : Addr).add 2 = ⟨g, 2, none⟩ from rfl, cell_blk h]; rfl, l3, h3⟩

set_option maxRecDepth 100000 in
set_option maxHeartbeats 8000000 in
theorem expand_any (key info : List Int) (sb : Option Addr) (nb cb : Nat) (w : World) (hk : key.length = 32) (hb : bytes key) (hB : Src w sb nb info) (bB : bytes info) (hc : nb ≤ cb) (hn : nb ≤ 1099511627770) :
    Calls Tryd.prog 108 #[.agg (arr .u8 key), .slice sb nb cb, .int .i64 32] w fun e w' => ∃ g, e = .returned (.tuple #[.slice (some ⟨g, 0, none⟩) 32 32, .int .i64 0]) ∧ Src w' (some ⟨g, 0, none⟩) 32 (mac key (info ++ [1])) ∧ Below w.heap.size w w' := by
  have hl := hB.len
  have hms := fun (g g2 : Addr) (u : World) (h1 : Src u (some g) 32 key) (h2 : SrcL u (some g2) 3 [[], info, [1]]) => msum_any key g 32 32 (some g2) 3 3 [[], info, [1]] u h1 hb (by decide) h2 (by intro l h; simp only [List.mem_cons, List.not_mem_nil, or_false] at h; rcases h with rfl | rfl | rfl; exact (fun x hx => by simp at hx); exact bB; exact (fun x hx => by simp only [List.mem_singleton] at hx; subst hx; decide)) (by rw [show ([[], info, [1]] : List (List Int)).flatten = info ++ [1] by simp, List.length_append, hl]; simp; omega) (by decide)
  rw [show ([[], info, [1]] : List (List Int)).flatten = info ++ [1] by simp] at hms
  obtain ⟨h1, hh1⟩ : ∃ x, x = mac key (info ++ [1]) := ⟨_, rfl⟩
  rw [← hh1] at hms ⊢
  have HH1 : Hid (h1.length = 32) := Lib.hid (by rw [hh1]; exact mac_len _ _)
  have hsl : ∀ (u : World) (x : Int), x = 1 → Src u sb nb info → SrcL ((u.alloc (.cells #[.int .u8 x] 5)).alloc (.cells #[.slice none 0 0, .slice sb nb cb, .slice (some ⟨u.heap.size, 0, none⟩) 1 1] 24)) (some ⟨u.heap.size + 1, 0, none⟩) 3 [[], info, [1]] := by
    rintro u x rfl h
    have b1 : Below u.heap.size u (u.alloc (.cells #[.int .u8 1] 5)) := (Below.refl _ u).alloc (Nat.le_refl _) _
    have b2 := (Below.refl _ (u.alloc (.cells #[.int .u8 1] 5))).alloc (Nat.le_refl _) (.cells #[.slice none 0 0, .slice sb nb cb, .slice (some ⟨u.heap.size, 0, none⟩) 1 1] 24)
    have e := blk_new (u.alloc (.cells #[.int .u8 1] 5)) (.cells #[.slice none 0 0, .slice sb nb cb, .slice (some ⟨u.heap.size, 0, none⟩) 1 1] 24)
    rw [size1] at e
    exact src_three e ⟨rfl, fun i hi => absurd hi (by simp)⟩ ((h.below b1).below b2) ((src_one u 1).below b2) (Nat.le_refl _) hc (Nat.le_refl _)
  have HMS := Lib.hid hms
  have HSL := Lib.hid hsl
  have HSB := Lib.hid hB
  have HKL := Lib.hid hk
  obtain ⟨zn, hzn⟩ : ∃ zs : List Int, zs = List.replicate 32 0 := ⟨_, rfl⟩
  have HZzn : Hid (∀ w, (zeroValue 23).run Tryd.prog w = .ok (.agg (arr .u8 zn)) w) := Lib.hid (by intro w; rw [hzn]; exact zero_num w)
  have HLzn : Hid (zn.length = 32) := Lib.hid (by rw [hzn]; rfl)
  have HI0 := Lib.hid (Blk.one w (arr .u8 key) 23)
  clear hh1 hms hsl hB hc hzn hb bB hn hk hl
  go_enter Tryd.func108, Tryd.ntmps108
  go_wp2_with fail
  go_loopw [8, 9, 10] (fun v8 v9 v10 wr => (v10 = .int .i64 1 ∧ v8 = .slice none 0 0 ∧ v9 = .slice none 0 0 ∧ Blk w wr [(w.heap.size, arr .u8 key, 23)]) ∨ (v10 = .int .i64 2 ∧ Own8 wr w.heap.size v8 h1 ∧ Below w.heap.size w wr)) (fun _ _ v10 _ => (3 - intOf v10).toNat)
  case atStart => exact Or.inl ⟨rfl, rfl, rfl, HI0.out⟩
  clear HI0
  case round =>
  rcases hrel with ⟨rfl, rfl, rfl, hB⟩ | ⟨rfl, ho, hbl⟩
  · have HB := Lib.hid hB
    clear hB
    go_wp2_with (first | ((with_reducible show Calls _ 69 _ _ _); go_at_call 69; refine (HMS.out _ _ _ (src_all (((HB.out.alloc _ _).alloc _ _).get 0 rfl) 32 HKL.out) (HSL.out _ _ (by decide) (HSB.out.below HB.out.below))).mono ?_; rintro e w1 ⟨rfl, hb1⟩; have HI1 := Lib.hid (HB.out.kept (below_new (below_new hb1))); clear hb1) | ((with_reducible show wpList _ _ _ (Oper.mk (some 11) _ _ _ _ _ :: _) _ _); refine wpList_alloc_row rfl 23 rfl _ (HZzn.out _) ?_; have HI2 := Lib.hid (HI1.out.alloc (arr .u8 zn) 23); generalize w1.heap.size = g11 at HI2 ⊢; generalize w1.alloc (.cells (arr .u8 zn) 23) = w2 at HI2 ⊢) | ((with_reducible show wpList _ _ _ (Oper.mk none (Op.store _ (Operand.tmp 11) _) _ _ _ _ :: _) _ _); refine wpList_store_whole rfl 23 _ _ rfl (g11) _ _ 23 (HI2.out.get 1 rfl) rfl rfl (arr_len2 _ _ HH1.out HLzn.out) (num_s HH1.out) (all_arr _ _) ?_; intro w3 hb3 hk3 hz3; have HI3 := Lib.hid (HI2.out.put 1 rfl hk3 hb3); clear hb3 hk3 hz3) | ((with_reducible show wpList _ _ _ (Oper.mk (some 35) _ _ _ _ _ :: _) _ _); refine wpList_app8 rfl (.tmp 33) (.tmp 34) rfl w3.heap.size _ [] rfl (Own8.nil _ _) _ 32 32 h1 rfl (src_all (HI3.out.get 1 rfl) 32 HH1.out) (by decide) (Nat.le_refl _) ?_; rw [List.nil_append]; intro v8 w4 how hgr _ _; have hb4 := app8_below (Own8.nil w3 w3.heap.size) hgr (Below.refl _ _) (Nat.le_refl _); have HO4 := Lib.hid (how.mono HI3.out.below.size); have HB4 := Lib.hid (HI3.out.kept hb4).below; clear how hgr hb4))
    go_roundw
    case rel => exact Or.inr ⟨rfl, HO4.out, HB4.out⟩
    case measure => simp [intOf]
  · obtain ⟨sa, c, rfl, hcc, hcm, hsr, hor⟩ := ho.form
    rcases hor with ⟨-, h0, -⟩ | ⟨g, rfl, -, -⟩
    · have := HH1.out
      rw [h0] at this
      exact absurd this (by decide)
    rw [HH1.out] at hcc hsr ⊢
    have HSR := Lib.hid hsr
    have HBL := Lib.hid hbl
    have hc1 : ¬ (c : Int) < 32 := by omega
    clear ho hsr hbl hcm
    go_wp2_with fail
    (try simp only [Exit.then])
    go_ret2
    exact ⟨g, rfl, HSR.out, HBL.out⟩

theorem wpList_s2a' {P : Program} {ops : Array Oper} {rest : List Oper} {o : Oper} {a : Act} {w : World} {Q : Exit → Act → World → Prop} (hg : o.guard = none) (t : TypeId) (x : Operand) (ho : o.op = .sliceToArrayPointer t x) (v u : Value) (hx : a.eval x = v) (hrun : (Instr.arrayAt t v).run P w = .ok u w)
    (h : wpList P ops Q rest (a.put o.dst u) w) : wpList P ops Q (o :: rest) a w := by
  refine wpList_plain hg fun _ hK => ?_
  unfold Oper.wp execOp
  simp only [ho, hx, Sem.run_bind, hrun, Result.andThen_ok]
  exact hK _ _ h
theorem cells_of' {w : World} {g : Nat} {zs : List Int} {n : Nat} (h : Src w (some ⟨g, 0, none⟩) n zs) : w.rangeAt g 0 (zs.map (Value.int .u8)) := by
  intro j v hj
  rw [List.getElem?_map, Option.map_eq_some_iff] at hj
  obtain ⟨y, hy, rfl⟩ := hj
  obtain ⟨hj1, hj2⟩ := List.getElem?_eq_some_iff.1 hy
  obtain ⟨a, e, hc⟩ := h.cell j (by rw [← h.len]; exact hj1)
  cases e
  rw [Addr.add_lit] at hc
  rw [hc]
  simp [List.getD, hy]
theorem wpList_conv' {P : Program} {ops : Array Oper} {rest : List Oper} {o : Oper} {a : Act} {w w' : World} {Q : Exit → Act → World → Prop} (hg : o.guard = none) (t u : TypeId) (x : Operand) (ho : o.op = .convert t u x) (v v' : Value) (hx : a.eval x = v) (hrun : (convert t u v).run P w = .ok v' w')
    (h : wpList P ops Q rest (a.put o.dst v') w') : wpList P ops Q (o :: rest) a w := by
  refine wpList_plain hg fun _ hK => ?_
  unfold Oper.wp execOp
  simp only [ho, hx, Sem.run_bind, hrun, Result.andThen_ok]
  exact hK _ _ h

set_option maxRecDepth 100000 in
set_option maxHeartbeats 8000000 in
theorem key_any (key : List Int) (s : ByteArray) (w : World) (hk : key.length = 32) (hb : bytes key) (hn : s.size ≤ 1099511627770) :
    Calls Tryd.prog 68 #[.agg (arr .u8 key), .string s] w fun e w' => e = .returned (.agg (arr .u8 (mac key (sbytes s ++ [1])))) ∧ Below w.heap.size w w' := by
  have hex := fun (sb : Option Addr) (cb : Nat) (u : World) (h : Src u sb s.size (sbytes s)) (hc : s.size ≤ cb) => expand_any key (sbytes s) sb s.size cb u hk hb h (bytes_sbytes s) hc hn
  obtain ⟨h1, hh1⟩ : ∃ x, x = mac key (sbytes s ++ [1]) := ⟨_, rfl⟩
  rw [← hh1] at hex ⊢
  have HH1 : Hid (h1.length = 32) := Lib.hid (by rw [hh1]; exact mac_len _ _)
  have HEX := Lib.hid hex
  have HKL := Lib.hid hk
  obtain ⟨zn, hzn⟩ : ∃ zs : List Int, zs = List.replicate 32 0 := ⟨_, rfl⟩
  have HZzn : Hid (∀ w, (zeroValue 23).run Tryd.prog w = .ok (.agg (arr .u8 zn)) w) := Lib.hid (by intro w; rw [hzn]; exact zero_num w)
  have HLzn : Hid (zn.length = 32) := Lib.hid (by rw [hzn]; rfl)
  have HI0 := Lib.hid (Blk.two w (arr .u8 key) (arr .u8 zn) 23 23)
  clear hh1 hex hb hk hn hzn
  go_enter Tryd.func68, Tryd.ntmps68
  go_upto_region 1 with (first | ((with_reducible show wpList _ _ _ (Oper.mk (some 4) _ _ _ _ _ :: _) _ _); refine wpList_alloc_row rfl 23 rfl _ (HZzn.out _) ?_))
  (try simp only [World.size_alloc, Act.put, List.setIfInBounds_toArray, List.set_cons_zero, List.set_cons_succ])
  generalize ((w.alloc (.cells (arr .u8 key) 23)).alloc (.cells (arr .u8 zn) 23)) = wb at HI0 ⊢
  go_wp2_with (first | ((with_reducible show wpList _ _ _ (Oper.mk (some 8) _ _ _ _ _ :: _) _ _); refine wpList_load_part rfl 23 _ rfl (w.heap.size) 0 _ 23 (0, 0) _ (HI0.out.get 0 rfl) rfl .u8 key (arr_part _ _) Tryd.underlying23 rfl (num_i HKL.out) ?_) | ((with_reducible show wpList _ _ _ (Oper.mk (some 10) _ _ _ _ _ :: _) _ _); refine wpList_conv' rfl 9 24 (.tmp 9) rfl _ _ rfl (conv_str s _) ?_; have HS1 := Lib.hid (conv_str_src wb s); have HC1 := Lib.hid (conv_str_cap wb s); have HI1 := Lib.hid (HI0.out.kept (conv_str_below wb s)); generalize Lib.bytesWorld wb 5 s = w1 at HS1 HI1 ⊢; generalize grownCap wb s.size 0 5 = c1 at HC1 ⊢) | ((with_reducible show Calls _ 108 _ _ _); go_at_call 108; refine (HEX.out _ _ _ HS1.out HC1.out).mono ?_; rintro e w2 ⟨g2, rfl, hs2, hb2⟩; have HS2 := Lib.hid hs2; have HI2 := Lib.hid (HI1.out.kept hb2); clear hs2 hb2) | ((with_reducible show wpList _ _ _ (Oper.mk (some 15) _ _ _ _ _ :: _) _ _); refine wpList_s2a' rfl 23 (.tmp 14) rfl (.slice (some ⟨g2, 0, none⟩) 32 32) (.pointer (some ⟨g2, 0, none⟩)) rfl (by first | rfl | kernel_rfl) ?_) | ((with_reducible show wpList _ _ _ (Oper.mk (some 16) _ _ _ _ _ :: _) _ _); refine wpList_load_mid rfl 23 (.tmp 15) rfl g2 0 rfl (h1.map (Value.int .u8)) _ (cells_of' HS2.out) Tryd.underlying23 rfl (by rw [List.length_map]; exact num_i HH1.out) ?_) | ((with_reducible show wpList _ _ _ (Oper.mk none (Op.store _ (Operand.tmp 4) _) _ _ _ _ :: _) _ _); refine wpList_store_whole rfl 23 _ _ rfl (w.heap.size + 1) _ _ 23 (HI2.out.get 1 rfl) rfl rfl (arr_len2 _ _ HH1.out HLzn.out) (num_s HH1.out) (all_arr _ _) ?_; intro w3 hb3 hk3 hz3; have HI3 := Lib.hid (HI2.out.put 1 rfl hk3 hb3); clear hb3 hk3 hz3))
  (try simp only [Exit.then])
  refine bodyPost_ret (results_cell_row rfl _ _ (w.heap.size + 1) 23 _ (0, 0) _ rfl (HI3.out.get 1 rfl) Tryd.underlying23 rfl (num_s HH1.out)) rfl ?_
  exact ⟨rfl, HI3.out.below⟩

end Go.Proofs.YtoljnogpegemjaaDoor.Wr
