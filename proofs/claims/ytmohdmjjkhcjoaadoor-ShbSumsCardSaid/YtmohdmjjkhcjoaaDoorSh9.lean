/- portcullislaw6.ShbCuts: what it answers. Condition: the bytes lie there, within their capacity; the document's table holds what its text lays. -/
import Derived.Test.YtmohdmjjkhcjoaaDoorSh8
import Derived.Deep.RegionHeld3
import Derived.Deep.MidRow
namespace Go.Proofs.YtmohdmjjkhcjoaaDoor.Hb
open Go.RowKit

theorem guard_sig : Tryd.prog.eqGuardType Tryd.prog.depth 28 = false := by kernel_rfl
theorem eq_sig (H : List Int) (hl : H.length = 64) (w : World) : (binOp .eql 28 (.agg (H.map (Value.int .u8)).toArray) (.agg (H.map (Value.int .u8)).toArray)).run Tryd.prog w = .ok (.bool true) w := by
  have := run_eql_arr (P := Tryd.prog) w 28 5 64 .u8 .u8 Tryd.underlying28 Tryd.underlying5 size_u8 H H hl hl
  rw [beq_self_eq_true] at this
  exact this

theorem src_list3 {w : World} {s1 s2 s3 : Option Addr} {n1 n2 n3 c1 c2 c3 : Nat} {x1 x2 x3 : List Int} (h1 : Src w s1 n1 x1) (h2 : Src w s2 n2 x2) (h3 : Src w s3 n3 x3) (l1 : n1 ≤ c1) (l2 : n2 ≤ c2) (l3 : n3 ≤ c3) :
    SrcL (w.alloc (.cells #[.slice s1 n1 c1, .slice s2 n2 c2, .slice s3 n3 c3] 25)) (some ⟨w.heap.size, 0, none⟩) 3 [x1, x2, x3] := by
  have hb := blk_new w (.cells #[.slice s1 n1 c1, .slice s2 n2 c2, .slice s3 n3 c3] 25)
  have hbl := (Below.refl _ w).alloc (Nat.le_refl _) (.cells #[.slice s1 n1 c1, .slice s2 n2 c2, .slice s3 n3 c3] 25)
  refine ⟨rfl, fun i hi => ?_⟩
  have e1 : ∀ i, (⟨w.heap.size, 0, none⟩ : Addr).add i = ⟨w.heap.size, i, none⟩ := fun i => by unfold Addr.add; split <;> simp_all
  have : i = 0 ∨ i = 1 ∨ i = 2 := by omega
  rcases this with rfl | rfl | rfl
  · exact ⟨_, s1, c1, rfl, by rw [e1, cell_blk hb]; show some _ = some _; rw [show ([x1, x2, x3].getD 0 []).length = n1 from h1.len]; rfl, by rw [show ([x1, x2, x3].getD 0 []).length = n1 from h1.len]; exact l1, by rw [show ([x1, x2, x3].getD 0 []).length = n1 from h1.len]; exact h1.below hbl⟩
  · exact ⟨_, s2, c2, rfl, by rw [e1, cell_blk hb]; show some _ = some _; rw [show ([x1, x2, x3].getD 1 []).length = n2 from h2.len]; rfl, by rw [show ([x1, x2, x3].getD 1 []).length = n2 from h2.len]; exact l2, by rw [show ([x1, x2, x3].getD 1 []).length = n2 from h2.len]; exact h2.below hbl⟩
  · exact ⟨_, s3, c3, rfl, by rw [e1, cell_blk hb]; show some _ = some _; rw [show ([x1, x2, x3].getD 2 []).length = n3 from h3.len]; rfl, by rw [show ([x1, x2, x3].getD 2 []).length = n3 from h3.len]; exact l3, by rw [show ([x1, x2, x3].getD 2 []).length = n3 from h3.len]; exact h3.below hbl⟩

theorem src_if {w : World} {ad : Addr} {n : Nat} {xs : List Int} (h : Src w (some ad) n xs) (c o m : Nat) (hc : n ≤ c) (hm : o + m ≤ n) : Src w (if c = o then some ad else some (ad.add o)) m ((xs.drop o).take m) := by
  by_cases e : c = o
  · rw [if_pos e]
    have hz : m = 0 := by omega
    subst hz
    exact ⟨by simp, fun i hi => absurd hi (by omega)⟩
  · rw [if_neg e]
    exact h.part o m hm
theorem cut3 (xs : List Int) (I K : Nat) (h : I ≤ K) : ([xs.take I, (xs.drop I).take (K - I), xs.drop K] : List (List Int)).flatten = xs := by
  have e : xs.drop K = (xs.drop I).drop (K - I) := by rw [List.drop_drop]; congr 1; omega
  simp only [List.flatten_cons, List.flatten_nil, List.append_nil]
  rw [e, List.take_append_drop, List.take_append_drop]

set_option maxRecDepth 100000 in
set_option maxHeartbeats 4000000 in
theorem cuts_some (ad : Addr) (n c I K : Nat) (xs : List Int) (w : World) (hs : Src w (some ad) n xs) (hx : bytes xs) (hc : n ≤ c) (hn : n ≤ 1000) (hIK : I ≤ K) (hK : K ≤ n) (hk : TabK w) :
    Calls Tryd.prog 5 #[.slice (some ad) n c, .int .i64 (I : Int), .int .i64 (K : Int)] w fun e w' => e = .returned (.bool true) ∧ Below w.heap.size w w' := by
  have hxl := hs.len
  obtain ⟨Hh, hHh⟩ : ∃ Hh, Hh = hash xs := ⟨_, rfl⟩
  obtain ⟨rc, hrc⟩ : ∃ rc, rc = Hh.map (Value.int .u8) := ⟨_, rfl⟩
  have hHl : Hh.length = 64 := by rw [hHh]; exact hash_len _
  have earr : arr .u8 Hh = rc.toArray := by rw [hrc]; rfl
  have hS1 : ∀ w', Below w.heap.size w w' → Calls Tryd.prog 11 #[.slice (some ⟨w'.heap.size, 0, none⟩) 1 1] (w'.alloc (.cells #[.slice (some ad) n c] 25)) fun e w'' => e = .returned (.agg rc.toArray) ∧ Below w.heap.size w w'' := fun w' hb => by
    have hsl := srcL_one (l := xs) (ci := c) (by rw [hxl]; exact hs.below hb) (by rw [hxl]; exact hc)
    rw [hxl] at hsl
    refine (sum_any _ 1 1 [xs] _ hsl (by intro l hl; simp at hl; subst hl; exact hx) (by simp; omega) (by omega)).mono fun e w'' h => ⟨?_, (hb.alloc hb.size _).trans (h.2.mono (by have := hb.size; simp; omega))⟩
    rw [h.1, show ([xs] : List (List Int)).flatten = xs by simp, ← hHh, earr]
  have hS3 : ∀ w', Below w.heap.size w w' → Calls Tryd.prog 11 #[.slice (some ⟨w'.heap.size, 0, none⟩) 3 3] (w'.alloc (.cells #[.slice (some ad) I c, .slice (if c = I then some ad else some (ad.add I)) (K - I) (c - I), .slice (if c = K then some ad else some (ad.add K)) (n - K) (c - K)] 25)) fun e w'' => e = .returned (.agg rc.toArray) ∧ Below w'.heap.size (w'.alloc (.cells #[.slice (some ad) I c, .slice (if c = I then some ad else some (ad.add I)) (K - I) (c - I), .slice (if c = K then some ad else some (ad.add K)) (n - K) (c - K)] 25)) w'' := fun w' hb => by
    have h1 := hs.below hb
    have hsl := src_list3 (h1.take I (by omega)) (src_if h1 c I (K - I) hc (by omega)) (by have h := src_if h1 c K (n - K) hc (by omega); rwa [List.take_of_length_le (by simp; omega)] at h) (show I ≤ c by omega) (show (K - I) ≤ (c - I) by omega) (show (n - K) ≤ (c - K) by omega)
    refine (sum_any _ 3 3 _ _ hsl (by
      intro l hl
      simp only [List.mem_cons, List.not_mem_nil, or_false] at hl
      rcases hl with rfl | rfl | rfl
      · exact fun x h => hx x (List.mem_of_mem_take h)
      · exact fun x h => (by first | exact hx x (List.mem_of_mem_drop (List.mem_of_mem_take h)) | exact hx x (List.mem_of_mem_take h))
      · exact fun x h => (by first | exact hx x (List.mem_of_mem_drop h) | exact hx x h)) (by rw [cut3 xs I K (by omega)]; omega) (by omega)).mono fun e w'' h => ⟨?_, h.2.mono (by simp)⟩
    rw [h.1, cut3 xs I K (by omega), ← hHh, earr]
  have hR : ∀ w', Below w.heap.size w w' → Calls Tryd.prog 10 #[.slice (some ad) n c] w' fun e w'' => e = .returned (.agg rc.toArray) ∧ Below w'.heap.size w' w'' := fun w' hb => by
    refine (ref_any _ _ c xs w' (hs.below hb) hx (by omega) (hk.below hb)).mono fun e w'' h => ⟨?_, h.2⟩
    rw [h.1, ← hHh, earr]
  have q1 : ∀ w : World, (binOp .eql 28 (.agg rc.toArray) (.agg rc.toArray)).run Tryd.prog w = .ok (.bool true) w := fun w => by rw [hrc]; exact eq_sig Hh hHl w
  have u1 := Tryd.underlying28
  have i1 : (Tryd.prog.info? 28).map (·.size) = some rc.length := by rw [hrc, List.length_map, hHl]; exact sizeOut
  have z2 : (Tryd.prog.info? 28).map (·.size) = some rc.toArray.size := by rw [← earr, arr_size, hHl]; exact sizeOut
  have z3 : rc.toArray.size = (arr .u8 (List.replicate 64 0)).size := by rw [← earr, arr_size, arr_size, hHl, List.length_replicate]
  have z4 : rc.toArray.all (·.oneCell') = true := by rw [← earr]; exact all_arr _ _
  have gn := guard_sig
  have HS1 := Lib.hid hS1
  have HS3 := Lib.hid hS3
  have HR := Lib.hid hR
  have Z2 := Lib.hid z2
  have Z3 := Lib.hid z3
  have Z4 := Lib.hid z4
  clear hS1 hS3 hR z2 z3 z4 earr hHl hrc hHh hxl hs hx hk
  go_enter Tryd.func5, Tryd.ntmps5
  go_wp2_with (first | (go_at_call 7; refine (alive6_any _).mono ?_; rintro e w1 ⟨rfl, hb1⟩; have HB1 := Lib.hid hb1; clear hb1) | (go_at_call 11; refine (HS1.out _ HB1.out).mono ?_; rintro e w2 ⟨rfl, hb2⟩; have HB2 := Lib.hid hb2; clear hb2) | ((with_reducible show wpList _ _ _ (Oper.mk (some 8) _ _ _ _ _ :: _) _ _); refine wpList_alloc_row rfl 28 rfl _ (zeroOut _) ?_; have HA := Lib.hid (blk_new w2 (.cells (arr .u8 (List.replicate 64 0)) 28))) | ((with_reducible show wpList _ _ _ (Oper.mk none _ _ _ _ _ :: _) _ _); refine wpList_store_whole rfl 28 _ _ rfl w2.heap.size _ _ 28 HA.out rfl rfl Z3.out Z2.out Z4.out ?_; intro w5 hb5 hk5 hz5; have HW5 := Lib.hid hb5; have HB5 := Lib.hid ((HB2.out.alloc HB2.out.size _).trans (hk5.toBelow (by simp; have := HB2.out.size; omega) (by rintro i rfl; exact HB2.out.size))); clear hb5 hk5 hz5))
  have hBD : Below w5.heap.size w5 w5.drew := (Below.refl _ w5).drew
  have hRG : ∀ w', Below w5.heap.size w5 w' → w'.rangeAt w2.heap.size 0 rc := fun w' hb => range_part (Below.blk hb HW5.out (blk_lt HW5.out)) 0 rc (by simp)
  have hREF : ∀ w', Below w5.heap.size w5 w' → Calls Tryd.prog 10 #[.slice (some ad) n c] w' fun e w'' => e = .returned (.agg rc.toArray) ∧ Below w5.heap.size w5 w'' := fun w' hb =>
    (HR.out w' (HB5.out.trans (hb.mono HB5.out.size))).mono fun e w'' h => ⟨h.1, hb.trans (h.2.mono hb.size)⟩
  have hSUM : ∀ w', Below w5.heap.size w5 w' → Calls Tryd.prog 11 #[.slice (some ⟨w'.heap.size, 0, none⟩) 3 3] (w'.alloc (.cells #[.slice (some ad) I c, .slice (if c = I then some ad else some (ad.add I)) (K - I) (c - I), .slice (if c = K then some ad else some (ad.add K)) (n - K) (c - K)] 25)) fun e w'' => e = .returned (.agg rc.toArray) ∧ Below w5.heap.size w5 w'' := fun w' hb =>
    (HS3.out w' (HB5.out.trans (hb.mono HB5.out.size))).mono fun e w'' h => ⟨h.1, (hb.alloc hb.size _).trans (h.2.mono hb.size)⟩
  obtain ⟨g, hg⟩ : ∃ g, g = w2.heap.size := ⟨_, rfl⟩
  rw [← hg] at hRG ⊢
  have bIc : I ≤ c := by omega
  have bKc : K ≤ c := by omega
  have bIn : I ≤ n := by omega
  have HBD := Lib.hid hBD
  have HRG := Lib.hid hRG
  have HREF := Lib.hid hREF
  have HSUM := Lib.hid hSUM
  clear hBD hRG hREF hSUM hg HW5 HA HS1 HS3 HR
  refine wp_region_held_drew (S := (fun w' => w'.rangeAt g 0 rc)) (by kernel_rfl) (HRG.out _ HBD.out) (fun hHeld => ?_)
  refine' wpAnyH_take (i := 0) (oi := ({ dst := some 36, op := Op.load 28 (Operand.tmp 8), type := 28, pos := "more.go:17", after := #[], guard := none } : Oper)) (v := _) rfl (by kernel_rfl) (by kernel_rfl) (by kernel_rfl) (fun _ _ _ h => h) (yieldsIf_load_mid (by rfl) _ _ rfl _ _ rfl rc _ ?hS0 u1 rfl i1) (by assumption) ?rest0
  case hS0 => (intro w hSw; exact hSw)
  (try simp only [Act.put, List.setIfInBounds_toArray, List.set_cons_zero, List.set_cons_succ])
  refine wpAnyH_take (i := 1) (oi := ({ dst := some 37, op := Op.move (Operand.tmp 0), type := 25, pos := "more.go:17", after := #[], guard := none } : Oper)) (v := ?v1) rfl (by kernel_rfl) (by kernel_rfl) (by kernel_rfl) (fun _ _ _ h => h) (Or.inl ⟨by rfl, ?hy1⟩) (by assumption) ?rest1
  case hy1 => (intro w hSw; (try dsimp only at hSw); go_simp; try (with_reducible rfl))
  (try simp only [Act.put, List.setIfInBounds_toArray, List.set_cons_zero, List.set_cons_succ])
  refine wpAnyH_ready (rs := [2]) (by kernel_rfl) (by simp) ?_
  refine AllReadyH.cons (o := ({ dst := some 38, op := Op.call { callee := Callee.value (Operand.func 10), args := #[Operand.tmp 37], argTypes := #[25] }, type := 28, pos := "more.go:17", after := #[{ on := 1, ground := Ground.data }], guard := none } : Oper)) rfl (fun K hK => ?_) AllReadyH.nil
  go_simp
  (refine (HREF.out _ HBD.out).mono ?_; rintro e w6 ⟨rfl, hb6⟩; have HB6 := Lib.hid hb6; clear hb6)
  (try dsimp only)
  refine hK.out _ _ (HRG.out _ HB6.out) (fun hHeld => ?_)
  clear hK K
  (try simp only [Act.put, List.setIfInBounds_toArray, List.set_cons_zero, List.set_cons_succ])
  refine wpAnyH_take (i := 3) (oi := ({ dst := some 39, op := Op.binOp BinOp.eql 28 (Operand.tmp 36) (Operand.tmp 38) 28, type := 4, pos := "more.go:17", after := #[{ on := 0, ground := Ground.data }, { on := 2, ground := Ground.data }], guard := none } : Oper)) (v := ?v3) rfl (by kernel_rfl) (by kernel_rfl) (by kernel_rfl) (fun _ _ _ h => h) (Or.inl ⟨by rfl, ?hy3⟩) (by assumption) ?rest3
  case hy3 => (intro w hSw; (try dsimp only at hSw); go_simp; try (with_reducible rfl))
  (try simp only [Act.put, List.setIfInBounds_toArray, List.set_cons_zero, List.set_cons_succ])
  refine wpAnyH_take (i := 4) (oi := ({ dst := some 40, op := Op.move (Operand.tmp 39), type := 4, pos := "more.go:17", after := #[{ on := 3, ground := Ground.data }, { on := 2, ground := Ground.chain }], guard := none } : Oper)) (v := ?v4) rfl (by kernel_rfl) (by kernel_rfl) (by kernel_rfl) (fun _ _ _ h => h) (Or.inl ⟨by rfl, ?hy4⟩) (by assumption) ?rest4
  case hy4 => (intro w hSw; (try dsimp only at hSw); go_simp; try (with_reducible rfl))
  (try simp only [Act.put, List.setIfInBounds_toArray, List.set_cons_zero, List.set_cons_succ])
  refine' wpAnyH_take (i := 5) (oi := ({ dst := some 41, op := Op.load 28 (Operand.tmp 8), type := 28, pos := "more.go:17", after := #[{ on := 4, ground := Ground.guard }], guard := some (4, true) } : Oper)) (v := _) rfl (by kernel_rfl) (by kernel_rfl) (by kernel_rfl) (fun _ _ _ h => h) (yieldsIf_load_mid (by rfl) _ _ rfl _ _ rfl rc _ ?hS5 u1 rfl i1) (by assumption) ?rest5
  case hS5 => (intro w hSw; exact hSw)
  (try simp only [Act.put, List.setIfInBounds_toArray, List.set_cons_zero, List.set_cons_succ])
  refine wpAnyH_take (i := 6) (oi := ({ dst := some 42, op := Op.move (Operand.tmp 0), type := 25, pos := "more.go:17", after := #[{ on := 4, ground := Ground.guard }], guard := some (4, true) } : Oper)) (v := ?v6) rfl (by kernel_rfl) (by kernel_rfl) (by kernel_rfl) (fun _ _ _ h => h) (Or.inl ⟨by rfl, ?hy6⟩) (by assumption) ?rest6
  case hy6 => (intro w hSw; (try dsimp only at hSw); go_simp; try (with_reducible rfl))
  (try simp only [Act.put, List.setIfInBounds_toArray, List.set_cons_zero, List.set_cons_succ])
  refine wpAnyH_take (i := 7) (oi := ({ dst := some 43, op := Op.move (Operand.tmp 1), type := 3, pos := "more.go:17", after := #[{ on := 4, ground := Ground.guard }], guard := some (4, true) } : Oper)) (v := ?v7) rfl (by kernel_rfl) (by kernel_rfl) (by kernel_rfl) (fun _ _ _ h => h) (Or.inl ⟨by rfl, ?hy7⟩) (by assumption) ?rest7
  case hy7 => (intro w hSw; (try dsimp only at hSw); go_simp; try (with_reducible rfl))
  (try simp only [Act.put, List.setIfInBounds_toArray, List.set_cons_zero, List.set_cons_succ])
  refine wpAnyH_take (i := 8) (oi := ({ dst := some 44, op := Op.slice 25 (Operand.tmp 42) none (some (Operand.tmp 43)) none, type := 25, pos := "more.go:17", after := #[{ on := 6, ground := Ground.data }, { on := 7, ground := Ground.data }, { on := 4, ground := Ground.guard }], guard := some (4, true) } : Oper)) (v := ?v8) rfl (by kernel_rfl) (by kernel_rfl) (by kernel_rfl) (fun _ _ _ h => h) (Or.inl ⟨by rfl, ?hy8⟩) (by assumption) ?rest8
  case hy8 => (intro w hSw; (try dsimp only at hSw); go_simp; try (with_reducible rfl))
  (try simp only [Act.put, List.setIfInBounds_toArray, List.set_cons_zero, List.set_cons_succ])
  refine wpAnyH_take (i := 9) (oi := ({ dst := some 45, op := Op.move (Operand.tmp 0), type := 25, pos := "more.go:17", after := #[{ on := 4, ground := Ground.guard }], guard := some (4, true) } : Oper)) (v := ?v9) rfl (by kernel_rfl) (by kernel_rfl) (by kernel_rfl) (fun _ _ _ h => h) (Or.inl ⟨by rfl, ?hy9⟩) (by assumption) ?rest9
  case hy9 => (intro w hSw; (try dsimp only at hSw); go_simp; try (with_reducible rfl))
  (try simp only [Act.put, List.setIfInBounds_toArray, List.set_cons_zero, List.set_cons_succ])
  refine wpAnyH_take (i := 10) (oi := ({ dst := some 46, op := Op.move (Operand.tmp 1), type := 3, pos := "more.go:17", after := #[{ on := 4, ground := Ground.guard }], guard := some (4, true) } : Oper)) (v := ?v10) rfl (by kernel_rfl) (by kernel_rfl) (by kernel_rfl) (fun _ _ _ h => h) (Or.inl ⟨by rfl, ?hy10⟩) (by assumption) ?rest10
  case hy10 => (intro w hSw; (try dsimp only at hSw); go_simp; try (with_reducible rfl))
  (try simp only [Act.put, List.setIfInBounds_toArray, List.set_cons_zero, List.set_cons_succ])
  refine wpAnyH_take (i := 11) (oi := ({ dst := some 47, op := Op.move (Operand.tmp 2), type := 3, pos := "more.go:17", after := #[{ on := 4, ground := Ground.guard }], guard := some (4, true) } : Oper)) (v := ?v11) rfl (by kernel_rfl) (by kernel_rfl) (by kernel_rfl) (fun _ _ _ h => h) (Or.inl ⟨by rfl, ?hy11⟩) (by assumption) ?rest11
  case hy11 => (intro w hSw; (try dsimp only at hSw); go_simp; try (with_reducible rfl))
  (try simp only [Act.put, List.setIfInBounds_toArray, List.set_cons_zero, List.set_cons_succ])
  refine wpAnyH_take (i := 12) (oi := ({ dst := some 48, op := Op.slice 25 (Operand.tmp 45) (some (Operand.tmp 46)) (some (Operand.tmp 47)) none, type := 25, pos := "more.go:17", after := #[{ on := 9, ground := Ground.data }, { on := 10, ground := Ground.data }, { on := 11, ground := Ground.data }, { on := 4, ground := Ground.guard }], guard := some (4, true) } : Oper)) (v := ?v12) rfl (by kernel_rfl) (by kernel_rfl) (by kernel_rfl) (fun _ _ _ h => h) (Or.inl ⟨by rfl, ?hy12⟩) (by assumption) ?rest12
  case hy12 => (intro w hSw; (try dsimp only at hSw); go_simp; try (with_reducible rfl))
  (try simp only [Act.put, List.setIfInBounds_toArray, List.set_cons_zero, List.set_cons_succ])
  refine wpAnyH_take (i := 13) (oi := ({ dst := some 49, op := Op.move (Operand.tmp 0), type := 25, pos := "more.go:17", after := #[{ on := 4, ground := Ground.guard }], guard := some (4, true) } : Oper)) (v := ?v13) rfl (by kernel_rfl) (by kernel_rfl) (by kernel_rfl) (fun _ _ _ h => h) (Or.inl ⟨by rfl, ?hy13⟩) (by assumption) ?rest13
  case hy13 => (intro w hSw; (try dsimp only at hSw); go_simp; try (with_reducible rfl))
  (try simp only [Act.put, List.setIfInBounds_toArray, List.set_cons_zero, List.set_cons_succ])
  refine wpAnyH_take (i := 14) (oi := ({ dst := some 50, op := Op.move (Operand.tmp 2), type := 3, pos := "more.go:17", after := #[{ on := 4, ground := Ground.guard }], guard := some (4, true) } : Oper)) (v := ?v14) rfl (by kernel_rfl) (by kernel_rfl) (by kernel_rfl) (fun _ _ _ h => h) (Or.inl ⟨by rfl, ?hy14⟩) (by assumption) ?rest14
  case hy14 => (intro w hSw; (try dsimp only at hSw); go_simp; try (with_reducible rfl))
  (try simp only [Act.put, List.setIfInBounds_toArray, List.set_cons_zero, List.set_cons_succ])
  refine wpAnyH_take (i := 15) (oi := ({ dst := some 51, op := Op.slice 25 (Operand.tmp 49) (some (Operand.tmp 50)) none none, type := 25, pos := "more.go:17", after := #[{ on := 13, ground := Ground.data }, { on := 14, ground := Ground.data }, { on := 4, ground := Ground.guard }], guard := some (4, true) } : Oper)) (v := ?v15) rfl (by kernel_rfl) (by kernel_rfl) (by kernel_rfl) (fun _ _ _ h => h) (Or.inl ⟨by rfl, ?hy15⟩) (by assumption) ?rest15
  case hy15 => (intro w hSw; (try dsimp only at hSw); go_simp; try (with_reducible rfl))
  (try simp only [Act.put, List.setIfInBounds_toArray, List.set_cons_zero, List.set_cons_succ])
  refine wpAnyH_ready (rs := [16]) (by kernel_rfl) (by simp) ?_
  refine AllReadyH.cons (o := ({ dst := some 52, op := Op.buildSlice 22 3 #[(0, Operand.tmp 44), (1, Operand.tmp 48), (2, Operand.tmp 51)], type := 22, pos := "more.go:17", after := #[{ on := 8, ground := Ground.data }, { on := 12, ground := Ground.data }, { on := 15, ground := Ground.data }, { on := 4, ground := Ground.guard }], guard := some (4, true) } : Oper)) rfl (fun K hK => ?_) AllReadyH.nil
  go_simp
  (try dsimp only)
  refine hK.out _ _ (HRG.out _ (HB6.out.alloc HB6.out.size _)) (fun hHeld => ?_)
  clear hK K
  (try simp only [Act.put, List.setIfInBounds_toArray, List.set_cons_zero, List.set_cons_succ])
  refine wpAnyH_ready (rs := [17]) (by kernel_rfl) (by simp) ?_
  refine AllReadyH.cons (o := ({ dst := some 53, op := Op.call { callee := Callee.value (Operand.func 11), args := #[Operand.tmp 52], argTypes := #[22] }, type := 28, pos := "more.go:17", after := #[{ on := 16, ground := Ground.data }, { on := 4, ground := Ground.chain }, { on := 4, ground := Ground.guard }], guard := some (4, true) } : Oper)) rfl (fun K hK => ?_) AllReadyH.nil
  go_simp
  (refine (HSUM.out _ HB6.out).mono ?_; rintro e w8 ⟨rfl, hb8⟩; have HB8 := Lib.hid hb8; clear hb8)
  (try dsimp only)
  refine hK.out _ _ (HRG.out _ HB8.out) (fun hHeld => ?_)
  clear hK K
  (try simp only [Act.put, List.setIfInBounds_toArray, List.set_cons_zero, List.set_cons_succ])
  refine wpAnyH_take (i := 18) (oi := ({ dst := some 54, op := Op.binOp BinOp.eql 28 (Operand.tmp 41) (Operand.tmp 53) 28, type := 4, pos := "more.go:17", after := #[{ on := 5, ground := Ground.data }, { on := 17, ground := Ground.data }, { on := 4, ground := Ground.guard }], guard := some (4, true) } : Oper)) (v := ?v18) rfl (by kernel_rfl) (by kernel_rfl) (by kernel_rfl) (fun _ _ _ h => h) (Or.inl ⟨by rfl, ?hy18⟩) (by assumption) ?rest18
  case hy18 => (intro w hSw; (try dsimp only at hSw); go_simp; try (with_reducible rfl))
  (try simp only [Act.put, List.setIfInBounds_toArray, List.set_cons_zero, List.set_cons_succ])
  refine wpAnyH_take (i := 19) (oi := ({ dst := some 55, op := Op.pick (Operand.tmp 40) (Operand.tmp 54) (Operand.const (Value.bool false)), type := 4, pos := "more.go:17", after := #[{ on := 4, ground := Ground.data }, { on := 18, ground := Ground.data }], guard := none } : Oper)) (v := ?v19) rfl (by kernel_rfl) (by kernel_rfl) (by kernel_rfl) (fun _ _ _ h => h) (Or.inl ⟨by rfl, ?hy19⟩) (by assumption) ?rest19
  case hy19 => (intro w hSw; (try dsimp only at hSw); go_simp; try (with_reducible rfl))
  (try simp only [Act.put, List.setIfInBounds_toArray, List.set_cons_zero, List.set_cons_succ])
  refine wpAnyH_take (i := 20) (oi := ({ dst := some 6, op := Op.assign (Operand.tmp 55), type := 4, pos := "more.go:17", after := #[{ on := 19, ground := Ground.data }, { on := 17, ground := Ground.chain }, { on := 0, ground := Ground.phase }, { on := 1, ground := Ground.phase }, { on := 2, ground := Ground.phase }, { on := 3, ground := Ground.phase }, { on := 4, ground := Ground.phase }, { on := 5, ground := Ground.phase }, { on := 6, ground := Ground.phase }, { on := 7, ground := Ground.phase }, { on := 8, ground := Ground.phase }, { on := 9, ground := Ground.phase }, { on := 10, ground := Ground.phase }, { on := 11, ground := Ground.phase }, { on := 12, ground := Ground.phase }, { on := 13, ground := Ground.phase }, { on := 14, ground := Ground.phase }, { on := 15, ground := Ground.phase }, { on := 16, ground := Ground.phase }, { on := 17, ground := Ground.phase }, { on := 18, ground := Ground.phase }, { on := 19, ground := Ground.phase }], guard := none } : Oper)) (v := ?v20) rfl (by kernel_rfl) (by kernel_rfl) (by kernel_rfl) (fun _ _ _ h => h) (Or.inl ⟨by rfl, ?hy20⟩) (by assumption) ?rest20
  case hy20 => (intro w hSw; (try dsimp only at hSw); go_simp; try (with_reducible rfl))
  (try simp only [Act.put, List.setIfInBounds_toArray, List.set_cons_zero, List.set_cons_succ])
  refine wpAnyH_done (by kernel_rfl) ?_ _
  all_goals (
    (try go_wp2_with fail)
    all_goals (
      go_ret
      exact ⟨rfl, HB5.out.trans (HB8.out.mono HB5.out.size)⟩))

set_option maxRecDepth 100000 in
set_option maxHeartbeats 4000000 in
theorem cuts_none (c : Nat) (xs : List Int) (w : World) (hs : Src w none 0 xs) (hx : bytes xs) (hc : 0 ≤ c) (_hn : 0 ≤ 1000) (hk : TabK w) :
    Calls Tryd.prog 5 #[.slice none 0 c, .int .i64 0, .int .i64 0] w fun e w' => e = .returned (.bool true) ∧ Below w.heap.size w w' := by
  have hxl := hs.len
  obtain ⟨Hh, hHh⟩ : ∃ Hh, Hh = hash xs := ⟨_, rfl⟩
  obtain ⟨rc, hrc⟩ : ∃ rc, rc = Hh.map (Value.int .u8) := ⟨_, rfl⟩
  have hHl : Hh.length = 64 := by rw [hHh]; exact hash_len _
  have earr : arr .u8 Hh = rc.toArray := by rw [hrc]; rfl
  have hS1 : ∀ w', Below w.heap.size w w' → Calls Tryd.prog 11 #[.slice (some ⟨w'.heap.size, 0, none⟩) 1 1] (w'.alloc (.cells #[.slice none 0 c] 25)) fun e w'' => e = .returned (.agg rc.toArray) ∧ Below w.heap.size w w'' := fun w' hb => by
    have hsl := srcL_one (l := xs) (ci := c) (by rw [hxl]; exact hs.below hb) (by rw [hxl]; exact hc)
    rw [hxl] at hsl
    refine (sum_any _ 1 1 [xs] _ hsl (by intro l hl; simp at hl; subst hl; exact hx) (by simp; omega) (by omega)).mono fun e w'' h => ⟨?_, (hb.alloc hb.size _).trans (h.2.mono (by have := hb.size; simp; omega))⟩
    rw [h.1, show ([xs] : List (List Int)).flatten = xs by simp, ← hHh, earr]
  have hS3 : ∀ w', Below w.heap.size w w' → Calls Tryd.prog 11 #[.slice (some ⟨w'.heap.size, 0, none⟩) 3 3] (w'.alloc (.cells #[.slice none 0 c, .slice none 0 c, .slice none 0 c] 25)) fun e w'' => e = .returned (.agg rc.toArray) ∧ Below w'.heap.size (w'.alloc (.cells #[.slice none 0 c, .slice none 0 c, .slice none 0 c] 25)) w'' := fun w' hb => by
    have h1 := hs.below hb
    have hsl := src_list3 (h1.take 0 (by omega)) (show Src w' none 0 ((xs.drop 0).take (0 - 0)) from by have e : xs = [] := List.eq_nil_of_length_eq_zero hxl; rw [e] at h1 ⊢; exact h1) (show Src w' none 0 (xs.drop 0) from by have e : xs = [] := List.eq_nil_of_length_eq_zero hxl; rw [e] at h1 ⊢; exact h1) (show 0 ≤ c by omega) (show 0 ≤ c by omega) (show 0 ≤ c by omega)
    refine (sum_any _ 3 3 _ _ hsl (by
      intro l hl
      simp only [List.mem_cons, List.not_mem_nil, or_false] at hl
      rcases hl with rfl | rfl | rfl
      · exact fun x h => hx x (List.mem_of_mem_take h)
      · exact fun x h => (by first | exact hx x (List.mem_of_mem_drop (List.mem_of_mem_take h)) | exact hx x (List.mem_of_mem_take h))
      · exact fun x h => (by first | exact hx x (List.mem_of_mem_drop h) | exact hx x h)) (by rw [cut3 xs 0 0 (by omega)]; omega) (by omega)).mono fun e w'' h => ⟨?_, h.2.mono (by simp)⟩
    rw [h.1, cut3 xs 0 0 (by omega), ← hHh, earr]
  have hR : ∀ w', Below w.heap.size w w' → Calls Tryd.prog 10 #[.slice none 0 c] w' fun e w'' => e = .returned (.agg rc.toArray) ∧ Below w'.heap.size w' w'' := fun w' hb => by
    refine (ref_any _ _ c xs w' (hs.below hb) hx (by omega) (hk.below hb)).mono fun e w'' h => ⟨?_, h.2⟩
    rw [h.1, ← hHh, earr]
  have q1 : ∀ w : World, (binOp .eql 28 (.agg rc.toArray) (.agg rc.toArray)).run Tryd.prog w = .ok (.bool true) w := fun w => by rw [hrc]; exact eq_sig Hh hHl w
  have u1 := Tryd.underlying28
  have i1 : (Tryd.prog.info? 28).map (·.size) = some rc.length := by rw [hrc, List.length_map, hHl]; exact sizeOut
  have z2 : (Tryd.prog.info? 28).map (·.size) = some rc.toArray.size := by rw [← earr, arr_size, hHl]; exact sizeOut
  have z3 : rc.toArray.size = (arr .u8 (List.replicate 64 0)).size := by rw [← earr, arr_size, arr_size, hHl, List.length_replicate]
  have z4 : rc.toArray.all (·.oneCell') = true := by rw [← earr]; exact all_arr _ _
  have gn := guard_sig
  have HS1 := Lib.hid hS1
  have HS3 := Lib.hid hS3
  have HR := Lib.hid hR
  have Z2 := Lib.hid z2
  have Z3 := Lib.hid z3
  have Z4 := Lib.hid z4
  clear hS1 hS3 hR z2 z3 z4 earr hHl hrc hHh hxl hs hx hk
  go_enter Tryd.func5, Tryd.ntmps5
  go_wp2_with (first | (go_at_call 7; refine (alive6_any _).mono ?_; rintro e w1 ⟨rfl, hb1⟩; have HB1 := Lib.hid hb1; clear hb1) | (go_at_call 11; refine (HS1.out _ HB1.out).mono ?_; rintro e w2 ⟨rfl, hb2⟩; have HB2 := Lib.hid hb2; clear hb2) | ((with_reducible show wpList _ _ _ (Oper.mk (some 8) _ _ _ _ _ :: _) _ _); refine wpList_alloc_row rfl 28 rfl _ (zeroOut _) ?_; have HA := Lib.hid (blk_new w2 (.cells (arr .u8 (List.replicate 64 0)) 28))) | ((with_reducible show wpList _ _ _ (Oper.mk none _ _ _ _ _ :: _) _ _); refine wpList_store_whole rfl 28 _ _ rfl w2.heap.size _ _ 28 HA.out rfl rfl Z3.out Z2.out Z4.out ?_; intro w5 hb5 hk5 hz5; have HW5 := Lib.hid hb5; have HB5 := Lib.hid ((HB2.out.alloc HB2.out.size _).trans (hk5.toBelow (by simp; have := HB2.out.size; omega) (by rintro i rfl; exact HB2.out.size))); clear hb5 hk5 hz5))
  have hBD : Below w5.heap.size w5 w5.drew := (Below.refl _ w5).drew
  have hRG : ∀ w', Below w5.heap.size w5 w' → w'.rangeAt w2.heap.size 0 rc := fun w' hb => range_part (Below.blk hb HW5.out (blk_lt HW5.out)) 0 rc (by simp)
  have hREF : ∀ w', Below w5.heap.size w5 w' → Calls Tryd.prog 10 #[.slice none 0 c] w' fun e w'' => e = .returned (.agg rc.toArray) ∧ Below w5.heap.size w5 w'' := fun w' hb =>
    (HR.out w' (HB5.out.trans (hb.mono HB5.out.size))).mono fun e w'' h => ⟨h.1, hb.trans (h.2.mono hb.size)⟩
  have hSUM : ∀ w', Below w5.heap.size w5 w' → Calls Tryd.prog 11 #[.slice (some ⟨w'.heap.size, 0, none⟩) 3 3] (w'.alloc (.cells #[.slice none 0 c, .slice none 0 c, .slice none 0 c] 25)) fun e w'' => e = .returned (.agg rc.toArray) ∧ Below w5.heap.size w5 w'' := fun w' hb =>
    (HS3.out w' (HB5.out.trans (hb.mono HB5.out.size))).mono fun e w'' h => ⟨h.1, (hb.alloc hb.size _).trans (h.2.mono hb.size)⟩
  obtain ⟨g, hg⟩ : ∃ g, g = w2.heap.size := ⟨_, rfl⟩
  rw [← hg] at hRG ⊢
  have bz : 0 ≤ c := by omega
  have HBD := Lib.hid hBD
  have HRG := Lib.hid hRG
  have HREF := Lib.hid hREF
  have HSUM := Lib.hid hSUM
  clear hBD hRG hREF hSUM hg HW5 HA HS1 HS3 HR
  refine wp_region_held_drew (S := (fun w' => w'.rangeAt g 0 rc)) (by kernel_rfl) (HRG.out _ HBD.out) (fun hHeld => ?_)
  refine' wpAnyH_take (i := 0) (oi := ({ dst := some 36, op := Op.load 28 (Operand.tmp 8), type := 28, pos := "more.go:17", after := #[], guard := none } : Oper)) (v := _) rfl (by kernel_rfl) (by kernel_rfl) (by kernel_rfl) (fun _ _ _ h => h) (yieldsIf_load_mid (by rfl) _ _ rfl _ _ rfl rc _ ?hS0 u1 rfl i1) (by assumption) ?rest0
  case hS0 => (intro w hSw; exact hSw)
  (try simp only [Act.put, List.setIfInBounds_toArray, List.set_cons_zero, List.set_cons_succ])
  refine wpAnyH_take (i := 1) (oi := ({ dst := some 37, op := Op.move (Operand.tmp 0), type := 25, pos := "more.go:17", after := #[], guard := none } : Oper)) (v := ?v1) rfl (by kernel_rfl) (by kernel_rfl) (by kernel_rfl) (fun _ _ _ h => h) (Or.inl ⟨by rfl, ?hy1⟩) (by assumption) ?rest1
  case hy1 => (intro w hSw; (try dsimp only at hSw); go_simp; try (with_reducible rfl))
  (try simp only [Act.put, List.setIfInBounds_toArray, List.set_cons_zero, List.set_cons_succ])
  refine wpAnyH_ready (rs := [2]) (by kernel_rfl) (by simp) ?_
  refine AllReadyH.cons (o := ({ dst := some 38, op := Op.call { callee := Callee.value (Operand.func 10), args := #[Operand.tmp 37], argTypes := #[25] }, type := 28, pos := "more.go:17", after := #[{ on := 1, ground := Ground.data }], guard := none } : Oper)) rfl (fun K hK => ?_) AllReadyH.nil
  go_simp
  (refine (HREF.out _ HBD.out).mono ?_; rintro e w6 ⟨rfl, hb6⟩; have HB6 := Lib.hid hb6; clear hb6)
  (try dsimp only)
  refine hK.out _ _ (HRG.out _ HB6.out) (fun hHeld => ?_)
  clear hK K
  (try simp only [Act.put, List.setIfInBounds_toArray, List.set_cons_zero, List.set_cons_succ])
  refine wpAnyH_take (i := 3) (oi := ({ dst := some 39, op := Op.binOp BinOp.eql 28 (Operand.tmp 36) (Operand.tmp 38) 28, type := 4, pos := "more.go:17", after := #[{ on := 0, ground := Ground.data }, { on := 2, ground := Ground.data }], guard := none } : Oper)) (v := ?v3) rfl (by kernel_rfl) (by kernel_rfl) (by kernel_rfl) (fun _ _ _ h => h) (Or.inl ⟨by rfl, ?hy3⟩) (by assumption) ?rest3
  case hy3 => (intro w hSw; (try dsimp only at hSw); go_simp; try (with_reducible rfl))
  (try simp only [Act.put, List.setIfInBounds_toArray, List.set_cons_zero, List.set_cons_succ])
  refine wpAnyH_take (i := 4) (oi := ({ dst := some 40, op := Op.move (Operand.tmp 39), type := 4, pos := "more.go:17", after := #[{ on := 3, ground := Ground.data }, { on := 2, ground := Ground.chain }], guard := none } : Oper)) (v := ?v4) rfl (by kernel_rfl) (by kernel_rfl) (by kernel_rfl) (fun _ _ _ h => h) (Or.inl ⟨by rfl, ?hy4⟩) (by assumption) ?rest4
  case hy4 => (intro w hSw; (try dsimp only at hSw); go_simp; try (with_reducible rfl))
  (try simp only [Act.put, List.setIfInBounds_toArray, List.set_cons_zero, List.set_cons_succ])
  refine' wpAnyH_take (i := 5) (oi := ({ dst := some 41, op := Op.load 28 (Operand.tmp 8), type := 28, pos := "more.go:17", after := #[{ on := 4, ground := Ground.guard }], guard := some (4, true) } : Oper)) (v := _) rfl (by kernel_rfl) (by kernel_rfl) (by kernel_rfl) (fun _ _ _ h => h) (yieldsIf_load_mid (by rfl) _ _ rfl _ _ rfl rc _ ?hS5 u1 rfl i1) (by assumption) ?rest5
  case hS5 => (intro w hSw; exact hSw)
  (try simp only [Act.put, List.setIfInBounds_toArray, List.set_cons_zero, List.set_cons_succ])
  refine wpAnyH_take (i := 6) (oi := ({ dst := some 42, op := Op.move (Operand.tmp 0), type := 25, pos := "more.go:17", after := #[{ on := 4, ground := Ground.guard }], guard := some (4, true) } : Oper)) (v := ?v6) rfl (by kernel_rfl) (by kernel_rfl) (by kernel_rfl) (fun _ _ _ h => h) (Or.inl ⟨by rfl, ?hy6⟩) (by assumption) ?rest6
  case hy6 => (intro w hSw; (try dsimp only at hSw); go_simp; try (with_reducible rfl))
  (try simp only [Act.put, List.setIfInBounds_toArray, List.set_cons_zero, List.set_cons_succ])
  refine wpAnyH_take (i := 7) (oi := ({ dst := some 43, op := Op.move (Operand.tmp 1), type := 3, pos := "more.go:17", after := #[{ on := 4, ground := Ground.guard }], guard := some (4, true) } : Oper)) (v := ?v7) rfl (by kernel_rfl) (by kernel_rfl) (by kernel_rfl) (fun _ _ _ h => h) (Or.inl ⟨by rfl, ?hy7⟩) (by assumption) ?rest7
  case hy7 => (intro w hSw; (try dsimp only at hSw); go_simp; try (with_reducible rfl))
  (try simp only [Act.put, List.setIfInBounds_toArray, List.set_cons_zero, List.set_cons_succ])
  refine wpAnyH_take (i := 8) (oi := ({ dst := some 44, op := Op.slice 25 (Operand.tmp 42) none (some (Operand.tmp 43)) none, type := 25, pos := "more.go:17", after := #[{ on := 6, ground := Ground.data }, { on := 7, ground := Ground.data }, { on := 4, ground := Ground.guard }], guard := some (4, true) } : Oper)) (v := ?v8) rfl (by kernel_rfl) (by kernel_rfl) (by kernel_rfl) (fun _ _ _ h => h) (Or.inl ⟨by rfl, ?hy8⟩) (by assumption) ?rest8
  case hy8 => (intro w hSw; (try dsimp only at hSw); go_simp; try (with_reducible rfl))
  (try simp only [Act.put, List.setIfInBounds_toArray, List.set_cons_zero, List.set_cons_succ])
  refine wpAnyH_take (i := 9) (oi := ({ dst := some 45, op := Op.move (Operand.tmp 0), type := 25, pos := "more.go:17", after := #[{ on := 4, ground := Ground.guard }], guard := some (4, true) } : Oper)) (v := ?v9) rfl (by kernel_rfl) (by kernel_rfl) (by kernel_rfl) (fun _ _ _ h => h) (Or.inl ⟨by rfl, ?hy9⟩) (by assumption) ?rest9
  case hy9 => (intro w hSw; (try dsimp only at hSw); go_simp; try (with_reducible rfl))
  (try simp only [Act.put, List.setIfInBounds_toArray, List.set_cons_zero, List.set_cons_succ])
  refine wpAnyH_take (i := 10) (oi := ({ dst := some 46, op := Op.move (Operand.tmp 1), type := 3, pos := "more.go:17", after := #[{ on := 4, ground := Ground.guard }], guard := some (4, true) } : Oper)) (v := ?v10) rfl (by kernel_rfl) (by kernel_rfl) (by kernel_rfl) (fun _ _ _ h => h) (Or.inl ⟨by rfl, ?hy10⟩) (by assumption) ?rest10
  case hy10 => (intro w hSw; (try dsimp only at hSw); go_simp; try (with_reducible rfl))
  (try simp only [Act.put, List.setIfInBounds_toArray, List.set_cons_zero, List.set_cons_succ])
  refine wpAnyH_take (i := 11) (oi := ({ dst := some 47, op := Op.move (Operand.tmp 2), type := 3, pos := "more.go:17", after := #[{ on := 4, ground := Ground.guard }], guard := some (4, true) } : Oper)) (v := ?v11) rfl (by kernel_rfl) (by kernel_rfl) (by kernel_rfl) (fun _ _ _ h => h) (Or.inl ⟨by rfl, ?hy11⟩) (by assumption) ?rest11
  case hy11 => (intro w hSw; (try dsimp only at hSw); go_simp; try (with_reducible rfl))
  (try simp only [Act.put, List.setIfInBounds_toArray, List.set_cons_zero, List.set_cons_succ])
  refine wpAnyH_take (i := 12) (oi := ({ dst := some 48, op := Op.slice 25 (Operand.tmp 45) (some (Operand.tmp 46)) (some (Operand.tmp 47)) none, type := 25, pos := "more.go:17", after := #[{ on := 9, ground := Ground.data }, { on := 10, ground := Ground.data }, { on := 11, ground := Ground.data }, { on := 4, ground := Ground.guard }], guard := some (4, true) } : Oper)) (v := ?v12) rfl (by kernel_rfl) (by kernel_rfl) (by kernel_rfl) (fun _ _ _ h => h) (Or.inl ⟨by rfl, ?hy12⟩) (by assumption) ?rest12
  case hy12 => (intro w hSw; (try dsimp only at hSw); go_simp; try (with_reducible rfl))
  (try simp only [Act.put, List.setIfInBounds_toArray, List.set_cons_zero, List.set_cons_succ])
  refine wpAnyH_take (i := 13) (oi := ({ dst := some 49, op := Op.move (Operand.tmp 0), type := 25, pos := "more.go:17", after := #[{ on := 4, ground := Ground.guard }], guard := some (4, true) } : Oper)) (v := ?v13) rfl (by kernel_rfl) (by kernel_rfl) (by kernel_rfl) (fun _ _ _ h => h) (Or.inl ⟨by rfl, ?hy13⟩) (by assumption) ?rest13
  case hy13 => (intro w hSw; (try dsimp only at hSw); go_simp; try (with_reducible rfl))
  (try simp only [Act.put, List.setIfInBounds_toArray, List.set_cons_zero, List.set_cons_succ])
  refine wpAnyH_take (i := 14) (oi := ({ dst := some 50, op := Op.move (Operand.tmp 2), type := 3, pos := "more.go:17", after := #[{ on := 4, ground := Ground.guard }], guard := some (4, true) } : Oper)) (v := ?v14) rfl (by kernel_rfl) (by kernel_rfl) (by kernel_rfl) (fun _ _ _ h => h) (Or.inl ⟨by rfl, ?hy14⟩) (by assumption) ?rest14
  case hy14 => (intro w hSw; (try dsimp only at hSw); go_simp; try (with_reducible rfl))
  (try simp only [Act.put, List.setIfInBounds_toArray, List.set_cons_zero, List.set_cons_succ])
  refine wpAnyH_take (i := 15) (oi := ({ dst := some 51, op := Op.slice 25 (Operand.tmp 49) (some (Operand.tmp 50)) none none, type := 25, pos := "more.go:17", after := #[{ on := 13, ground := Ground.data }, { on := 14, ground := Ground.data }, { on := 4, ground := Ground.guard }], guard := some (4, true) } : Oper)) (v := ?v15) rfl (by kernel_rfl) (by kernel_rfl) (by kernel_rfl) (fun _ _ _ h => h) (Or.inl ⟨by rfl, ?hy15⟩) (by assumption) ?rest15
  case hy15 => (intro w hSw; (try dsimp only at hSw); go_simp; try (with_reducible rfl))
  (try simp only [Act.put, List.setIfInBounds_toArray, List.set_cons_zero, List.set_cons_succ])
  refine wpAnyH_ready (rs := [16]) (by kernel_rfl) (by simp) ?_
  refine AllReadyH.cons (o := ({ dst := some 52, op := Op.buildSlice 22 3 #[(0, Operand.tmp 44), (1, Operand.tmp 48), (2, Operand.tmp 51)], type := 22, pos := "more.go:17", after := #[{ on := 8, ground := Ground.data }, { on := 12, ground := Ground.data }, { on := 15, ground := Ground.data }, { on := 4, ground := Ground.guard }], guard := some (4, true) } : Oper)) rfl (fun K hK => ?_) AllReadyH.nil
  go_simp
  (try dsimp only)
  refine hK.out _ _ (HRG.out _ (HB6.out.alloc HB6.out.size _)) (fun hHeld => ?_)
  clear hK K
  (try simp only [Act.put, List.setIfInBounds_toArray, List.set_cons_zero, List.set_cons_succ])
  refine wpAnyH_ready (rs := [17]) (by kernel_rfl) (by simp) ?_
  refine AllReadyH.cons (o := ({ dst := some 53, op := Op.call { callee := Callee.value (Operand.func 11), args := #[Operand.tmp 52], argTypes := #[22] }, type := 28, pos := "more.go:17", after := #[{ on := 16, ground := Ground.data }, { on := 4, ground := Ground.chain }, { on := 4, ground := Ground.guard }], guard := some (4, true) } : Oper)) rfl (fun K hK => ?_) AllReadyH.nil
  go_simp
  (refine (HSUM.out _ HB6.out).mono ?_; rintro e w8 ⟨rfl, hb8⟩; have HB8 := Lib.hid hb8; clear hb8)
  (try dsimp only)
  refine hK.out _ _ (HRG.out _ HB8.out) (fun hHeld => ?_)
  clear hK K
  (try simp only [Act.put, List.setIfInBounds_toArray, List.set_cons_zero, List.set_cons_succ])
  refine wpAnyH_take (i := 18) (oi := ({ dst := some 54, op := Op.binOp BinOp.eql 28 (Operand.tmp 41) (Operand.tmp 53) 28, type := 4, pos := "more.go:17", after := #[{ on := 5, ground := Ground.data }, { on := 17, ground := Ground.data }, { on := 4, ground := Ground.guard }], guard := some (4, true) } : Oper)) (v := ?v18) rfl (by kernel_rfl) (by kernel_rfl) (by kernel_rfl) (fun _ _ _ h => h) (Or.inl ⟨by rfl, ?hy18⟩) (by assumption) ?rest18
  case hy18 => (intro w hSw; (try dsimp only at hSw); go_simp; try (with_reducible rfl))
  (try simp only [Act.put, List.setIfInBounds_toArray, List.set_cons_zero, List.set_cons_succ])
  refine wpAnyH_take (i := 19) (oi := ({ dst := some 55, op := Op.pick (Operand.tmp 40) (Operand.tmp 54) (Operand.const (Value.bool false)), type := 4, pos := "more.go:17", after := #[{ on := 4, ground := Ground.data }, { on := 18, ground := Ground.data }], guard := none } : Oper)) (v := ?v19) rfl (by kernel_rfl) (by kernel_rfl) (by kernel_rfl) (fun _ _ _ h => h) (Or.inl ⟨by rfl, ?hy19⟩) (by assumption) ?rest19
  case hy19 => (intro w hSw; (try dsimp only at hSw); go_simp; try (with_reducible rfl))
  (try simp only [Act.put, List.setIfInBounds_toArray, List.set_cons_zero, List.set_cons_succ])
  refine wpAnyH_take (i := 20) (oi := ({ dst := some 6, op := Op.assign (Operand.tmp 55), type := 4, pos := "more.go:17", after := #[{ on := 19, ground := Ground.data }, { on := 17, ground := Ground.chain }, { on := 0, ground := Ground.phase }, { on := 1, ground := Ground.phase }, { on := 2, ground := Ground.phase }, { on := 3, ground := Ground.phase }, { on := 4, ground := Ground.phase }, { on := 5, ground := Ground.phase }, { on := 6, ground := Ground.phase }, { on := 7, ground := Ground.phase }, { on := 8, ground := Ground.phase }, { on := 9, ground := Ground.phase }, { on := 10, ground := Ground.phase }, { on := 11, ground := Ground.phase }, { on := 12, ground := Ground.phase }, { on := 13, ground := Ground.phase }, { on := 14, ground := Ground.phase }, { on := 15, ground := Ground.phase }, { on := 16, ground := Ground.phase }, { on := 17, ground := Ground.phase }, { on := 18, ground := Ground.phase }, { on := 19, ground := Ground.phase }], guard := none } : Oper)) (v := ?v20) rfl (by kernel_rfl) (by kernel_rfl) (by kernel_rfl) (fun _ _ _ h => h) (Or.inl ⟨by rfl, ?hy20⟩) (by assumption) ?rest20
  case hy20 => (intro w hSw; (try dsimp only at hSw); go_simp; try (with_reducible rfl))
  (try simp only [Act.put, List.setIfInBounds_toArray, List.set_cons_zero, List.set_cons_succ])
  refine wpAnyH_done (by kernel_rfl) ?_ _
  all_goals (
    (try go_wp2_with fail)
    all_goals (
      go_ret
      exact ⟨rfl, HB5.out.trans (HB8.out.mono HB5.out.size)⟩))

theorem cuts_any (a : Option Addr) (n c : Nat) (zs : List Int) (i k : Int) (w : World) (h : RowI .u8 w a n c zs) (hk : TabK w) :
    Calls Tryd.prog 5 #[.slice a n c, .int .i64 i, .int .i64 k] w fun e w' => e = .returned (.bool true) ∧ Below w.heap.size w w' := by
  obtain ⟨h1, h2, h3⟩ := h.src
  by_cases c1 : 1000 < n
  · clear h h1 h2 h3 hk
    go_enter Tryd.func5, Tryd.ntmps5
    go_wp2_with (go_at_call 7; refine (alive6_any _).mono ?_; rintro e w1 ⟨rfl, hb1⟩; have HB1 := Lib.hid hb1; clear hb1)
    go_ret
    exact ⟨rfl, HB1.out⟩
  by_cases c2 : i < 0
  · clear h h1 h2 h3 hk
    go_enter Tryd.func5, Tryd.ntmps5
    go_wp2_with (go_at_call 7; refine (alive6_any _).mono ?_; rintro e w1 ⟨rfl, hb1⟩; have HB1 := Lib.hid hb1; clear hb1)
    go_ret
    exact ⟨rfl, HB1.out⟩
  by_cases c3 : k < i
  · clear h h1 h2 h3 hk
    go_enter Tryd.func5, Tryd.ntmps5
    go_wp2_with (go_at_call 7; refine (alive6_any _).mono ?_; rintro e w1 ⟨rfl, hb1⟩; have HB1 := Lib.hid hb1; clear hb1)
    go_ret
    exact ⟨rfl, HB1.out⟩
  by_cases c4 : (n : Int) < k
  · clear h h1 h2 h3 hk
    go_enter Tryd.func5, Tryd.ntmps5
    go_wp2_with (go_at_call 7; refine (alive6_any _).mono ?_; rintro e w1 ⟨rfl, hb1⟩; have HB1 := Lib.hid hb1; clear hb1)
    go_ret
    exact ⟨rfl, HB1.out⟩
  · obtain ⟨I, rfl⟩ := Int.eq_ofNat_of_zero_le (show 0 ≤ i by omega)
    obtain ⟨K, rfl⟩ := Int.eq_ofNat_of_zero_le (show 0 ≤ k by omega)
    cases a with
    | none =>
      have h0 : n = 0 := by
        rcases Nat.eq_zero_or_pos n with h0 | h0
        · exact h0
        · obtain ⟨_, e, _⟩ := h1.cell 0 h0
          cases e
      subst h0
      obtain rfl : K = 0 := by omega
      obtain rfl : I = 0 := by omega
      exact cuts_none c _ w h1 h2 h3 (by omega) hk
    | some ad => exact cuts_some ad n c I K _ w h1 h2 h3 (by omega) (by omega) (by omega) hk

end Go.Proofs.YtmohdmjjkhcjoaaDoor.Hb
