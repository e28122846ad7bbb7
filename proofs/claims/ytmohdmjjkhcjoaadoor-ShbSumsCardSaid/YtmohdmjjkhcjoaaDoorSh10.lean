/- portcullislaw6.ShbSums: what it answers. Condition: the lists lie there; the document's table holds what its text lays. -/
import Derived.Test.YtmohdmjjkhcjoaaDoorSh9
namespace Go.Proofs.YtmohdmjjkhcjoaaDoor.Hb
open Go.RowKit

theorem big_le {L : List (List Int)} (h : bigL L = false) : L.length ≤ 30 ∧ ∀ l ∈ L, l.length ≤ 1000 := by
  unfold bigL at h
  rw [Bool.or_eq_false_iff, List.any_eq_false] at h
  refine ⟨by simpa using h.1, fun l hl => by simpa using h.2 l hl⟩
theorem flat_bound : ∀ (L : List (List Int)) (k : Nat), (∀ l ∈ L, l.length ≤ k) → L.flatten.length ≤ k * L.length
  | [], _, _ => by simp
  | l :: L, k, h => by
    have h1 := h l (by simp)
    have h2 := flat_bound L k fun x hx => h x (by simp [hx])
    rw [List.flatten_cons, List.length_append, List.length_cons, Nat.mul_succ]
    omega

set_option maxRecDepth 100000 in
theorem sums_big (a : Option Addr) (n c : Nat) (L : List (List Int)) (w : World) (hs : SrcL w a n L) (hb : bigL L = true) :
    Calls Tryd.prog 3 #[.slice a n c] w fun e w' => e = .returned (.bool true) ∧ Below w.heap.size w w' := by
  have HS := Lib.hid hs
  have HB := Lib.hid hb
  clear hs hb
  go_enter Tryd.func3, Tryd.ntmps3
  go_wp2_with (first | (go_at_call 7; refine (alive6_any _).mono ?_; rintro e w1 ⟨rfl, hb1⟩; have HB1 := Lib.hid hb1; clear hb1) | (go_at_call 8; refine (big_any a n c L _ (HS.out.below HB1.out)).mono ?_; rintro e w2 ⟨rfl, rfl⟩; rw [HB.out]))
  go_ret
  exact ⟨rfl, HB1.out⟩

set_option maxRecDepth 100000 in
set_option maxHeartbeats 4000000 in
theorem sums_go (a : Option Addr) (n c : Nat) (L : List (List Int)) (w : World) (hs : SrcL w a n L) (hx : ∀ l ∈ L, bytes l) (hbg : bigL L = false) (hk : TabK w) :
    Calls Tryd.prog 3 #[.slice a n c] w fun e w' => e = .returned (.bool true) ∧ Below w.heap.size w w' := by
  obtain ⟨hb30, hb1000⟩ := big_le hbg
  have hfl := flat_bound L 1000 hb1000
  have hln := hs.len
  obtain ⟨xs, hxs⟩ : ∃ xs, xs = L.flatten := ⟨_, rfl⟩
  rw [← hxs] at hfl
  have hxb : bytes xs := by
    intro x hm
    rw [hxs] at hm
    obtain ⟨l, hl, hm⟩ := List.mem_flatten.1 hm
    exact hx l hl x hm
  obtain ⟨Hh, hHh⟩ : ∃ Hh, Hh = hash xs := ⟨_, rfl⟩
  obtain ⟨rc, hrc⟩ : ∃ rc, rc = Hh.map (Value.int .u8) := ⟨_, rfl⟩
  have hHl : Hh.length = 64 := by rw [hHh]; exact hash_len _
  have earr : arr .u8 Hh = rc.toArray := by rw [hrc]; rfl
  have hSL : ∀ w', Below w.heap.size w w' → Calls Tryd.prog 11 #[.slice a n c] w' fun e w'' => e = .returned (.agg rc.toArray) ∧ Below w'.heap.size w' w'' := fun w' hb => by
    refine (sum_any a n c L w' (hs.below hb) hx (by rw [← hxs]; omega) (by omega)).mono fun e w'' h => ⟨?_, h.2⟩
    rw [h.1, ← hxs, ← hHh, earr]
  have hJ : ∀ w', Below w.heap.size w w' → Calls Tryd.prog 9 #[.slice a n c] w' fun e w'' => ∃ v, e = .returned v ∧ Own8 w'' w'.heap.size v xs ∧ Below w'.heap.size w' w'' := fun w' hb => by
    rw [hxs]
    exact join_any a n c L w' (hs.below hb) (by rw [← hxs]; omega) (by omega)
  have hR : ∀ (va : Option Addr) (m vc : Nat) w', Src w' va m xs → Below w.heap.size w w' → Calls Tryd.prog 10 #[.slice va m vc] w' fun e w'' => e = .returned (.agg rc.toArray) ∧ Below w'.heap.size w' w'' := fun va m vc w' h1 hb => by
    refine (ref_any va m vc xs w' h1 hxb (by have := h1.len; omega) (hk.below hb)).mono fun e w'' h => ⟨?_, h.2⟩
    rw [h.1, ← hHh, earr]
  have hS1 : ∀ (va : Option Addr) (m vc : Nat) w', Src w' va m xs → m ≤ vc → Calls Tryd.prog 11 #[.slice (some ⟨w'.heap.size, 0, none⟩) 1 1] (w'.alloc (.cells #[.slice va m vc] 25)) fun e w'' => e = .returned (.agg rc.toArray) ∧ Below w'.heap.size (w'.alloc (.cells #[.slice va m vc] 25)) w'' := fun va m vc w' h1 hc => by
    have hxl := h1.len
    have hsl := srcL_one (l := xs) (ci := vc) (by rw [hxl]; exact h1) (by rw [hxl]; exact hc)
    rw [hxl] at hsl
    refine (sum_any _ 1 1 [xs] _ hsl (by intro l hl; simp at hl; subst hl; exact hxb) (by simp; omega) (by omega)).mono fun e w'' h => ⟨?_, h.2.mono (by simp)⟩
    rw [h.1, show ([xs] : List (List Int)).flatten = xs by simp, ← hHh, earr]
  have q1 : ∀ w : World, (binOp .eql 28 (.agg rc.toArray) (.agg rc.toArray)).run Tryd.prog w = .ok (.bool true) w := fun w => by rw [hrc]; exact eq_sig Hh hHl w
  have u1 := Tryd.underlying28
  have i1 : (Tryd.prog.info? 28).map (·.size) = some rc.length := by rw [hrc, List.length_map, hHl]; exact sizeOut
  have z2 : (Tryd.prog.info? 28).map (·.size) = some rc.toArray.size := by rw [← earr, arr_size, hHl]; exact sizeOut
  have z3 : rc.toArray.size = (arr .u8 (List.replicate 64 0)).size := by rw [← earr, arr_size, arr_size, hHl, List.length_replicate]
  have z4 : rc.toArray.all (·.oneCell') = true := by rw [← earr]; exact all_arr _ _
  have gn := guard_sig
  have HSL0 := Lib.hid hSL
  have HJ := Lib.hid hJ
  have HR := Lib.hid hR
  have HS10 := Lib.hid hS1
  have Z2 := Lib.hid z2
  have Z3 := Lib.hid z3
  have Z4 := Lib.hid z4
  have HSR := Lib.hid hs
  have HBG := Lib.hid hbg
  clear hSL hJ hR hS1 z2 z3 z4 earr hHl hrc hHh hs hx hk hxb hxs hfl hbg hb30 hb1000 hln
  go_enter Tryd.func3, Tryd.ntmps3
  go_wp2_with (first | (go_at_call 7; refine (alive6_any _).mono ?_; rintro e w1 ⟨rfl, hb1⟩; have HB1 := Lib.hid hb1; clear hb1) | (go_at_call 8; refine (big_any a n c L _ (HSR.out.below HB1.out)).mono ?_; rintro e w2 ⟨rfl, rfl⟩; rw [HBG.out]) | (go_at_call 9; refine (HJ.out _ HB1.out).mono ?_; rintro e w3 ⟨v3, rfl, ho3, hb3⟩; obtain ⟨va, vc, hv3, hvc, -, hs3, -⟩ := ho3.form; subst hv3; have HS3 := Lib.hid hs3; have HVC := Lib.hid hvc; have HB3 := Lib.hid (HB1.out.trans (hb3.mono HB1.out.size)); clear ho3 hb3 hs3 hvc) | (go_at_call 10; refine (HR.out _ _ _ _ HS3.out HB3.out).mono ?_; rintro e w4 ⟨rfl, hb4⟩; have HS4 := Lib.hid (HS3.out.below hb4); have HB4 := Lib.hid (HB3.out.trans (hb4.mono HB3.out.size)); clear hb4) | ((with_reducible show wpList _ _ _ (Oper.mk (some 6) _ _ _ _ _ :: _) _ _); refine wpList_alloc_row rfl 28 rfl _ (zeroOut _) ?_; have HA := Lib.hid (blk_new w4 (.cells (arr .u8 (List.replicate 64 0)) 28))) | ((with_reducible show wpList _ _ _ (Oper.mk none _ _ _ _ _ :: _) _ _); refine wpList_store_whole rfl 28 _ _ rfl w4.heap.size _ _ 28 HA.out rfl rfl Z3.out Z2.out Z4.out ?_; intro w5 hb5 hk5 hz5; have HW5 := Lib.hid hb5; have hB45 := (((Below.refl w4.heap.size w4).alloc (Nat.le_refl _) (.cells (arr .u8 (List.replicate 64 0)) 28)).trans (hk5.toBelow (by simp) (by rintro i rfl; exact Nat.le_refl _))); have HS5 := Lib.hid (HS4.out.below hB45); have HB5 := Lib.hid (HB4.out.trans (hB45.mono HB4.out.size)); clear hb5 hk5 hz5 hB45))
  have hBD : Below w5.heap.size w5 w5.drew := (Below.refl _ w5).drew
  have hRG : ∀ w', Below w5.heap.size w5 w' → w'.rangeAt w4.heap.size 0 rc := fun w' hb => range_part (Below.blk hb HW5.out (blk_lt HW5.out)) 0 rc (by simp)
  have hSL : ∀ w', Below w5.heap.size w5 w' → Calls Tryd.prog 11 #[.slice a n c] w' fun e w'' => e = .returned (.agg rc.toArray) ∧ Below w5.heap.size w5 w'' := fun w' hb =>
    (HSL0.out w' (HB5.out.trans (hb.mono HB5.out.size))).mono fun e w'' h => ⟨h.1, hb.trans (h.2.mono hb.size)⟩
  have hS1 : ∀ w', Below w5.heap.size w5 w' → Calls Tryd.prog 11 #[.slice (some ⟨w'.heap.size, 0, none⟩) 1 1] (w'.alloc (.cells #[.slice va xs.length vc] 25)) fun e w'' => e = .returned (.agg rc.toArray) ∧ Below w5.heap.size w5 w'' := fun w' hb =>
    (HS10.out va xs.length vc w' (HS5.out.below hb) HVC.out).mono fun e w'' h => ⟨h.1, (hb.alloc hb.size _).trans (h.2.mono hb.size)⟩
  obtain ⟨g, hg⟩ : ∃ g, g = w4.heap.size := ⟨_, rfl⟩
  rw [← hg] at hRG ⊢
  have HBD := Lib.hid hBD
  have HRG := Lib.hid hRG
  have HSL := Lib.hid hSL
  have HS1 := Lib.hid hS1
  clear hBD hRG hSL hS1 hg HW5 HA HSL0 HS10 HR HJ HS3 HS4 HS5
  refine wp_region_held_drew (S := (fun w' => w'.rangeAt g 0 rc)) (by kernel_rfl) (HRG.out _ HBD.out) (fun hHeld => ?_)
  refine wpAnyH_take (i := 0) (oi := ({ dst := some 20, op := Op.move (Operand.tmp 0), type := 22, pos := "law.go:25", after := #[], guard := none } : Oper)) (v := ?v0) rfl (by kernel_rfl) (by kernel_rfl) (by kernel_rfl) (fun _ _ _ h => h) (Or.inl ⟨by rfl, ?hy0⟩) (by assumption) ?rest0
  case hy0 => (intro w hSw; (try dsimp only at hSw); go_simp; try (with_reducible rfl))
  (try simp only [Act.put, List.setIfInBounds_toArray, List.set_cons_zero, List.set_cons_succ])
  refine' wpAnyH_take (i := 2) (oi := ({ dst := some 22, op := Op.load 28 (Operand.tmp 6), type := 28, pos := "law.go:25", after := #[], guard := none } : Oper)) (v := _) rfl (by kernel_rfl) (by kernel_rfl) (by kernel_rfl) (fun _ _ _ h => h) (yieldsIf_load_mid (by rfl) _ _ rfl _ _ rfl rc _ ?hS2 u1 rfl i1) (by assumption) ?rest2
  case hS2 => (intro w hSw; exact hSw)
  (try simp only [Act.put, List.setIfInBounds_toArray, List.set_cons_zero, List.set_cons_succ])
  refine wpAnyH_ready (rs := [1]) (by kernel_rfl) (by simp) ?_
  refine AllReadyH.cons (o := ({ dst := some 21, op := Op.call { callee := Callee.value (Operand.func 11), args := #[Operand.tmp 20], argTypes := #[22] }, type := 28, pos := "law.go:25", after := #[{ on := 0, ground := Ground.data }], guard := none } : Oper)) rfl (fun K hK => ?_) AllReadyH.nil
  go_simp
  (refine (HSL.out _ HBD.out).mono ?_; rintro e w6 ⟨rfl, hb6⟩; have HB6 := Lib.hid hb6; clear hb6)
  (try dsimp only)
  refine hK.out _ _ (HRG.out _ HB6.out) (fun hHeld => ?_)
  clear hK K
  (try simp only [Act.put, List.setIfInBounds_toArray, List.set_cons_zero, List.set_cons_succ])
  refine wpAnyH_take (i := 3) (oi := ({ dst := some 23, op := Op.binOp BinOp.eql 28 (Operand.tmp 21) (Operand.tmp 22) 28, type := 4, pos := "law.go:25", after := #[{ on := 1, ground := Ground.data }, { on := 2, ground := Ground.data }], guard := none } : Oper)) (v := ?v3) rfl (by kernel_rfl) (by kernel_rfl) (by kernel_rfl) (fun _ _ _ h => h) (Or.inl ⟨by rfl, ?hy3⟩) (by assumption) ?rest3
  case hy3 => (intro w hSw; (try dsimp only at hSw); go_simp; try (with_reducible rfl))
  (try simp only [Act.put, List.setIfInBounds_toArray, List.set_cons_zero, List.set_cons_succ])
  refine wpAnyH_take (i := 4) (oi := ({ dst := some 24, op := Op.move (Operand.tmp 23), type := 4, pos := "law.go:25", after := #[{ on := 3, ground := Ground.data }, { on := 1, ground := Ground.chain }], guard := none } : Oper)) (v := ?v4) rfl (by kernel_rfl) (by kernel_rfl) (by kernel_rfl) (fun _ _ _ h => h) (Or.inl ⟨by rfl, ?hy4⟩) (by assumption) ?rest4
  case hy4 => (intro w hSw; (try dsimp only at hSw); go_simp; try (with_reducible rfl))
  (try simp only [Act.put, List.setIfInBounds_toArray, List.set_cons_zero, List.set_cons_succ])
  refine wpAnyH_take (i := 5) (oi := ({ dst := some 25, op := Op.move (Operand.tmp 5), type := 25, pos := "law.go:25", after := #[{ on := 4, ground := Ground.guard }], guard := some (4, true) } : Oper)) (v := ?v5) rfl (by kernel_rfl) (by kernel_rfl) (by kernel_rfl) (fun _ _ _ h => h) (Or.inl ⟨by rfl, ?hy5⟩) (by assumption) ?rest5
  case hy5 => (intro w hSw; (try dsimp only at hSw); go_simp; try (with_reducible rfl))
  (try simp only [Act.put, List.setIfInBounds_toArray, List.set_cons_zero, List.set_cons_succ])
  refine' wpAnyH_take (i := 8) (oi := ({ dst := some 28, op := Op.load 28 (Operand.tmp 6), type := 28, pos := "law.go:25", after := #[{ on := 4, ground := Ground.guard }], guard := some (4, true) } : Oper)) (v := _) rfl (by kernel_rfl) (by kernel_rfl) (by kernel_rfl) (fun _ _ _ h => h) (yieldsIf_load_mid (by rfl) _ _ rfl _ _ rfl rc _ ?hS8 u1 rfl i1) (by assumption) ?rest8
  case hS8 => (intro w hSw; exact hSw)
  (try simp only [Act.put, List.setIfInBounds_toArray, List.set_cons_zero, List.set_cons_succ])
  refine wpAnyH_ready (rs := [6]) (by kernel_rfl) (by simp) ?_
  refine AllReadyH.cons (o := ({ dst := some 26, op := Op.buildSlice 22 1 #[(0, Operand.tmp 25)], type := 22, pos := "law.go:25", after := #[{ on := 5, ground := Ground.data }, { on := 4, ground := Ground.guard }], guard := some (4, true) } : Oper)) rfl (fun K hK => ?_) AllReadyH.nil
  go_simp
  (try dsimp only)
  refine hK.out _ _ (HRG.out _ (HB6.out.alloc HB6.out.size _)) (fun hHeld => ?_)
  clear hK K
  (try simp only [Act.put, List.setIfInBounds_toArray, List.set_cons_zero, List.set_cons_succ])
  refine wpAnyH_ready (rs := [7]) (by kernel_rfl) (by simp) ?_
  refine AllReadyH.cons (o := ({ dst := some 27, op := Op.call { callee := Callee.value (Operand.func 11), args := #[Operand.tmp 26], argTypes := #[22] }, type := 28, pos := "law.go:25", after := #[{ on := 6, ground := Ground.data }, { on := 4, ground := Ground.chain }, { on := 4, ground := Ground.guard }], guard := some (4, true) } : Oper)) rfl (fun K hK => ?_) AllReadyH.nil
  go_simp
  (refine (HS1.out _ HB6.out).mono ?_; rintro e w8 ⟨rfl, hb8⟩; have HB8 := Lib.hid hb8; clear hb8)
  (try dsimp only)
  refine hK.out _ _ (HRG.out _ HB8.out) (fun hHeld => ?_)
  clear hK K
  (try simp only [Act.put, List.setIfInBounds_toArray, List.set_cons_zero, List.set_cons_succ])
  refine wpAnyH_take (i := 9) (oi := ({ dst := some 29, op := Op.binOp BinOp.eql 28 (Operand.tmp 27) (Operand.tmp 28) 28, type := 4, pos := "law.go:25", after := #[{ on := 7, ground := Ground.data }, { on := 8, ground := Ground.data }, { on := 4, ground := Ground.guard }], guard := some (4, true) } : Oper)) (v := ?v9) rfl (by kernel_rfl) (by kernel_rfl) (by kernel_rfl) (fun _ _ _ h => h) (Or.inl ⟨by rfl, ?hy9⟩) (by assumption) ?rest9
  case hy9 => (intro w hSw; (try dsimp only at hSw); go_simp; try (with_reducible rfl))
  (try simp only [Act.put, List.setIfInBounds_toArray, List.set_cons_zero, List.set_cons_succ])
  refine wpAnyH_take (i := 10) (oi := ({ dst := some 30, op := Op.pick (Operand.tmp 24) (Operand.tmp 29) (Operand.const (Value.bool false)), type := 4, pos := "law.go:25", after := #[{ on := 4, ground := Ground.data }, { on := 9, ground := Ground.data }], guard := none } : Oper)) (v := ?v10) rfl (by kernel_rfl) (by kernel_rfl) (by kernel_rfl) (fun _ _ _ h => h) (Or.inl ⟨by rfl, ?hy10⟩) (by assumption) ?rest10
  case hy10 => (intro w hSw; (try dsimp only at hSw); go_simp; try (with_reducible rfl))
  (try simp only [Act.put, List.setIfInBounds_toArray, List.set_cons_zero, List.set_cons_succ])
  refine wpAnyH_take (i := 11) (oi := ({ dst := some 2, op := Op.assign (Operand.tmp 30), type := 4, pos := "law.go:25", after := #[{ on := 10, ground := Ground.data }, { on := 7, ground := Ground.chain }, { on := 0, ground := Ground.phase }, { on := 1, ground := Ground.phase }, { on := 2, ground := Ground.phase }, { on := 3, ground := Ground.phase }, { on := 4, ground := Ground.phase }, { on := 5, ground := Ground.phase }, { on := 6, ground := Ground.phase }, { on := 7, ground := Ground.phase }, { on := 8, ground := Ground.phase }, { on := 9, ground := Ground.phase }, { on := 10, ground := Ground.phase }], guard := none } : Oper)) (v := ?v11) rfl (by kernel_rfl) (by kernel_rfl) (by kernel_rfl) (fun _ _ _ h => h) (Or.inl ⟨by rfl, ?hy11⟩) (by assumption) ?rest11
  case hy11 => (intro w hSw; (try dsimp only at hSw); go_simp; try (with_reducible rfl))
  (try simp only [Act.put, List.setIfInBounds_toArray, List.set_cons_zero, List.set_cons_succ])
  refine wpAnyH_done (by kernel_rfl) ?_ _
  all_goals (
    (try go_wp2_with fail)
    all_goals (
      go_ret
      exact ⟨rfl, HB5.out.trans (HB8.out.mono HB5.out.size)⟩))

theorem sums_any (a : Option Addr) (n c : Nat) (w : World) (h : ∃ L, SrcL w a n L ∧ ∀ l ∈ L, bytes l) (hk : TabK w) :
    Calls Tryd.prog 3 #[.slice a n c] w fun e w' => e = .returned (.bool true) ∧ Below w.heap.size w w' := by
  obtain ⟨L, h1, h2⟩ := h
  cases hb : bigL L
  · exact sums_go a n c L w h1 h2 hb hk
  · exact sums_big a n c L w h1 hb

end Go.Proofs.YtmohdmjjkhcjoaaDoor.Hb
