/- BankRecords: the record of any number and bytes, in both. Conditions: 32 bytes of the secret; the bytes lie there; the table holds what its text lays. -/
import Derived.Test.YtoljnogpegemjaaDoorBtA
import Derived.Test.YtoljnogpegemjaaDoorB2
namespace Go.Proofs.YtoljnogpegemjaaDoor.Bk
open Go.RowKit Wr Sl Sm
set_option linter.unusedSimpArgs false
set_option linter.unusedVariables false

theorem new_no (s : List Int) (k : Nat) (hk : k < 2) : hok s (bb (Fl.new 64) k) = false := by
  have g := new_gd s
  have h1 : k = 0 ∨ k = 1 := by omega
  rcases h1 with rfl | rfl
  · cases h : hok s (bb (Fl.new 64) 0) with
    | false => rfl
    | true =>
      have h2 := g.other 0 (by omega) (by omega) h
      unfold hok at h
      simp only [Bool.and_eq_true] at h
      have := (hin_iff.1 h.1).1
      omega
  · exact (g.zero rfl).1
theorem cell_ltb {w : World} {a : Addr} {v : Value} (h : w.cell? a = some v) : a.block < w.heap.size := by
  unfold World.cell? at h
  rcases Nat.lt_or_ge a.block w.heap.size with h1 | h1
  · exact h1
  · rw [Array.getElem?_eq_none h1] at h
    cases h
/-- A record that is poked into a half is in it, and none in the other one. -/
theorem poke_rec (s : List Int) (n : Int) (x : List Int) (k : Nat) (hk : k < 2) (h0 : 0 ≤ n) (h1 : n < 2 ^ 63) (hx4 : x.length ≤ 4096) :
    hok s (bb ((Fl.new 64).poke (8192 * k : Nat) (recd s n x)) k) = true ∧ hn (bb ((Fl.new 64).poke (8192 * k : Nat) (recd s n x)) k) = n ∧ hx (bb ((Fl.new 64).poke (8192 * k : Nat) (recd s n x)) k) = x ∧
    hok s (bb ((Fl.new 64).poke (8192 * k : Nat) (recd s n x)) (1 - k)) = false := by
  have hc := new_calm
  obtain ⟨f, hf⟩ : ∃ f, f = Fl.new 64 := ⟨_, rfl⟩
  have hno := new_no s (1 - k) (by omega)
  rw [← hf] at hc hno ⊢
  have hl : (recd s n x).length = 52 + x.length := recd_len s n x
  obtain ⟨R, hR⟩ : ∃ R, R = recd s n x := ⟨_, rfl⟩
  rw [← hR] at hl ⊢
  have hin : inB f.b.length ((8192 * k : Nat) : Int) R.length = true := by rw [hc.len]; exact inB_iff.2 (by omega)
  have hb : (f.poke (8192 * k : Nat) R).b = upd f.b (8192 * k) R.length (fun i _ => R.getD i 0) := by rw [Fl.poke, if_pos hin, Int.toNat_natCast]
  have hlen : (f.poke (8192 * k : Nat) R).b.length = 16384 := by rw [Fl.poke_len]; exact hc.len
  have hg : ∀ i, i < 16384 → (f.poke (8192 * k : Nat) R).b.getD i 0 = if 8192 * k ≤ i ∧ i < 8192 * k + R.length then R.getD (i - 8192 * k) 0 else f.b.getD i 0 := by
    intro i hi
    rw [hb, upd_getD _ _ _ _ _ (by rw [hc.len]; exact hi)]
  generalize f.poke (8192 * k : Nat) R = f1 at hlen hg
  have l1 := bb_len f1 k (by rw [hlen]; omega)
  have A1 := hok_of s (bb f1 k) n x h0 h1 hx4 (by
    rw [← hR]
    refine ext_getD (by rw [List.length_take, l1, hl]; omega) fun i hi => ?_
    rw [List.length_take, l1] at hi
    have e1 : ((bb f1 k).take (52 + x.length)).getD i 0 = (bb f1 k).getD i 0 := by
      simp only [List.getD, List.getElem?_take, show i < 52 + x.length by omega, if_true]
    rw [e1, bb_get _ 16384 k hlen (by omega) i (by omega), hg _ (by omega), if_pos (by omega), show 8192 * k + i - 8192 * k = i by omega])
  refine ⟨A1.1, A1.2.1, A1.2.2, ?_⟩
  have e2 : bb f1 (1 - k) = bb f (1 - k) := by
    have l2 := bb_len f1 (1 - k) (by rw [hlen]; omega)
    have l3 := bb_len f (1 - k) (by rw [hc.len]; omega)
    refine ext_getD (by rw [l2, l3]) fun i hi => ?_
    rw [l2] at hi
    rw [bb_get _ 16384 _ hlen (by omega) i hi, bb_get _ 16384 _ hc.len (by omega) i hi, hg _ (by omega), if_neg (by omega)]
  rw [e2]
  exact hno

set_option maxRecDepth 100000 in
set_option maxHeartbeats 2000000 in
theorem records_no (s : List Int) (n k : Int) (sx : Option Addr) (m cx : Nat) (w : World) (hsl : s.length = 32) (h : 5000 < m ∨ (m ≤ 5000 ∧ n < 0) ∨ (m ≤ 5000 ∧ 0 ≤ n ∧ 4096 < m)) :
    Calls Tryd.prog 5 #[.agg (arr .u8 s), .int .i64 n, .int .i64 k, .slice sx m cx] w fun e w' => e = .returned (.bool true) ∧ Below w.heap.size w w' := by
  have HI0 := Lib.hid (Blk.one w (arr .u8 s) 23)
  have HSL := Lib.hid hsl
  clear hsl
  rcases h with h1 | ⟨h1, h2⟩ | ⟨h1, h2, h3⟩
  · go_enter Tryd.func5, Tryd.ntmps5
    go_upto_region 1 with fail
    generalize w.alloc (.cells (arr .u8 s) 23) = wb at HI0 ⊢
    go_upto_region 2 with (go_at_call 20; refine (alive21_any _).mono ?_; rintro e w1 ⟨rfl, hb1⟩; have HI1 := Lib.hid (HI0.out.kept hb1); clear hb1)
    go_wp2_with fail
    go_ret
    exact ⟨rfl, HI1.out.below⟩
  · go_enter Tryd.func5, Tryd.ntmps5
    go_upto_region 1 with fail
    generalize w.alloc (.cells (arr .u8 s) 23) = wb at HI0 ⊢
    go_upto_region 4 with (go_at_call 20; refine (alive21_any _).mono ?_; rintro e w1 ⟨rfl, hb1⟩; have HI1 := Lib.hid (HI0.out.kept hb1); clear hb1)
    go_wp2_with (first | ((with_reducible show wpList _ _ _ (Oper.mk (some 32) _ _ _ _ _ :: _) _ _); refine wpList_load_part rfl 23 _ rfl (w.heap.size) 0 _ 23 (0, 0) _ (HI1.out.get 0 rfl) rfl .u8 s (arr_part _ _) Tryd.underlying23 rfl (num_i HSL.out) ?_) | (go_at_call 21; refine (record_neg s n sx m cx _ h2).mono ?_; rintro e w2 ⟨rfl, hb2⟩; have HI2 := Lib.hid (HI1.out.kept hb2); clear hb2) | (go_at_call 22; refine (num21_any _ _).mono ?_; rintro e w' ⟨rfl, rfl⟩))
    go_ret
    exact ⟨rfl, HI2.out.below⟩
  · go_enter Tryd.func5, Tryd.ntmps5
    go_upto_region 1 with fail
    generalize w.alloc (.cells (arr .u8 s) 23) = wb at HI0 ⊢
    go_upto_region 4 with (go_at_call 20; refine (alive21_any _).mono ?_; rintro e w1 ⟨rfl, hb1⟩; have HI1 := Lib.hid (HI0.out.kept hb1); clear hb1)
    go_wp2_with (first | ((with_reducible show wpList _ _ _ (Oper.mk (some 32) _ _ _ _ _ :: _) _ _); refine wpList_load_part rfl 23 _ rfl (w.heap.size) 0 _ 23 (0, 0) _ (HI1.out.get 0 rfl) rfl .u8 s (arr_part _ _) Tryd.underlying23 rfl (num_i HSL.out) ?_) | (go_at_call 21; refine (record_long s n sx m cx _ h2 h3).mono ?_; rintro e w2 ⟨rfl, hb2⟩; have HI2 := Lib.hid (HI1.out.kept hb2); clear hb2) | (go_at_call 22; refine (num21_any _ _).mono ?_; rintro e w' ⟨rfl, rfl⟩))
    go_ret
    exact ⟨rfl, HI2.out.below⟩

set_option maxRecDepth 100000 in
set_option maxHeartbeats 4000000 in
theorem records_yes (s : List Int) (n k : Int) (sx : Option Addr) (m cx : Nat) (x : List Int) (w : World) (hsl : s.length = 32) (hsb : bytes s) (hn : 0 ≤ n ∧ n ≤ 9223372036854775807) (hm : m ≤ 4096) (hs : Src w sx m x) (hxb : bytes x) (hT : Ha.TabK w) :
    Calls Tryd.prog 5 #[.agg (arr .u8 s), .int .i64 n, .int .i64 k, .slice sx m cx] w fun e w' => e = .returned (.bool true) ∧ Below w.heap.size w w' := by
  have hxl := hs.len
  have hrc : ∀ u, Src u sx m x → Calls Tryd.prog 21 #[.agg (arr .u8 s), .int .i64 n, .slice sx m cx] u fun e w' => ∃ s2 c2, e = .returned (.tuple #[.slice s2 (52 + m) c2, .int .i64 0]) ∧ Src w' s2 (52 + m) (recd s n x) ∧ (∀ a, s2 = some a → u.heap.size ≤ a.block ∧ a.block < w'.heap.size) ∧ Below u.heap.size u w' := by
    intro u hu
    refine (record_ok s n sx m cx x u hsl hsb hn.1 hm hu hxb).mono ?_
    rintro e w' ⟨v, rfl, ho, hb⟩
    obtain ⟨sa, c, rfl, -, -, h3, hor⟩ := ho.form
    rw [recd_len, hxl] at h3 ⊢
    refine ⟨sa, c, rfl, h3, ?_, hb⟩
    rintro a rfl
    rcases hor with ⟨h0, -, -⟩ | ⟨g, h0, h4, h5⟩
    · cases h0
    · cases h0; exact ⟨h4, h5⟩
  have hdr := fun u (hu : Src u sx m x) (h : Ha.TabK u) => drec_any s n sx m cx x u hsl hsb ⟨by omega, hn.2⟩ (by omega) hu hxb h
  have hrb := recd_bytes s n x hxb
  have hpr := fun k hk => poke_rec s n x k hk hn.1 (by omega) (by omega)
  obtain ⟨R, hR⟩ : ∃ R, R = recd s n x := ⟨_, rfl⟩
  rw [← hR] at hrc hdr hrb hpr
  obtain ⟨SR, hSR⟩ : ∃ S, S = strOfNums R := ⟨_, rfl⟩
  have q1 : (SR.toList == SR.toList) = true := beq_self_eq_true _
  have HRC := Lib.hid hrc
  have HDR := Lib.hid hdr
  have HSR := Lib.hid hSR.symm
  have HSR := Lib.hid hSR
  have HX := Lib.hid hs
  have HTK := Lib.hid hT
  have HSL := Lib.hid hsl
  have HI0 := Lib.hid (Blk.one w (arr .u8 s) 23)
  have hn0 : ¬ n < 0 := by omega
  have hm0 : ¬ (4096 : Int) < (m : Int) := by omega
  have hm5 : ¬ (5000 : Int) < (m : Int) := by omega
  have HNEW := Lib.hid (fun w => begins_any 64 9 (List.replicate 32 0) s (by simp) hsl w)
  have HHF := Lib.hid (fun (p g : Nat) (f : Fl) (j : Nat) (hj : j = 0 ∨ j = 1) (h1 : f.dead = false) (h2 : 16384 ≤ f.b.length) => (half_both (p := p) (g := g) (pr := p) (gr := g) (f := f) (s := s) (k := j) h1 h2 hj hsl hsb).1)
  have HPR := Lib.hid hpr
  have HRB := Lib.hid hrb
  obtain ⟨f0, hf0⟩ : ∃ f, f = Fl.new 64 := ⟨_, rfl⟩
  have hc0 : f0.dead = false ∧ f0.b.length = 16384 := by rw [hf0]; exact ⟨rfl, by simp [Fl.new]; decide⟩
  obtain ⟨r0, hr⟩ : ∃ r, r = List.replicate 32 (0 : Int) := ⟨_, rfl⟩
  have hb0 := fun w => build_no w
  rw [← hf0, ← hr] at HNEW
  rw [← hf0] at HPR
  rw [← hr] at hb0
  have HB0 := Lib.hid hb0
  have HC0 := Lib.hid hc0
  clear hrc hdr hpr hSR hs hT hsl hsb hxb hR hrb hf0 hr hb0 hc0 hxl
  go_enter Tryd.func5, Tryd.ntmps5
  go_upto_region 1 with fail
  generalize w.alloc (.cells (arr .u8 s) 23) = wb at HI0 ⊢
  go_upto_region 4 with (go_at_call 20; refine (alive21_any _).mono ?_; rintro e w1 ⟨rfl, hb1⟩; have HI1 := Lib.hid (HI0.out.kept hb1); clear hb1)
  go_upto_region 5 with (first | ((with_reducible show wpList _ _ _ (Oper.mk (some 32) _ _ _ _ _ :: _) _ _); refine wpList_load_part rfl 23 _ rfl (w.heap.size) 0 _ 23 (0, 0) _ (HI1.out.get 0 rfl) rfl .u8 s (arr_part _ _) Tryd.underlying23 rfl (num_i HSL.out) ?_) | (go_at_call 21; refine (HRC.out _ (HX.out.below HI1.out.below)).mono ?_; rintro e w2 ⟨s2, c2, rfl, hs2, hg2, hb2⟩; have HI2 := Lib.hid (HI1.out.kept hb2); have HS2 := Lib.hid hs2; have HX2 := Lib.hid ((HX.out.below HI1.out.below).below hb2); have HG2 := Lib.hid hg2; have HL2 := Lib.hid (HI1.out.lt 0 rfl); clear hb2 hs2 hg2))
  go_upto_region 9 with fail
  refine wp_region_held_drew (S := fun u => Kept (fun _ => False) w2 u) (by kernel_rfl) ((Kept.refl _ w2).drew) (fun hHeld => ?_)
  refine wpAnyH_take (i := 0) (oi := (⟨some 59, _, _, _, _, none⟩ : Oper)) (v := .int .i64 0) rfl (by kernel_rfl) (by kernel_rfl) (by kernel_rfl) (fun _ _ _ h => h) (Or.inl ⟨by rfl, ?hy101⟩) (by assumption) ?rest101
  case hy101 => (intro u hSu; (try dsimp only at hSu); go_simp; try (with_reducible rfl))
  (try simp only [Act.put, List.setIfInBounds_toArray, List.set_cons_zero, List.set_cons_succ])
  refine wpAnyH_ready (rs := [1]) (by kernel_rfl) (by simp) ?_
  refine AllReadyH.cons (o := (⟨some 60, _, _, _, _, none⟩ : Oper)) rfl (fun K hK => ?_) AllReadyH.nil
  go_simp
  go_at_call 22
  refine (num21_any _ _).mono ?_
  rintro e w' ⟨rfl, rfl⟩
  (try dsimp only)
  refine hK.out _ _ ((Kept.refl _ w2).drew) (fun hHeld => ?_)
  clear hK K
  (try simp only [Act.put, List.setIfInBounds_toArray, List.set_cons_zero, List.set_cons_succ])
  refine wpAnyH_take (i := 2) (oi := (⟨some 61, _, _, _, _, none⟩ : Oper)) (v := .bool false) rfl (by kernel_rfl) (by kernel_rfl) (by kernel_rfl) (fun _ _ _ h => h) (Or.inl ⟨by rfl, ?hy102⟩) (by assumption) ?rest102
  case hy102 => (intro u hSu; (try dsimp only at hSu); go_simp; try (with_reducible rfl))
  (try simp only [Act.put, List.setIfInBounds_toArray, List.set_cons_zero, List.set_cons_succ])
  refine wpAnyH_take (i := 3) (oi := (⟨some 62, _, _, _, _, none⟩ : Oper)) (v := .bool false) rfl (by kernel_rfl) (by kernel_rfl) (by kernel_rfl) (fun _ _ _ h => h) (Or.inl ⟨by rfl, ?hy103⟩) (by assumption) ?rest103
  case hy103 => (intro u hSu; (try dsimp only at hSu); go_simp; try (with_reducible rfl))
  (try simp only [Act.put, List.setIfInBounds_toArray, List.set_cons_zero, List.set_cons_succ])
  refine wpAnyH_take (i := 4) (oi := (⟨some 63, _, _, _, _, _⟩ : Oper)) (v := .slice s2 (52 + m) c2) rfl (by kernel_rfl) (by kernel_rfl) (by kernel_rfl) (fun _ _ _ h => h) (Or.inl ⟨by rfl, ?hy104⟩) (by assumption) ?rest104
  case hy104 => (intro u hSu; (try dsimp only at hSu); go_simp; try (with_reducible rfl))
  (try simp only [Act.put, List.setIfInBounds_toArray, List.set_cons_zero, List.set_cons_succ])
  refine wpAnyH_take (i := 5) (oi := (⟨some 64, _, _, _, _, _⟩ : Oper)) (v := .string SR) rfl (by kernel_rfl) (by kernel_rfl) (by kernel_rfl) (fun _ _ _ h => h) (Or.inl ⟨by rfl, ?hy105⟩) (by assumption) ?rest105
  case hy105 => (intro u hSu; (try dsimp only at hSu); exact conv_nextk (by rw [HSR.out]; exact src_string (HS2.out.kept hSu (fun _ _ => .inr id))))
  (try simp only [Act.put, List.setIfInBounds_toArray, List.set_cons_zero, List.set_cons_succ])
  refine' wpAnyH_take (i := 6) (oi := (⟨some 65, _, _, _, _, _⟩ : Oper)) (v := _) rfl (by kernel_rfl) (by kernel_rfl) (by kernel_rfl) (fun _ _ _ h => h) (yieldsIf_load_mid (by rfl) _ _ rfl _ _ rfl (s.map (Value.int .u8)) _ ?hS65 Tryd.underlying23 rfl (by rw [List.length_map]; exact num_i HSL.out)) (by assumption) ?rest65
  case hS65 => (intro u hSu; (try dsimp only at hSu); exact range_part (hSu.blk (HI2.out.get 0 rfl) id) 0 _ (by rw [List.length_map]; exact arr_part _ _))
  (try simp only [Act.put, List.setIfInBounds_toArray, List.set_cons_zero, List.set_cons_succ])
  refine wpAnyH_take (i := 7) (oi := (⟨some 66, _, _, _, _, _⟩ : Oper)) (v := .int .i64 n) rfl (by kernel_rfl) (by kernel_rfl) (by kernel_rfl) (fun _ _ _ h => h) (Or.inl ⟨by rfl, ?hy106⟩) (by assumption) ?rest106
  case hy106 => (intro u hSu; (try dsimp only at hSu); go_simp; try (with_reducible rfl))
  (try simp only [Act.put, List.setIfInBounds_toArray, List.set_cons_zero, List.set_cons_succ])
  refine wpAnyH_take (i := 8) (oi := (⟨some 67, _, _, _, _, _⟩ : Oper)) (v := .slice sx m cx) rfl (by kernel_rfl) (by kernel_rfl) (by kernel_rfl) (fun _ _ _ h => h) (Or.inl ⟨by rfl, ?hy107⟩) (by assumption) ?rest107
  case hy107 => (intro u hSu; (try dsimp only at hSu); go_simp; try (with_reducible rfl))
  (try simp only [Act.put, List.setIfInBounds_toArray, List.set_cons_zero, List.set_cons_succ])
  refine wpAnyH_ready (rs := [9]) (by kernel_rfl) (by simp) ?_
  refine AllReadyH.cons (o := (⟨some 68, _, _, _, _, _⟩ : Oper)) rfl (fun K hK => ?_) AllReadyH.nil
  go_simp
  go_at_call 23
  refine (HDR.out _ (HX2.out.below (Below.drewN (Below.refl _ w2) 1)) (ktab_below HTK.out (HI2.out.drewN 1).below)).mono ?_
  rintro e w3 ⟨v3, rfl, ho3, hb3⟩
  have HK3 : Hid (Kept (fun _ => False) w2 w3) := Lib.hid ((Kept.refl _ w2).drew.trans (Kept.of_below hb3))
  have HO3 := Lib.hid ho3
  clear hb3 ho3
  (try dsimp only)
  refine hK.out _ _ (HK3.out) (fun hHeld => ?_)
  clear hK K
  (try simp only [Act.put, List.setIfInBounds_toArray, List.set_cons_zero, List.set_cons_succ])
  refine wpAnyH_ready (rs := [10]) (by kernel_rfl) (by simp) ?_
  refine AllReadyH.cons (o := (⟨some 69, _, _, _, _, _⟩ : Oper)) rfl (fun K hK => ?_) AllReadyH.nil
  refine lin_pureW (by rfl) (.string SR) (conv_nextk (by rw [HSR.out]; exact HO3.out.str)) ?_
  refine hK.out _ _ (HK3.out) (fun hHeld => ?_)
  clear hK K
  (try simp only [Act.put, List.setIfInBounds_toArray, List.set_cons_zero, List.set_cons_succ])
  refine wpAnyH_take (i := 11) (oi := (⟨some 70, _, _, _, _, _⟩ : Oper)) (v := .bool false) rfl (by kernel_rfl) (by kernel_rfl) (by kernel_rfl) (fun _ _ _ h => h) (Or.inl ⟨by rfl, ?hy108⟩) (by assumption) ?rest108
  case hy108 => (intro u hSu; (try dsimp only at hSu); go_simp; try (first | (with_reducible rfl) | rw [q1] | simp [q1]))
  (try simp only [Act.put, List.setIfInBounds_toArray, List.set_cons_zero, List.set_cons_succ])
  refine wpAnyH_take (i := 12) (oi := (⟨some 71, _, _, _, _, none⟩ : Oper)) (v := .bool false) rfl (by kernel_rfl) (by kernel_rfl) (by kernel_rfl) (fun _ _ _ h => h) (Or.inl ⟨by rfl, ?hy109⟩) (by assumption) ?rest109
  case hy109 => (intro u hSu; (try dsimp only at hSu); go_simp; try (with_reducible rfl))
  (try simp only [Act.put, List.setIfInBounds_toArray, List.set_cons_zero, List.set_cons_succ])
  refine wpAnyH_take (i := 13) (oi := (⟨some 72, _, _, _, _, none⟩ : Oper)) (v := .bool false) rfl (by kernel_rfl) (by kernel_rfl) (by kernel_rfl) (fun _ _ _ h => h) (Or.inl ⟨by rfl, ?hy110⟩) (by assumption) ?rest110
  case hy110 => (intro u hSu; (try dsimp only at hSu); go_simp; try (with_reducible rfl))
  (try simp only [Act.put, List.setIfInBounds_toArray, List.set_cons_zero, List.set_cons_succ])
  refine wpAnyH_take (i := 14) (oi := (⟨some 73, _, _, _, _, _⟩ : Oper)) (v := .slice s2 (52 + m) c2) rfl (by kernel_rfl) (by kernel_rfl) (by kernel_rfl) (fun _ _ _ h => h) (Or.inl ⟨by rfl, ?hy111⟩) (by assumption) ?rest111
  case hy111 => (intro u hSu; (try dsimp only at hSu); go_simp; try (with_reducible rfl))
  (try simp only [Act.put, List.setIfInBounds_toArray, List.set_cons_zero, List.set_cons_succ])
  refine wpAnyH_take (i := 15) (oi := (⟨some 74, _, _, _, _, _⟩ : Oper)) (v := .int .i64 (52 + (m : Int))) rfl (by kernel_rfl) (by kernel_rfl) (by kernel_rfl) (fun _ _ _ h => h) (Or.inl ⟨by rfl, ?hy112⟩) (by assumption) ?rest112
  case hy112 => (intro u hSu; (try dsimp only at hSu); go_simp; try (with_reducible rfl))
  (try simp only [Act.put, List.setIfInBounds_toArray, List.set_cons_zero, List.set_cons_succ])
  refine wpAnyH_take (i := 16) (oi := (⟨some 75, _, _, _, _, _⟩ : Oper)) (v := .slice sx m cx) rfl (by kernel_rfl) (by kernel_rfl) (by kernel_rfl) (fun _ _ _ h => h) (Or.inl ⟨by rfl, ?hy113⟩) (by assumption) ?rest113
  case hy113 => (intro u hSu; (try dsimp only at hSu); go_simp; try (with_reducible rfl))
  (try simp only [Act.put, List.setIfInBounds_toArray, List.set_cons_zero, List.set_cons_succ])
  refine wpAnyH_take (i := 17) (oi := (⟨some 76, _, _, _, _, _⟩ : Oper)) (v := .int .i64 m) rfl (by kernel_rfl) (by kernel_rfl) (by kernel_rfl) (fun _ _ _ h => h) (Or.inl ⟨by rfl, ?hy114⟩) (by assumption) ?rest114
  case hy114 => (intro u hSu; (try dsimp only at hSu); go_simp; try (with_reducible rfl))
  (try simp only [Act.put, List.setIfInBounds_toArray, List.set_cons_zero, List.set_cons_succ])
  refine wpAnyH_take (i := 18) (oi := (⟨some 77, _, _, _, _, _⟩ : Oper)) (v := .int .i64 (52 + (m : Int))) rfl (by kernel_rfl) (by kernel_rfl) (by kernel_rfl) (fun _ _ _ h => h) (Or.inl ⟨by rfl, ?hy115⟩) (by assumption) ?rest115
  case hy115 => (intro u hSu; (try dsimp only at hSu); go_simp; try (first | (with_reducible rfl) | (rw [IntKind.wrap_i64]; omega)))
  (try simp only [Act.put, List.setIfInBounds_toArray, List.set_cons_zero, List.set_cons_succ])
  refine wpAnyH_take (i := 19) (oi := (⟨some 78, _, _, _, _, _⟩ : Oper)) (v := .bool false) rfl (by kernel_rfl) (by kernel_rfl) (by kernel_rfl) (fun _ _ _ h => h) (Or.inl ⟨by rfl, ?hy116⟩) (by assumption) ?rest116
  case hy116 => (intro u hSu; (try dsimp only at hSu); go_simp; try (with_reducible rfl))
  (try simp only [Act.put, List.setIfInBounds_toArray, List.set_cons_zero, List.set_cons_succ])
  refine wpAnyH_take (i := 20) (oi := (⟨some 79, _, _, _, _, none⟩ : Oper)) (v := .bool false) rfl (by kernel_rfl) (by kernel_rfl) (by kernel_rfl) (fun _ _ _ h => h) (Or.inl ⟨by rfl, ?hy117⟩) (by assumption) ?rest117
  case hy117 => (intro u hSu; (try dsimp only at hSu); go_simp; try (with_reducible rfl))
  (try simp only [Act.put, List.setIfInBounds_toArray, List.set_cons_zero, List.set_cons_succ])
  refine wpAnyH_done (by kernel_rfl) ?_ _
  (try simp only [Exit.then])
  clear hHeld
  have HI3 := Lib.hid (HI2.out.kept (HK3.out.toBelow (Nat.le_refl _) (fun _ e => e.elim)))
  have HS3 := Lib.hid (HS2.out.kept HK3.out (fun _ _ => .inr id))
  have HX3 := Lib.hid (HX2.out.kept HK3.out (fun _ _ => .inr id))
  have HG3 := Lib.hid (fun a (e : s2 = some a) => (show w.heap.size < a.block ∧ a.block < w3.heap.size from by have h1 := HG2.out a e; have h2 := HL2.out; have h3 := HK3.out.size; omega))
  clear HI2 HS2 HX2 HG2 HL2 HO3 HK3 hn0 hm0 hm5
  by_cases hk : k = 0 ∨ k = 1
  rotate_left
  · have k0 : ¬ k = 0 := by omega
    have k1 : ¬ k = 1 := by omega
    have k2 : (k == 0) = false := by rw [beq_eq_false_iff_ne]; exact k0
    have k3 : (k == 1) = false := by rw [beq_eq_false_iff_ne]; exact k1
    have k4 : (k != 0) = true := by rw [bne, k2]; rfl
    have k5 : (k != 1) = true := by rw [bne, k3]; rfl
    clear hk
    go_wp2_with (first | ((with_reducible show wpList _ _ _ (Oper.mk (some 87) _ _ _ _ _ :: _) _ _); refine wpList_load_part rfl 23 _ rfl (w.heap.size) 0 _ 23 (0, 0) _ (HI3.out.get 0 rfl) rfl .u8 s (arr_part _ _) Tryd.underlying23 rfl (num_i HSL.out) ?_) | (go_at_call 24; refine (half_nil s k _).mono ?_; rintro e w4 ⟨rfl, hb4⟩; have HI4 := Lib.hid (HI3.out.kept hb4); clear hb4))
    go_ret
    exact ⟨rfl, HI4.out.below⟩
  · obtain ⟨j, hj, hj2⟩ : ∃ j : Nat, k = (j : Int) ∧ (j = 0 ∨ j = 1) := by
      rcases hk with rfl | rfl
      · exact ⟨0, rfl, .inl rfl⟩
      · exact ⟨1, rfl, .inr rfl⟩
    subst hj
    have hpr := HPR.out j (by omega)
    obtain ⟨f1, hf1⟩ : ∃ f, f = f0.poke (8192 * j : Nat) R := ⟨_, rfl⟩
    have hpk := fun (p g : Nat) (u : World) (h : IsFl u p g f0) (hs : Src u s2 (52 + m) R) => poke_any p g f0 (8192 * j : Nat) s2 (52 + m) c2 R u h hs HRB.out
    obtain ⟨ok, hok'⟩ : ∃ b, b = f0.pokeOk ((8192 * j : Nat) : Int) ((52 + m : Nat) : Int) := ⟨_, rfl⟩
    rw [← hf1, ← hok'] at hpk
    rw [← hf1] at hpr
    have hc1 : f1.dead = false ∧ f1.b.length = 16384 := by
      rw [hf1, Fl.poke_len]
      refine ⟨?_, HC0.out.2⟩
      unfold Fl.poke
      split
      · exact HC0.out.1
      · exact HC0.out.1
    have hh1 := fun p g => HHF.out p g f1 j hj2 hc1.1 (by omega)
    have hh2 := fun p g => HHF.out p g f1 (1 - j) (by omega) hc1.1 (by omega)
    have e1 : hA f1 s j = n ∧ hB f1 s j = x ∧ hC f1 s j = true ∧ hC f1 s (1 - j) = false := by
      obtain ⟨p1, p2, p3, p4⟩ := hpr
      unfold hA hB hC
      simp only [bb] at p1 p2 p3 p4
      rw [p1, p2, p3, p4]
      exact ⟨rfl, rfl, rfl, rfl⟩
    rw [e1.1, e1.2.1, e1.2.2.1] at hh1
    rw [e1.2.2.2] at hh2
    generalize hA f1 s (1 - j) = a2 at hh2
    generalize hB f1 s (1 - j) = b2 at hh2
    have HH1 := Lib.hid hh1
    have HH2 := Lib.hid hh2
    have HPK := Lib.hid hpk
    clear hh1 hh2 hpk hpr e1 hc1 hf1 hok' hk
    have xx := (src_string (c := cx) HX.out)
    rcases hj2 with rfl | rfl
    · go_upto_region 15 with (first | ((with_reducible show wpList _ _ _ (Oper.mk (some 95) _ _ _ _ _ :: _) _ _); refine wpList_build (by rfl) 23 _ rfl #[] rfl _ (HB0.out _) ?_) | ((with_reducible show wpList _ _ _ (Oper.mk (some 96) _ _ _ _ _ :: _) _ _); refine wpList_load_part rfl 23 _ rfl (w.heap.size) 0 _ 23 (0, 0) _ (HI3.out.get 0 rfl) rfl .u8 s (arr_part _ _) Tryd.underlying23 rfl (num_i HSL.out) ?_) | (go_at_call 25; refine (HNEW.out _).mono ?_; rintro e w4 ⟨p, g, o, pr, gr, qr, rfl, h2, h3, h4⟩; have HI4 := Lib.hid (HI3.out.kept h4); have HS4 := Lib.hid (HS3.out.below h4); have HX4 := Lib.hid (HX3.out.below h4); have HF4 := Lib.hid h2.fl; have HZ4 := Lib.hid h3; clear h2 h3 h4))
      have HB5 : Hid (Below w4.heap.size w4 (w4.alloc (.cells #[.pointer (some ⟨p, 0, none⟩), .pointer (some ⟨o, 0, none⟩), .pointer (some ⟨pr, 0, none⟩), .pointer (some ⟨qr, 0, none⟩)] 53))) := Lib.hid ((Below.refl _ w4).alloc (Nat.le_refl _) _)
      have HI5 := Lib.hid (HI4.out.alloc #[.pointer (some ⟨p, 0, none⟩), .pointer (some ⟨o, 0, none⟩), .pointer (some ⟨pr, 0, none⟩), .pointer (some ⟨qr, 0, none⟩)] 53)
      have HS5 := Lib.hid (HS4.out.below HB5.out)
      have HX5 := Lib.hid (HX4.out.below HB5.out)
      have HF5 := Lib.hid (HF4.out.below HB5.out)
      have HLT : Hid (w.heap.size < p ∧ w.heap.size < g ∧ p < w4.heap.size ∧ g < w4.heap.size ∧ w3.heap.size ≤ p ∧ w3.heap.size ≤ g ∧ w.heap.size < w3.heap.size) := Lib.hid (by
        have q1 := HI3.out.lt 0 rfl
        have q4 := HZ4.out.low
        have q5 := HF4.out.lt
        refine ⟨?_, ?_, ?_, ?_, ?_, ?_, ?_⟩ <;> omega)
      clear HB5 HI4 HS4 HX4 HF4 HZ4
      generalize w4.alloc (.cells #[.pointer (some ⟨p, 0, none⟩), .pointer (some ⟨o, 0, none⟩), .pointer (some ⟨pr, 0, none⟩), .pointer (some ⟨qr, 0, none⟩)] 53) = w5 at HI5 HS5 HX5 HF5 ⊢
      generalize w4.heap.size = pb at HI5 HLT ⊢
      have y0 : w5.cell? ⟨pb, 0, none⟩ = some (.pointer (some ⟨p, 0, none⟩)) := cell_blk (HI5.out.get 1 rfl) 0
      have HXW := Lib.hid (show ∀ a, sx = some a → m = 0 ∨ ¬ (a.block = p ∨ a.block = g) from fun a e => by
        rcases Nat.eq_zero_or_pos m with h0 | h0
        · exact .inl h0
        · obtain ⟨b, eb, hc⟩ := HX3.out.cell 0 h0
          rw [e] at eb
          cases eb
          have hlt := cell_ltb hc
          rw [show (a.add 0).block = a.block from by unfold Addr.add; split <;> rfl] at hlt
          have := HLT.out
          exact .inr (by rintro (e | e) <;> omega))
      go_upto_region 16 with (go_at_call 26; refine (HPK.out _ _ _ HF5.out HS5.out).mono ?_; rintro e w6 ⟨rfl, hf6, hk6, -⟩; have HI6 := Lib.hid (Blk.keptF HI5.out hk6 (fun i hi => by have := HLT.out; rcases hi with rfl | rfl <;> omega) (by intro e he; simp only [List.cons_append, List.nil_append, List.mem_cons, List.not_mem_nil, or_false] at he; have := HLT.out; rcases he with rfl | rfl <;> (rintro (e | e) <;> (simp only at e; omega)))); have HX6 := Lib.hid (HX5.out.kept hk6 HXW.out); have HF6 := Lib.hid hf6; clear hf6 hk6)
      clear y0 HI5 HS5 HX5 HF5
      have y0 : w6.cell? ⟨pb, 0, none⟩ = some (.pointer (some ⟨p, 0, none⟩)) := cell_blk (HI6.out.get 1 rfl) 0
      go_upto_region 17 with (first | ((with_reducible show wpList _ _ _ (Oper.mk (some 107) _ _ _ _ _ :: _) _ _); refine wpList_load_part rfl 23 _ rfl (w.heap.size) 0 _ 23 (0, 0) _ (HI6.out.get 0 rfl) rfl .u8 s (arr_part _ _) Tryd.underlying23 rfl (num_i HSL.out) ?_) | (go_at_call 24; refine (HH1.out _ _ _ HF6.out).mono ?_; rintro e w7 ⟨⟨v7, rfl, ho7⟩, hb7⟩; have HI7 := Lib.hid (HI6.out.kept hb7); have HF7 := Lib.hid (HF6.out.below hb7); have HX7 := Lib.hid (HX6.out.below hb7); have HO7 := Lib.hid ho7; clear hb7 ho7))
      clear y0
      have y0 : w7.cell? ⟨pb, 0, none⟩ = some (.pointer (some ⟨p, 0, none⟩)) := cell_blk (HI7.out.get 1 rfl) 0
      go_upto_region 18 with (first | ((with_reducible show wpList _ _ _ (Oper.mk (some 116) _ _ _ _ _ :: _) _ _); refine wpList_load_part rfl 23 _ rfl (w.heap.size) 0 _ 23 (0, 0) _ (HI7.out.get 0 rfl) rfl .u8 s (arr_part _ _) Tryd.underlying23 rfl (num_i HSL.out) ?_) | (go_at_call 24; refine (HH2.out _ _ _ HF7.out).mono ?_; rintro e w8 ⟨⟨v8, rfl, -⟩, hb8⟩; have HI8 := Lib.hid (HI7.out.kept hb8); have HX8 := Lib.hid (HX7.out.below hb8); have t1 := (HO7.out.below hb8).str; clear hb8))
      clear y0
      have t2 := src_string (c := cx) HX8.out
      generalize strOfNums x = SX at t1 t2
      have q2 : (SX.toList == SX.toList) = true := beq_self_eq_true _
      have q3 : (n == n) = true := beq_self_eq_true _
      clear xx
      go_wp2_with fail
      go_ret
      exact ⟨rfl, HI8.out.below⟩
    · go_upto_region 15 with (first | ((with_reducible show wpList _ _ _ (Oper.mk (some 95) _ _ _ _ _ :: _) _ _); refine wpList_build (by rfl) 23 _ rfl #[] rfl _ (HB0.out _) ?_) | ((with_reducible show wpList _ _ _ (Oper.mk (some 96) _ _ _ _ _ :: _) _ _); refine wpList_load_part rfl 23 _ rfl (w.heap.size) 0 _ 23 (0, 0) _ (HI3.out.get 0 rfl) rfl .u8 s (arr_part _ _) Tryd.underlying23 rfl (num_i HSL.out) ?_) | (go_at_call 25; refine (HNEW.out _).mono ?_; rintro e w4 ⟨p, g, o, pr, gr, qr, rfl, h2, h3, h4⟩; have HI4 := Lib.hid (HI3.out.kept h4); have HS4 := Lib.hid (HS3.out.below h4); have HX4 := Lib.hid (HX3.out.below h4); have HF4 := Lib.hid h2.fl; have HZ4 := Lib.hid h3; clear h2 h3 h4))
      have HB5 : Hid (Below w4.heap.size w4 (w4.alloc (.cells #[.pointer (some ⟨p, 0, none⟩), .pointer (some ⟨o, 0, none⟩), .pointer (some ⟨pr, 0, none⟩), .pointer (some ⟨qr, 0, none⟩)] 53))) := Lib.hid ((Below.refl _ w4).alloc (Nat.le_refl _) _)
      have HI5 := Lib.hid (HI4.out.alloc #[.pointer (some ⟨p, 0, none⟩), .pointer (some ⟨o, 0, none⟩), .pointer (some ⟨pr, 0, none⟩), .pointer (some ⟨qr, 0, none⟩)] 53)
      have HS5 := Lib.hid (HS4.out.below HB5.out)
      have HX5 := Lib.hid (HX4.out.below HB5.out)
      have HF5 := Lib.hid (HF4.out.below HB5.out)
      have HLT : Hid (w.heap.size < p ∧ w.heap.size < g ∧ p < w4.heap.size ∧ g < w4.heap.size ∧ w3.heap.size ≤ p ∧ w3.heap.size ≤ g ∧ w.heap.size < w3.heap.size) := Lib.hid (by
        have q1 := HI3.out.lt 0 rfl
        have q4 := HZ4.out.low
        have q5 := HF4.out.lt
        refine ⟨?_, ?_, ?_, ?_, ?_, ?_, ?_⟩ <;> omega)
      clear HB5 HI4 HS4 HX4 HF4 HZ4
      generalize w4.alloc (.cells #[.pointer (some ⟨p, 0, none⟩), .pointer (some ⟨o, 0, none⟩), .pointer (some ⟨pr, 0, none⟩), .pointer (some ⟨qr, 0, none⟩)] 53) = w5 at HI5 HS5 HX5 HF5 ⊢
      generalize w4.heap.size = pb at HI5 HLT ⊢
      have y0 : w5.cell? ⟨pb, 0, none⟩ = some (.pointer (some ⟨p, 0, none⟩)) := cell_blk (HI5.out.get 1 rfl) 0
      have HXW := Lib.hid (show ∀ a, sx = some a → m = 0 ∨ ¬ (a.block = p ∨ a.block = g) from fun a e => by
        rcases Nat.eq_zero_or_pos m with h0 | h0
        · exact .inl h0
        · obtain ⟨b, eb, hc⟩ := HX3.out.cell 0 h0
          rw [e] at eb
          cases eb
          have hlt := cell_ltb hc
          rw [show (a.add 0).block = a.block from by unfold Addr.add; split <;> rfl] at hlt
          have := HLT.out
          exact .inr (by rintro (e | e) <;> omega))
      go_upto_region 16 with (go_at_call 26; refine (HPK.out _ _ _ HF5.out HS5.out).mono ?_; rintro e w6 ⟨rfl, hf6, hk6, -⟩; have HI6 := Lib.hid (Blk.keptF HI5.out hk6 (fun i hi => by have := HLT.out; rcases hi with rfl | rfl <;> omega) (by intro e he; simp only [List.cons_append, List.nil_append, List.mem_cons, List.not_mem_nil, or_false] at he; have := HLT.out; rcases he with rfl | rfl <;> (rintro (e | e) <;> (simp only at e; omega)))); have HX6 := Lib.hid (HX5.out.kept hk6 HXW.out); have HF6 := Lib.hid hf6; clear hf6 hk6)
      clear y0 HI5 HS5 HX5 HF5
      have y0 : w6.cell? ⟨pb, 0, none⟩ = some (.pointer (some ⟨p, 0, none⟩)) := cell_blk (HI6.out.get 1 rfl) 0
      go_upto_region 17 with (first | ((with_reducible show wpList _ _ _ (Oper.mk (some 107) _ _ _ _ _ :: _) _ _); refine wpList_load_part rfl 23 _ rfl (w.heap.size) 0 _ 23 (0, 0) _ (HI6.out.get 0 rfl) rfl .u8 s (arr_part _ _) Tryd.underlying23 rfl (num_i HSL.out) ?_) | (go_at_call 24; refine (HH1.out _ _ _ HF6.out).mono ?_; rintro e w7 ⟨⟨v7, rfl, ho7⟩, hb7⟩; have HI7 := Lib.hid (HI6.out.kept hb7); have HF7 := Lib.hid (HF6.out.below hb7); have HX7 := Lib.hid (HX6.out.below hb7); have HO7 := Lib.hid ho7; clear hb7 ho7))
      clear y0
      have y0 : w7.cell? ⟨pb, 0, none⟩ = some (.pointer (some ⟨p, 0, none⟩)) := cell_blk (HI7.out.get 1 rfl) 0
      go_upto_region 18 with (first | ((with_reducible show wpList _ _ _ (Oper.mk (some 116) _ _ _ _ _ :: _) _ _); refine wpList_load_part rfl 23 _ rfl (w.heap.size) 0 _ 23 (0, 0) _ (HI7.out.get 0 rfl) rfl .u8 s (arr_part _ _) Tryd.underlying23 rfl (num_i HSL.out) ?_) | (go_at_call 24; refine (HH2.out _ _ _ HF7.out).mono ?_; rintro e w8 ⟨⟨v8, rfl, -⟩, hb8⟩; have HI8 := Lib.hid (HI7.out.kept hb8); have HX8 := Lib.hid (HX7.out.below hb8); have t1 := (HO7.out.below hb8).str; clear hb8))
      clear y0
      have t2 := src_string (c := cx) HX8.out
      generalize strOfNums x = SX at t1 t2
      have q2 : (SX.toList == SX.toList) = true := beq_self_eq_true _
      have q3 : (n == n) = true := beq_self_eq_true _
      clear xx
      go_wp2_with fail
      go_ret
      exact ⟨rfl, HI8.out.below⟩

/-- BankRecords, at every input. -/
theorem records_any (s : List Int) (n k : Int) (sx : Option Addr) (m cx : Nat) (x : List Int) (w : World) (hsl : s.length = 32) (hsb : bytes s) (hn : n ≤ 9223372036854775807) (hs : Src w sx m x) (hxb : bytes x) (hT : Ha.TabK w) :
    Calls Tryd.prog 5 #[.agg (arr .u8 s), .int .i64 n, .int .i64 k, .slice sx m cx] w fun e w' => e = .returned (.bool true) ∧ Below w.heap.size w w' := by
  by_cases h : 5000 < m ∨ (m ≤ 5000 ∧ n < 0) ∨ (m ≤ 5000 ∧ 0 ≤ n ∧ 4096 < m)
  · exact records_no s n k sx m cx w hsl h
  · exact records_yes s n k sx m cx x w hsl hsb ⟨by omega, hn⟩ (by omega) hs hxb hT
end Go.Proofs.YtoljnogpegemjaaDoor.Bk
