/- portcullislaw19.step: a call, by both flashes: both answer alike, and both are in one state behind it. Condition: both lie there whole, apart from each other and from the bytes that are handed over. -/
import Derived.Test.YtimlgkfhfofpbaaRfE
import Derived.Deep.RegionHeld3
namespace Go.Proofs.Ytimlgkfhfofpbaa
open Go.RowKit
set_option linter.unusedVariables false

theorem Src.drew {w : World} {sa : Option Addr} {n : Nat} {xs : List Int} (h : Src w sa n xs) : Src w.drew sa n xs := ⟨h.len, h.cell⟩

/-- Both flashes lie there, in one state. -/
structure Two (w : World) (p g pr gr : Nat) (s : Fl) : Prop where
  fl : IsFl w p g s
  rf : IsRf w pr gr s
structure Dis (p g pr gr : Nat) : Prop where
  a : p ≠ pr
  b : p ≠ gr
  c : g ≠ pr
  d : g ≠ gr
def In4 (p g pr gr : Nat) (x : Nat) : Prop := x = p ∨ x = g ∨ x = pr ∨ x = gr
theorem Two.below {w w' : World} {p g pr gr : Nat} {s : Fl} (h : Two w p g pr gr s) (k : Below w.heap.size w w') : Two w' p g pr gr s := ⟨h.fl.below k, h.rf.below k⟩
theorem Two.drew {w : World} {p g pr gr : Nat} {s : Fl} (h : Two w p g pr gr s) : Two w.drew p g pr gr s := ⟨h.fl.drewN 1, h.rf.drewN 1⟩
theorem Two.drewN {w : World} {p g pr gr : Nat} {s : Fl} (h : Two w p g pr gr s) (n : Nat) : Two (w.drewN n) p g pr gr s := ⟨h.fl.drewN n, h.rf.drewN n⟩
theorem Two.lt {w : World} {p g pr gr : Nat} {s : Fl} (h : Two w p g pr gr s) : p < w.heap.size ∧ g < w.heap.size ∧ pr < w.heap.size ∧ gr < w.heap.size :=
  ⟨h.fl.lt.1, h.fl.lt.2, h.rf.lt.1, h.rf.lt.2⟩
/-- The one flash has made its step, the other has not yet. -/
theorem Two.one {w w' : World} {p g pr gr : Nat} {s : Fl} (h : Two w p g pr gr s) (d : Dis p g pr gr) (k : Kept (fun x => x = p ∨ x = g) w w') : IsRf w' pr gr s ∧ Kept (In4 p g pr gr) w w' :=
  ⟨h.rf.kept k (by rintro (e | e); exact d.a e.symm; exact d.c e.symm) (by rintro (e | e); exact d.b e.symm; exact d.d e.symm), k.mono (by rintro i _ (e | e); exact .inl e; exact .inr (.inl e))⟩
theorem Two.other {w w' : World} {p g pr gr : Nat} {s : Fl} (h : Two w p g pr gr s) (d : Dis p g pr gr) (k : Kept (fun x => x = pr ∨ x = gr) w w') : IsFl w' p g s ∧ Kept (In4 p g pr gr) w w' :=
  ⟨h.fl.kept k (by rintro (e | e); exact d.a e; exact d.b e) (by rintro (e | e); exact d.c e; exact d.d e), k.mono (by rintro i _ (e | e); exact .inr (.inr (.inl e)); exact .inr (.inr (.inr e)))⟩
theorem two_rf {w w1 w2 : World} {p g pr gr : Nat} {t : Fl} (d : Dis p g pr gr) (h : IsFl w1 p g t) (h1 : Kept (In4 p g pr gr) w w1) (k : Kept (fun x => x = pr ∨ x = gr) w1 w2) (hr : IsRf w2 pr gr t) : Two w2 p g pr gr t ∧ Kept (In4 p g pr gr) w w2 :=
  ⟨⟨h.kept k (by rintro (e | e); exact d.a e; exact d.b e) (by rintro (e | e); exact d.c e; exact d.d e), hr⟩, h1.trans (k.mono (by rintro i _ (e | e); exact .inr (.inr (.inl e)); exact .inr (.inr (.inr e))))⟩
theorem two_fl {w w1 w2 : World} {p g pr gr : Nat} {t : Fl} (d : Dis p g pr gr) (h : IsRf w1 pr gr t) (h1 : Kept (In4 p g pr gr) w w1) (k : Kept (fun x => x = p ∨ x = g) w1 w2) (hf : IsFl w2 p g t) : Two w2 p g pr gr t ∧ Kept (In4 p g pr gr) w w2 :=
  ⟨⟨hf, h.kept k (by rintro (e | e); exact d.a e.symm; exact d.c e.symm) (by rintro (e | e); exact d.b e.symm; exact d.d e.symm)⟩, h1.trans (k.mono (by rintro i _ (e | e); exact .inl e; exact .inr (.inl e)))⟩
theorem kept_one {w w' : World} {p g : Nat} (k : Kept (fun x => x = p) w w') : Kept (fun x => x = p ∨ x = g) w w' := k.mono fun _ _ => .inl

def else4 (sa : Option Addr) (n p g pr gr : Nat) : Prop := ∀ a, sa = some a → n = 0 ∨ ¬ In4 p g pr gr a.block
theorem else4.fl {sa : Option Addr} {n p g pr gr : Nat} (h : else4 sa n p g pr gr) : elseW sa n p g := fun a ha => (h a ha).imp id fun k => ⟨fun e => k (.inl e), fun e => k (.inr (.inl e))⟩
theorem else4.rf {sa : Option Addr} {n p g pr gr : Nat} (h : else4 sa n p g pr gr) : elseW sa n pr gr := fun a ha => (h a ha).imp id fun k => ⟨fun e => k (.inr (.inr (.inl e))), fun e => k (.inr (.inr (.inr e)))⟩
theorem Src.in4 {w w' : World} {sa : Option Addr} {n p g pr gr : Nat} {xs : List Int} (h : Src w sa n xs) (hel : else4 sa n p g pr gr) (k : Kept (In4 p g pr gr) w w') : Src w' sa n xs := h.kept k hel

/-- The box of the argument behind the copy's append. -/
theorem step_box {w w2 : World} {cs : Array Value} {t : TypeId} (hg : (w.alloc (.cells cs t)).grownBy w2 (Value.ownBlock (.slice none 0 0))) :
    w2.heap[w.heap.size]? = some (.cells cs t (0, 0)) ∧ Below w.heap.size w w2 ∧ Below (w.heap.size + 1) (w.alloc (.cells cs t)) w2 := by
  have hb : Below (w.heap.size + 1) (w.alloc (.cells cs t)) w2 := (Below.refl _ _).grown hg (by simp) (fun k hk => by cases hk)
  exact ⟨Below.blk hb (blk_new w _) (by omega), ((Below.refl _ w).alloc (Nat.le_refl _) _).trans (hb.mono (by omega)), hb⟩

/-- A byte of such a slice, to be read and set. -/
theorem own8_at {w : World} {B : Nat} {sb : Option Addr} {cb : Nat} {ys : List Int} {L : Nat} (h : Own8 w B (.slice sb L cb) ys) (hL : ys.length = L) (j : Nat) (hj : j < L) :
    ∃ gb, sb = some ⟨gb, 0, none⟩ ∧ w.cell? ⟨gb, j, none⟩ = some (.int .u8 (ys.getD j 0)) ∧ w.frozen? ⟨gb, j, none⟩ = false ∧ ∀ y, Own8 (w.setCell ⟨gb, j, none⟩ (.int .u8 y)) B (.slice sb L cb) (ys.set j y) := by
  subst hL
  obtain ⟨h1, h2⟩ := h
  rcases h2 with ⟨h0, h3⟩ | ⟨g, cap, cur, hv, hB, hg, hn, hm, hs, ht⟩
  · omega
  · injection hv with e1 e2 e3
    subst e1
    subst e3
    have hsrc := src_row hg ht rfl
    obtain ⟨a, he, hc⟩ := hsrc.cell j hj
    cases he
    have e : (⟨g, 0, none⟩ : Addr).add j = ⟨g, j, none⟩ := by unfold Addr.add; split <;> simp_all
    rw [e] at hc
    refine ⟨g, rfl, hc, free_blk hg _, fun y => ⟨by simp, .inr ⟨g, cb, _, by simp, hB, blk_setCell hg _, by simpa using hn, hm, by simpa using hs, ?_⟩⟩⟩
    simp only [Array.toList_setIfInBounds, List.length_set, List.take_set, ht, List.map_set]

/-- The end: the copy has been turned, byte by byte. -/
theorem step_end {w w9 wr : World} {p g pr gr : Nat} {t : Fl} {v : Value} (hlt : p < w.heap.size ∧ g < w.heap.size ∧ pr < w.heap.size ∧ gr < w.heap.size) (hv : ∀ k, v.ownBlock = some k → w.heap.size < k) (h2 : Two w9 p g pr gr t) (hk : Kept (In4 p g pr gr) w w9) (k : Kept (fun x => v.ownBlock = some x) w9 wr) :
    Two wr p g pr gr t ∧ Kept (In4 p g pr gr) w wr := by
  obtain ⟨l1, l2, l3, l4⟩ := hlt
  have q : ∀ i, i < w.heap.size → ¬ v.ownBlock = some i := fun i hi e => by have := hv i e; omega
  exact ⟨⟨h2.fl.kept k (q _ l1) (q _ l2), h2.rf.kept k (q _ l3) (q _ l4)⟩, hk.trans_new k fun i hi e => absurd e (q i hi)⟩

set_option maxRecDepth 100000 in
set_option maxHeartbeats 1600000 in
theorem step_0 (p g pr gr : Nat) (s : Fl) (n m o c : Int) (sa : Option Addr) (len cap : Nat) (xs : List Int) (w : World) (h2 : Two w p g pr gr s) (hd : Dis p g pr gr) (hsrc : Src w sa len xs) (hxm : ∀ x ∈ xs, 0 ≤ x ∧ x ≤ 255) (hel : else4 sa len p g pr gr) (hlc : len ≤ cap) (hl : len ≤ 600) (hm1 : s.er < most) :
    Calls Try.prog 44 #[.pointer (some ⟨p, 0, none⟩), .pointer (some ⟨pr, 0, none⟩), .agg #[.int .i64 0, .int .i64 n, .int .i64 m, .slice sa len cap, .int .i64 o, .int .i64 c]] w fun e w' =>
      e = .returned (.bool true) ∧ Two w' p g pr gr (s.erase n) ∧ Kept (In4 p g pr gr) w w' := by
  have hlt := h2.lt
  have hb1 : Below w.heap.size w (w.alloc (.cells #[.int .i64 0, .int .i64 n, .int .i64 m, .slice sa len cap, .int .i64 o, .int .i64 c] 72)) := (Below.refl _ w).alloc (Nat.le_refl _) _
  have H2 := Lib.hid h2
  have HSRC1 := Lib.hid (hsrc.below hb1)
  have HXL := Lib.hid hsrc.len
  have HE := Lib.hid (fun w h => erase_any p g s n w h)
  have HRE := Lib.hid (fun w h => rerase_any pr gr s n w h hm1)
  clear hb1 h2
  go_enter Try.func44, Try.ntmps44
  go_wp2_with (at_builtin; refine wpList_app8 rfl _ _ rfl (w.heap.size + 1) (.slice none 0 0) [] rfl (Own8.nil _ _) sa len _ xs rfl HSRC1.out ?_ ?_ ?_; (simp; omega); (simp); intro v w2 hown hgrow hnil hat; obtain ⟨hbox, hbw, hbw1⟩ := step_box hgrow; have x0 := cell_blk hbox 0; have x1 := cell_blk hbox 1; have x2 := cell_blk hbox 2; have x3 := cell_blk hbox 3; have x4 := cell_blk hbox 4; have x5 := cell_blk hbox 5; clear hgrow hnil hat; simp only [List.getElem?_toArray, List.getElem?_cons_zero, List.getElem?_cons_succ] at x0 x1 x2 x3 x4 x5; obtain ⟨sb, cb, hv, hcb1, hcb2, hsb, hsf⟩ := hown.form; rw [List.nil_append, HXL.out] at hv hsb; rw [List.nil_append] at hown; subst hv; have hvb : ∀ k, (Value.slice sb len cb).ownBlock = some k → w.heap.size < k := (fun k hk => (hown.lt k hk).1); have HSB := Lib.hid hsb; have HOWN := Lib.hid hown; have HSF := Lib.hid hsf; clear hown hsb hsf; have h22 := H2.out.below hbw; have H22 := Lib.hid h22; clear h22)
  have hnb1 : ¬ In4 p g pr gr (⟨w.heap.size, 1, none⟩ : Addr).block := by show ¬ In4 p g pr gr w.heap.size; rintro (e | e | e | e) <;> omega
  have hnb3 : ¬ In4 p g pr gr (⟨w.heap.size, 3, none⟩ : Addr).block := by show ¬ In4 p g pr gr w.heap.size; rintro (e | e | e | e) <;> omega
  have helb : else4 sb len p g pr gr := by
    intro a ha
    right
    have := hvb a.block (by rw [ha]; rfl)
    rintro (e | e | e | e) <;> omega
  go_region_held3 (fun w' => w'.cell? ⟨w.heap.size, 1, none⟩ = some (.int .i64 n)) ((first | exact z1 | exact y1 | exact y1' | exact x1)) (first | (go_at_call 53; refine (HRE.out _ hrA).mono ?_; rintro e w9 ⟨rfl, hr9, hk9, -⟩; obtain ⟨t9, k9⟩ := two_rf hd hfA hk4 hk9 hr9; have z1 := Kept.cellX k9 (a := w2.drew) x1 hnb1) | (go_at_call 33; refine (HE.out _ hfB).mono ?_; rintro e w9 ⟨rfl, hf9, hk9, -⟩; obtain ⟨t9, k9⟩ := two_fl hd hrB hk4' hk9 hf9; have z1 := Kept.cellX k9 (a := w2.drew) x1 hnb1) | (go_at_call 33; refine (HE.out _ H22.out.drew.fl).mono ?_; rintro e wA ⟨rfl, hfA, hkA, -⟩; obtain ⟨hrA, hk4⟩ := H22.out.drew.one hd hkA; have y1 := Kept.cellX hk4 (a := w2.drew) x1 hnb1) | (go_at_call 53; refine (HRE.out _ H22.out.drew.rf).mono ?_; rintro e wB ⟨rfl, hrB, hkB, -⟩; obtain ⟨hfB, hk4'⟩ := H22.out.drew.other hd hkB; have y1' := Kept.cellX hk4' (a := w2.drew) x1 hnb1))
  all_goals
    have HOWN9 := Lib.hid (HOWN.out.kept (w := w2) (⟨k9.os, k9.tape, k9.output, k9.size, k9.block⟩ : Kept (In4 p g pr gr) w2 w9) (fun g' hg' => by have := hvb g' hg'; rintro (e | e | e | e) <;> omega))
    have K9 := Lib.hid (((Kept.of_below (T := In4 p g pr gr) hbw).trans (⟨k9.os, k9.tape, k9.output, k9.size, k9.block⟩ : Kept (In4 p g pr gr) w2 w9)))
    have T9 := Lib.hid t9
    clear t9 k9 x0 x1 x2 x3 x4 x5
    go_wp2_with fail
    go_loopw [14] (fun i wr => ∃ j : Nat, j ≤ len ∧ i = .int .i64 j ∧ (∃ ys : List Int, ys.length = len ∧ Own8 wr (w.heap.size + 1) (.slice sb len cb) ys) ∧ Kept (fun k => (Value.slice sb len cb).ownBlock = some k) w9 wr) (fun i _ => len - (intOf i).toNat)
    case atStart => exact ⟨0, Nat.zero_le _, rfl, ⟨xs, HXL.out, HOWN9.out⟩, Kept.refl _ _⟩
    case round =>
      obtain ⟨j, hj, rfl, ⟨ys, hys, hoj⟩, hkj⟩ := hrel
      by_cases hlt9 : j < len
      · obtain ⟨gb, rfl, y1, y2, y3⟩ := own8_at hoj hys j hlt9
        have y4 := Lib.hid y3
        have y5 := Lib.hid hkj
        have y6 := Lib.hid hys
        clear y3 hkj hoj hys
        go_wp2
        go_roundw
        case rel => exact ⟨j + 1, by omega, by go_num, ⟨_, (List.length_set).trans y6.out, y4.out _⟩, y5.out.setCell (p := ⟨gb, j, none⟩) (.inl rfl) _⟩
        case measure => simp [intOf]; omega
      · have hfin := step_end hlt hvb T9.out K9.out hkj
        have HFIN := Lib.hid hfin
        clear hfin hoj hkj hys
        go_wp2
        go_ret
        exact ⟨rfl, HFIN.out⟩

set_option maxRecDepth 100000 in
set_option maxHeartbeats 1600000 in
theorem step_1 (p g pr gr : Nat) (s : Fl) (n m o c : Int) (sa : Option Addr) (len cap : Nat) (xs : List Int) (w : World) (h2 : Two w p g pr gr s) (hd : Dis p g pr gr) (hsrc : Src w sa len xs) (hxm : ∀ x ∈ xs, 0 ≤ x ∧ x ≤ 255) (hel : else4 sa len p g pr gr) (hlc : len ≤ cap) (hl : len ≤ 600) (hm1 : s.pr < most) :
    Calls Try.prog 44 #[.pointer (some ⟨p, 0, none⟩), .pointer (some ⟨pr, 0, none⟩), .agg #[.int .i64 1, .int .i64 n, .int .i64 m, .slice sa len cap, .int .i64 o, .int .i64 c]] w fun e w' =>
      e = .returned (.bool true) ∧ Two w' p g pr gr (s.prog n xs) ∧ Kept (In4 p g pr gr) w w' := by
  have hlt := h2.lt
  have hb1 : Below w.heap.size w (w.alloc (.cells #[.int .i64 1, .int .i64 n, .int .i64 m, .slice sa len cap, .int .i64 o, .int .i64 c] 72)) := (Below.refl _ w).alloc (Nat.le_refl _) _
  have H2 := Lib.hid h2
  have HSRC1 := Lib.hid (hsrc.below hb1)
  have HXL := Lib.hid hsrc.len
  have HE := Lib.hid (fun w sb cb h h1 h2 h3 h4 => prog_any p g s n sb len cb xs w h h1 h2 h3 h4)
  have HRE := Lib.hid (fun w h h1 => rprog_any pr gr s n sa len cap xs w h h1 hel.rf hlc hm1)
  clear hb1 h2
  go_enter Try.func44, Try.ntmps44
  go_wp2_with (at_builtin; refine wpList_app8 rfl _ _ rfl (w.heap.size + 1) (.slice none 0 0) [] rfl (Own8.nil _ _) sa len _ xs rfl HSRC1.out ?_ ?_ ?_; (simp; omega); (simp); intro v w2 hown hgrow hnil hat; obtain ⟨hbox, hbw, hbw1⟩ := step_box hgrow; have x0 := cell_blk hbox 0; have x1 := cell_blk hbox 1; have x2 := cell_blk hbox 2; have x3 := cell_blk hbox 3; have x4 := cell_blk hbox 4; have x5 := cell_blk hbox 5; clear hgrow hnil hat; simp only [List.getElem?_toArray, List.getElem?_cons_zero, List.getElem?_cons_succ] at x0 x1 x2 x3 x4 x5; obtain ⟨sb, cb, hv, hcb1, hcb2, hsb, hsf⟩ := hown.form; rw [List.nil_append, HXL.out] at hv hsb; rw [List.nil_append] at hown; subst hv; have hvb : ∀ k, (Value.slice sb len cb).ownBlock = some k → w.heap.size < k := (fun k hk => (hown.lt k hk).1); have HSB := Lib.hid hsb; have HOWN := Lib.hid hown; have HSF := Lib.hid hsf; clear hown hsb hsf; have h22 := H2.out.below hbw; have H22 := Lib.hid h22; clear h22)
  have hnb1 : ¬ In4 p g pr gr (⟨w.heap.size, 1, none⟩ : Addr).block := by show ¬ In4 p g pr gr w.heap.size; rintro (e | e | e | e) <;> omega
  have hnb3 : ¬ In4 p g pr gr (⟨w.heap.size, 3, none⟩ : Addr).block := by show ¬ In4 p g pr gr w.heap.size; rintro (e | e | e | e) <;> omega
  have helb : else4 sb len p g pr gr := by
    intro a ha
    right
    have := hvb a.block (by rw [ha]; rfl)
    rintro (e | e | e | e) <;> omega
  have HSRC2 := Lib.hid (hsrc.below hbw).drew
  have HSB2 := Lib.hid HSB.out.drew
  have hno : sb = none → len = 0 ∧ cb = 0 := by
    intro e
    rcases HSF.out with ⟨_, h1, h2⟩ | ⟨_, h1, _⟩
    · exact ⟨by rw [← HXL.out]; simpa using congrArg List.length h1, h2⟩
    · rw [e] at h1; cases h1
  go_region_held3 (fun w' => w'.cell? ⟨w.heap.size, 1, none⟩ = some (.int .i64 n) ∧ w'.cell? ⟨w.heap.size, 3, none⟩ = some (.slice sa len cap)) ((first | exact ⟨z1, z3⟩ | exact ⟨y1, y3⟩ | exact ⟨y1', y3'⟩ | exact ⟨x1, x3⟩)) (first | (go_at_call 54; refine (HRE.out _ hrA (HSRC2.out.in4 hel hk4)).mono ?_; rintro e w9 ⟨rfl, hr9, hk9, -⟩; obtain ⟨t9, k9⟩ := two_rf hd hfA hk4 hk9 hr9; have z1 := Kept.cellX k9 (a := w2.drew) x1 hnb1; have z3 := Kept.cellX k9 (a := w2.drew) x3 hnb3) | (go_at_call 30; refine (HE.out _ sb cb hfB (HSB2.out.in4 helb hk4') helb.fl (by rw [← HXL.out]; exact hcb1) hno).mono ?_; rintro e w9 ⟨rfl, hf9, hk9, -⟩; obtain ⟨t9, k9⟩ := two_fl hd hrB hk4' hk9 hf9; have z1 := Kept.cellX k9 (a := w2.drew) x1 hnb1; have z3 := Kept.cellX k9 (a := w2.drew) x3 hnb3) | (go_at_call 30; refine (HE.out _ sb cb H22.out.drew.fl HSB2.out helb.fl (by rw [← HXL.out]; exact hcb1) hno).mono ?_; rintro e wA ⟨rfl, hfA, hkA, -⟩; obtain ⟨hrA, hk4⟩ := H22.out.drew.one hd hkA; have y1 := Kept.cellX hk4 (a := w2.drew) x1 hnb1; have y3 := Kept.cellX hk4 (a := w2.drew) x3 hnb3) | (go_at_call 54; refine (HRE.out _ H22.out.drew.rf HSRC2.out).mono ?_; rintro e wB ⟨rfl, hrB, hkB, -⟩; obtain ⟨hfB, hk4'⟩ := H22.out.drew.other hd hkB; have y1' := Kept.cellX hk4' (a := w2.drew) x1 hnb1; have y3' := Kept.cellX hk4' (a := w2.drew) x3 hnb3))
  all_goals
    have HOWN9 := Lib.hid (HOWN.out.kept (w := w2) (⟨k9.os, k9.tape, k9.output, k9.size, k9.block⟩ : Kept (In4 p g pr gr) w2 w9) (fun g' hg' => by have := hvb g' hg'; rintro (e | e | e | e) <;> omega))
    have K9 := Lib.hid (((Kept.of_below (T := In4 p g pr gr) hbw).trans (⟨k9.os, k9.tape, k9.output, k9.size, k9.block⟩ : Kept (In4 p g pr gr) w2 w9)))
    have T9 := Lib.hid t9
    clear t9 k9 x0 x1 x2 x3 x4 x5
    go_wp2_with fail
    go_loopw [14] (fun i wr => ∃ j : Nat, j ≤ len ∧ i = .int .i64 j ∧ (∃ ys : List Int, ys.length = len ∧ Own8 wr (w.heap.size + 1) (.slice sb len cb) ys) ∧ Kept (fun k => (Value.slice sb len cb).ownBlock = some k) w9 wr) (fun i _ => len - (intOf i).toNat)
    case atStart => exact ⟨0, Nat.zero_le _, rfl, ⟨xs, HXL.out, HOWN9.out⟩, Kept.refl _ _⟩
    case round =>
      obtain ⟨j, hj, rfl, ⟨ys, hys, hoj⟩, hkj⟩ := hrel
      by_cases hlt9 : j < len
      · obtain ⟨gb, rfl, y1, y2, y3⟩ := own8_at hoj hys j hlt9
        have y4 := Lib.hid y3
        have y5 := Lib.hid hkj
        have y6 := Lib.hid hys
        clear y3 hkj hoj hys
        go_wp2
        go_roundw
        case rel => exact ⟨j + 1, by omega, by go_num, ⟨_, (List.length_set).trans y6.out, y4.out _⟩, y5.out.setCell (p := ⟨gb, j, none⟩) (.inl rfl) _⟩
        case measure => simp [intOf]; omega
      · have hfin := step_end hlt hvb T9.out K9.out hkj
        have HFIN := Lib.hid hfin
        clear hfin hoj hkj hys
        go_wp2
        go_ret
        exact ⟨rfl, HFIN.out⟩

set_option maxRecDepth 100000 in
set_option maxHeartbeats 1600000 in
theorem step_2 (p g pr gr : Nat) (s : Fl) (n m o c : Int) (sa : Option Addr) (len cap : Nat) (xs : List Int) (w : World) (h2 : Two w p g pr gr s) (hd : Dis p g pr gr) (hsrc : Src w sa len xs) (hxm : ∀ x ∈ xs, 0 ≤ x ∧ x ≤ 255) (hel : else4 sa len p g pr gr) (hlc : len ≤ cap) (hl : len ≤ 600) :
    Calls Try.prog 44 #[.pointer (some ⟨p, 0, none⟩), .pointer (some ⟨pr, 0, none⟩), .agg #[.int .i64 2, .int .i64 n, .int .i64 m, .slice sa len cap, .int .i64 o, .int .i64 c]] w fun e w' =>
      e = .returned (.bool true) ∧ Two w' p g pr gr (s.poke n xs) ∧ Kept (In4 p g pr gr) w w' := by
  have hlt := h2.lt
  have hb1 : Below w.heap.size w (w.alloc (.cells #[.int .i64 2, .int .i64 n, .int .i64 m, .slice sa len cap, .int .i64 o, .int .i64 c] 72)) := (Below.refl _ w).alloc (Nat.le_refl _) _
  have H2 := Lib.hid h2
  have HSRC1 := Lib.hid (hsrc.below hb1)
  have HXL := Lib.hid hsrc.len
  have HE := Lib.hid (fun w sb cb h h1 => poke_any p g s n sb len cb xs w h h1 hxm)
  have HRE := Lib.hid (fun w h h1 => rpoke_any pr gr s n sa len cap xs w h h1 hxm)
  clear hb1 h2
  go_enter Try.func44, Try.ntmps44
  go_wp2_with (at_builtin; refine wpList_app8 rfl _ _ rfl (w.heap.size + 1) (.slice none 0 0) [] rfl (Own8.nil _ _) sa len _ xs rfl HSRC1.out ?_ ?_ ?_; (simp; omega); (simp); intro v w2 hown hgrow hnil hat; obtain ⟨hbox, hbw, hbw1⟩ := step_box hgrow; have x0 := cell_blk hbox 0; have x1 := cell_blk hbox 1; have x2 := cell_blk hbox 2; have x3 := cell_blk hbox 3; have x4 := cell_blk hbox 4; have x5 := cell_blk hbox 5; clear hgrow hnil hat; simp only [List.getElem?_toArray, List.getElem?_cons_zero, List.getElem?_cons_succ] at x0 x1 x2 x3 x4 x5; obtain ⟨sb, cb, hv, hcb1, hcb2, hsb, hsf⟩ := hown.form; rw [List.nil_append, HXL.out] at hv hsb; rw [List.nil_append] at hown; subst hv; have hvb : ∀ k, (Value.slice sb len cb).ownBlock = some k → w.heap.size < k := (fun k hk => (hown.lt k hk).1); have HSB := Lib.hid hsb; have HOWN := Lib.hid hown; have HSF := Lib.hid hsf; clear hown hsb hsf; have h22 := H2.out.below hbw; have H22 := Lib.hid h22; clear h22)
  have hnb1 : ¬ In4 p g pr gr (⟨w.heap.size, 1, none⟩ : Addr).block := by show ¬ In4 p g pr gr w.heap.size; rintro (e | e | e | e) <;> omega
  have hnb3 : ¬ In4 p g pr gr (⟨w.heap.size, 3, none⟩ : Addr).block := by show ¬ In4 p g pr gr w.heap.size; rintro (e | e | e | e) <;> omega
  have helb : else4 sb len p g pr gr := by
    intro a ha
    right
    have := hvb a.block (by rw [ha]; rfl)
    rintro (e | e | e | e) <;> omega
  have HSRC2 := Lib.hid (hsrc.below hbw).drew
  have HSB2 := Lib.hid HSB.out.drew
  have hno : sb = none → len = 0 ∧ cb = 0 := by
    intro e
    rcases HSF.out with ⟨_, h1, h2⟩ | ⟨_, h1, _⟩
    · exact ⟨by rw [← HXL.out]; simpa using congrArg List.length h1, h2⟩
    · rw [e] at h1; cases h1
  go_region_held3 (fun w' => w'.cell? ⟨w.heap.size, 1, none⟩ = some (.int .i64 n) ∧ w'.cell? ⟨w.heap.size, 3, none⟩ = some (.slice sa len cap)) ((first | exact ⟨z1, z3⟩ | exact ⟨y1, y3⟩ | exact ⟨y1', y3'⟩ | exact ⟨x1, x3⟩)) (first | (go_at_call 55; refine (HRE.out _ hrA (HSRC2.out.in4 hel hk4)).mono ?_; rintro e w9 ⟨rfl, hr9, hk9, -⟩; obtain ⟨t9, k9⟩ := two_rf hd hfA hk4 hk9 hr9; have z1 := Kept.cellX k9 (a := w2.drew) x1 hnb1; have z3 := Kept.cellX k9 (a := w2.drew) x3 hnb3) | (go_at_call 36; refine (HE.out _ sb cb hfB (HSB2.out.in4 helb hk4')).mono ?_; rintro e w9 ⟨rfl, hf9, hk9, -⟩; obtain ⟨t9, k9⟩ := two_fl hd hrB hk4' hk9 hf9; have z1 := Kept.cellX k9 (a := w2.drew) x1 hnb1; have z3 := Kept.cellX k9 (a := w2.drew) x3 hnb3) | (go_at_call 36; refine (HE.out _ sb cb H22.out.drew.fl HSB2.out).mono ?_; rintro e wA ⟨rfl, hfA, hkA, -⟩; obtain ⟨hrA, hk4⟩ := H22.out.drew.one hd hkA; have y1 := Kept.cellX hk4 (a := w2.drew) x1 hnb1; have y3 := Kept.cellX hk4 (a := w2.drew) x3 hnb3) | (go_at_call 55; refine (HRE.out _ H22.out.drew.rf HSRC2.out).mono ?_; rintro e wB ⟨rfl, hrB, hkB, -⟩; obtain ⟨hfB, hk4'⟩ := H22.out.drew.other hd hkB; have y1' := Kept.cellX hk4' (a := w2.drew) x1 hnb1; have y3' := Kept.cellX hk4' (a := w2.drew) x3 hnb3))
  all_goals
    have HOWN9 := Lib.hid (HOWN.out.kept (w := w2) (⟨k9.os, k9.tape, k9.output, k9.size, k9.block⟩ : Kept (In4 p g pr gr) w2 w9) (fun g' hg' => by have := hvb g' hg'; rintro (e | e | e | e) <;> omega))
    have K9 := Lib.hid (((Kept.of_below (T := In4 p g pr gr) hbw).trans (⟨k9.os, k9.tape, k9.output, k9.size, k9.block⟩ : Kept (In4 p g pr gr) w2 w9)))
    have T9 := Lib.hid t9
    clear t9 k9 x0 x1 x2 x3 x4 x5
    go_wp2_with fail
    go_loopw [14] (fun i wr => ∃ j : Nat, j ≤ len ∧ i = .int .i64 j ∧ (∃ ys : List Int, ys.length = len ∧ Own8 wr (w.heap.size + 1) (.slice sb len cb) ys) ∧ Kept (fun k => (Value.slice sb len cb).ownBlock = some k) w9 wr) (fun i _ => len - (intOf i).toNat)
    case atStart => exact ⟨0, Nat.zero_le _, rfl, ⟨xs, HXL.out, HOWN9.out⟩, Kept.refl _ _⟩
    case round =>
      obtain ⟨j, hj, rfl, ⟨ys, hys, hoj⟩, hkj⟩ := hrel
      by_cases hlt9 : j < len
      · obtain ⟨gb, rfl, y1, y2, y3⟩ := own8_at hoj hys j hlt9
        have y4 := Lib.hid y3
        have y5 := Lib.hid hkj
        have y6 := Lib.hid hys
        clear y3 hkj hoj hys
        go_wp2
        go_roundw
        case rel => exact ⟨j + 1, by omega, by go_num, ⟨_, (List.length_set).trans y6.out, y4.out _⟩, y5.out.setCell (p := ⟨gb, j, none⟩) (.inl rfl) _⟩
        case measure => simp [intOf]; omega
      · have hfin := step_end hlt hvb T9.out K9.out hkj
        have HFIN := Lib.hid hfin
        clear hfin hoj hkj hys
        go_wp2
        go_ret
        exact ⟨rfl, HFIN.out⟩

set_option maxRecDepth 100000 in
set_option maxHeartbeats 1600000 in
theorem step_3 (p g pr gr : Nat) (s : Fl) (n m o c : Int) (sa : Option Addr) (len cap : Nat) (xs : List Int) (w : World) (h2 : Two w p g pr gr s) (hd : Dis p g pr gr) (hsrc : Src w sa len xs) (hxm : ∀ x ∈ xs, 0 ≤ x ∧ x ≤ 255) (hel : else4 sa len p g pr gr) (hlc : len ≤ cap) (hl : len ≤ 600) :
    Calls Try.prog 44 #[.pointer (some ⟨p, 0, none⟩), .pointer (some ⟨pr, 0, none⟩), .agg #[.int .i64 3, .int .i64 n, .int .i64 m, .slice sa len cap, .int .i64 o, .int .i64 c]] w fun e w' =>
      e = .returned (.bool true) ∧ Two w' p g pr gr (s.turn) ∧ Kept (In4 p g pr gr) w w' := by
  have hlt := h2.lt
  have hb1 : Below w.heap.size w (w.alloc (.cells #[.int .i64 3, .int .i64 n, .int .i64 m, .slice sa len cap, .int .i64 o, .int .i64 c] 72)) := (Below.refl _ w).alloc (Nat.le_refl _) _
  have H2 := Lib.hid h2
  have HSRC1 := Lib.hid (hsrc.below hb1)
  have HXL := Lib.hid hsrc.len
  have HE := Lib.hid (fun w h => turn_any p g s w h)
  have HRE := Lib.hid (fun w h => rturn_any pr gr s w h)
  clear hb1 h2
  go_enter Try.func44, Try.ntmps44
  go_wp2_with (at_builtin; refine wpList_app8 rfl _ _ rfl (w.heap.size + 1) (.slice none 0 0) [] rfl (Own8.nil _ _) sa len _ xs rfl HSRC1.out ?_ ?_ ?_; (simp; omega); (simp); intro v w2 hown hgrow hnil hat; obtain ⟨hbox, hbw, hbw1⟩ := step_box hgrow; have x0 := cell_blk hbox 0; have x1 := cell_blk hbox 1; have x2 := cell_blk hbox 2; have x3 := cell_blk hbox 3; have x4 := cell_blk hbox 4; have x5 := cell_blk hbox 5; clear hgrow hnil hat; simp only [List.getElem?_toArray, List.getElem?_cons_zero, List.getElem?_cons_succ] at x0 x1 x2 x3 x4 x5; obtain ⟨sb, cb, hv, hcb1, hcb2, hsb, hsf⟩ := hown.form; rw [List.nil_append, HXL.out] at hv hsb; rw [List.nil_append] at hown; subst hv; have hvb : ∀ k, (Value.slice sb len cb).ownBlock = some k → w.heap.size < k := (fun k hk => (hown.lt k hk).1); have HSB := Lib.hid hsb; have HOWN := Lib.hid hown; have HSF := Lib.hid hsf; clear hown hsb hsf; have h22 := H2.out.below hbw; have H22 := Lib.hid h22; clear h22)
  refine (HE.out _ H22.out.fl).mono ?_
  rintro e wA ⟨rfl, hfA, hkA, -⟩
  obtain ⟨hrA, hk4⟩ := H22.out.one hd (kept_one hkA)
  go_wp2_with fail
  refine (HRE.out _ hrA).mono ?_
  rintro e w9 ⟨rfl, hr9, hk9, -⟩
  obtain ⟨t9, k9⟩ := two_rf hd hfA hk4 (kept_one hk9) hr9
  have HOWN9 := Lib.hid (HOWN.out.kept (w := w2) k9 (fun g' hg' => by have := hvb g' hg'; rintro (e | e | e | e) <;> omega))
  have K9 := Lib.hid ((Kept.of_below (T := In4 p g pr gr) hbw).trans k9)
  have T9 := Lib.hid t9
  clear t9 k9
  go_wp2_with fail
  go_loopw [14] (fun i wr => ∃ j : Nat, j ≤ len ∧ i = .int .i64 j ∧ (∃ ys : List Int, ys.length = len ∧ Own8 wr (w.heap.size + 1) (.slice sb len cb) ys) ∧ Kept (fun k => (Value.slice sb len cb).ownBlock = some k) w9 wr) (fun i _ => len - (intOf i).toNat)
  case atStart => exact ⟨0, Nat.zero_le _, rfl, ⟨xs, HXL.out, HOWN9.out⟩, Kept.refl _ _⟩
  case round =>
    obtain ⟨j, hj, rfl, ⟨ys, hys, hoj⟩, hkj⟩ := hrel
    by_cases hlt9 : j < len
    · obtain ⟨gb, rfl, y1, y2, y3⟩ := own8_at hoj hys j hlt9
      have y4 := Lib.hid y3
      have y5 := Lib.hid hkj
      have y6 := Lib.hid hys
      clear y3 hkj hoj hys
      go_wp2
      go_roundw
      case rel => exact ⟨j + 1, by omega, by go_num, ⟨_, (List.length_set).trans y6.out, y4.out _⟩, y5.out.setCell (p := ⟨gb, j, none⟩) (.inl rfl) _⟩
      case measure => simp [intOf]; omega
    · have hfin := step_end hlt hvb T9.out K9.out hkj
      have HFIN := Lib.hid hfin
      clear hfin hoj hkj hys
      go_wp2
      go_ret
      exact ⟨rfl, HFIN.out⟩

set_option maxRecDepth 100000 in
set_option maxHeartbeats 1600000 in
theorem step_4 (p g pr gr : Nat) (s : Fl) (n m o c : Int) (sa : Option Addr) (len cap : Nat) (xs : List Int) (w : World) (h2 : Two w p g pr gr s) (hd : Dis p g pr gr) (hsrc : Src w sa len xs) (hxm : ∀ x ∈ xs, 0 ≤ x ∧ x ≤ 255) (hel : else4 sa len p g pr gr) (hlc : len ≤ cap) (hl : len ≤ 600) (ho : o ≤ 9223372036854775807) :
    Calls Try.prog 44 #[.pointer (some ⟨p, 0, none⟩), .pointer (some ⟨pr, 0, none⟩), .agg #[.int .i64 4, .int .i64 n, .int .i64 m, .slice sa len cap, .int .i64 o, .int .i64 c]] w fun e w' =>
      e = .returned (.bool true) ∧ Two w' p g pr gr (s.plan o c) ∧ Kept (In4 p g pr gr) w w' := by
  have hlt := h2.lt
  have hb1 : Below w.heap.size w (w.alloc (.cells #[.int .i64 4, .int .i64 n, .int .i64 m, .slice sa len cap, .int .i64 o, .int .i64 c] 72)) := (Below.refl _ w).alloc (Nat.le_refl _) _
  have H2 := Lib.hid h2
  have HSRC1 := Lib.hid (hsrc.below hb1)
  have HXL := Lib.hid hsrc.len
  have HE := Lib.hid (fun w h => plan_any p g s o c w h ho)
  have HRE := Lib.hid (fun w h => rplan_any pr gr s o c w h ho)
  clear hb1 h2
  go_enter Try.func44, Try.ntmps44
  go_wp2_with (at_builtin; refine wpList_app8 rfl _ _ rfl (w.heap.size + 1) (.slice none 0 0) [] rfl (Own8.nil _ _) sa len _ xs rfl HSRC1.out ?_ ?_ ?_; (simp; omega); (simp); intro v w2 hown hgrow hnil hat; obtain ⟨hbox, hbw, hbw1⟩ := step_box hgrow; have x0 := cell_blk hbox 0; have x1 := cell_blk hbox 1; have x2 := cell_blk hbox 2; have x3 := cell_blk hbox 3; have x4 := cell_blk hbox 4; have x5 := cell_blk hbox 5; clear hgrow hnil hat; simp only [List.getElem?_toArray, List.getElem?_cons_zero, List.getElem?_cons_succ] at x0 x1 x2 x3 x4 x5; obtain ⟨sb, cb, hv, hcb1, hcb2, hsb, hsf⟩ := hown.form; rw [List.nil_append, HXL.out] at hv hsb; rw [List.nil_append] at hown; subst hv; have hvb : ∀ k, (Value.slice sb len cb).ownBlock = some k → w.heap.size < k := (fun k hk => (hown.lt k hk).1); have HSB := Lib.hid hsb; have HOWN := Lib.hid hown; have HSF := Lib.hid hsf; clear hown hsb hsf; have h22 := H2.out.below hbw; have H22 := Lib.hid h22; clear h22)
  refine (HE.out _ H22.out.fl).mono ?_
  rintro e wA ⟨rfl, hfA, hkA⟩
  obtain ⟨hrA, hk4⟩ := H22.out.one hd (kept_one hkA)
  have hnb : ∀ i, ¬ In4 p g pr gr (⟨w.heap.size, i, none⟩ : Addr).block := by intro i; show ¬ In4 p g pr gr w.heap.size; rintro (e | e | e | e) <;> omega
  have y4 := hk4.cellX x4 (hnb 4)
  have y5 := hk4.cellX x5 (hnb 5)
  clear hnb
  go_wp2_with fail
  refine (HRE.out _ hrA).mono ?_
  rintro e w9 ⟨rfl, hr9, hk9⟩
  obtain ⟨t9, k9⟩ := two_rf hd hfA hk4 (kept_one hk9) hr9
  have HOWN9 := Lib.hid (HOWN.out.kept (w := w2) k9 (fun g' hg' => by have := hvb g' hg'; rintro (e | e | e | e) <;> omega))
  have K9 := Lib.hid ((Kept.of_below (T := In4 p g pr gr) hbw).trans k9)
  have T9 := Lib.hid t9
  clear t9 k9
  go_wp2_with fail
  go_loopw [14] (fun i wr => ∃ j : Nat, j ≤ len ∧ i = .int .i64 j ∧ (∃ ys : List Int, ys.length = len ∧ Own8 wr (w.heap.size + 1) (.slice sb len cb) ys) ∧ Kept (fun k => (Value.slice sb len cb).ownBlock = some k) w9 wr) (fun i _ => len - (intOf i).toNat)
  case atStart => exact ⟨0, Nat.zero_le _, rfl, ⟨xs, HXL.out, HOWN9.out⟩, Kept.refl _ _⟩
  case round =>
    obtain ⟨j, hj, rfl, ⟨ys, hys, hoj⟩, hkj⟩ := hrel
    by_cases hlt9 : j < len
    · obtain ⟨gb, rfl, y1, y2, y3⟩ := own8_at hoj hys j hlt9
      have y4 := Lib.hid y3
      have y5 := Lib.hid hkj
      have y6 := Lib.hid hys
      clear y3 hkj hoj hys
      go_wp2
      go_roundw
      case rel => exact ⟨j + 1, by omega, by go_num, ⟨_, (List.length_set).trans y6.out, y4.out _⟩, y5.out.setCell (p := ⟨gb, j, none⟩) (.inl rfl) _⟩
      case measure => simp [intOf]; omega
    · have hfin := step_end hlt hvb T9.out K9.out hkj
      have HFIN := Lib.hid hfin
      clear hfin hoj hkj hys
      go_wp2
      go_ret
      exact ⟨rfl, HFIN.out⟩

set_option maxRecDepth 100000 in
set_option maxHeartbeats 1600000 in
theorem step_5 (p g pr gr : Nat) (s : Fl) (n m o c : Int) (sa : Option Addr) (len cap : Nat) (xs : List Int) (w : World) (h2 : Two w p g pr gr s) (hd : Dis p g pr gr) (hsrc : Src w sa len xs) (hxm : ∀ x ∈ xs, 0 ≤ x ∧ x ≤ 255) (hel : else4 sa len p g pr gr) (hlc : len ≤ cap) (hl : len ≤ 600) :
    Calls Try.prog 44 #[.pointer (some ⟨p, 0, none⟩), .pointer (some ⟨pr, 0, none⟩), .agg #[.int .i64 5, .int .i64 n, .int .i64 m, .slice sa len cap, .int .i64 o, .int .i64 c]] w fun e w' =>
      e = .returned (.bool true) ∧ Two w' p g pr gr (s.start) ∧ Kept (In4 p g pr gr) w w' := by
  have hlt := h2.lt
  have hb1 : Below w.heap.size w (w.alloc (.cells #[.int .i64 5, .int .i64 n, .int .i64 m, .slice sa len cap, .int .i64 o, .int .i64 c] 72)) := (Below.refl _ w).alloc (Nat.le_refl _) _
  have H2 := Lib.hid h2
  have HSRC1 := Lib.hid (hsrc.below hb1)
  have HXL := Lib.hid hsrc.len
  have HE := Lib.hid (fun w h => start_any p g s w h)
  have HRE := Lib.hid (fun w h => rstart_any pr gr s w h)
  clear hb1 h2
  go_enter Try.func44, Try.ntmps44
  go_wp2_with (at_builtin; refine wpList_app8 rfl _ _ rfl (w.heap.size + 1) (.slice none 0 0) [] rfl (Own8.nil _ _) sa len _ xs rfl HSRC1.out ?_ ?_ ?_; (simp; omega); (simp); intro v w2 hown hgrow hnil hat; obtain ⟨hbox, hbw, hbw1⟩ := step_box hgrow; have x0 := cell_blk hbox 0; have x1 := cell_blk hbox 1; have x2 := cell_blk hbox 2; have x3 := cell_blk hbox 3; have x4 := cell_blk hbox 4; have x5 := cell_blk hbox 5; clear hgrow hnil hat; simp only [List.getElem?_toArray, List.getElem?_cons_zero, List.getElem?_cons_succ] at x0 x1 x2 x3 x4 x5; obtain ⟨sb, cb, hv, hcb1, hcb2, hsb, hsf⟩ := hown.form; rw [List.nil_append, HXL.out] at hv hsb; rw [List.nil_append] at hown; subst hv; have hvb : ∀ k, (Value.slice sb len cb).ownBlock = some k → w.heap.size < k := (fun k hk => (hown.lt k hk).1); have HSB := Lib.hid hsb; have HOWN := Lib.hid hown; have HSF := Lib.hid hsf; clear hown hsb hsf; have h22 := H2.out.below hbw; have H22 := Lib.hid h22; clear h22)
  refine (HE.out _ H22.out.fl).mono ?_
  rintro e wA ⟨rfl, hfA, hkA, -⟩
  obtain ⟨hrA, hk4⟩ := H22.out.one hd (kept_one hkA)
  go_wp2_with fail
  refine (HRE.out _ hrA).mono ?_
  rintro e w9 ⟨rfl, hr9, hk9, -⟩
  obtain ⟨t9, k9⟩ := two_rf hd hfA hk4 (kept_one hk9) hr9
  have HOWN9 := Lib.hid (HOWN.out.kept (w := w2) k9 (fun g' hg' => by have := hvb g' hg'; rintro (e | e | e | e) <;> omega))
  have K9 := Lib.hid ((Kept.of_below (T := In4 p g pr gr) hbw).trans k9)
  have T9 := Lib.hid t9
  clear t9 k9
  go_wp2_with fail
  go_loopw [14] (fun i wr => ∃ j : Nat, j ≤ len ∧ i = .int .i64 j ∧ (∃ ys : List Int, ys.length = len ∧ Own8 wr (w.heap.size + 1) (.slice sb len cb) ys) ∧ Kept (fun k => (Value.slice sb len cb).ownBlock = some k) w9 wr) (fun i _ => len - (intOf i).toNat)
  case atStart => exact ⟨0, Nat.zero_le _, rfl, ⟨xs, HXL.out, HOWN9.out⟩, Kept.refl _ _⟩
  case round =>
    obtain ⟨j, hj, rfl, ⟨ys, hys, hoj⟩, hkj⟩ := hrel
    by_cases hlt9 : j < len
    · obtain ⟨gb, rfl, y1, y2, y3⟩ := own8_at hoj hys j hlt9
      have y4 := Lib.hid y3
      have y5 := Lib.hid hkj
      have y6 := Lib.hid hys
      clear y3 hkj hoj hys
      go_wp2
      go_roundw
      case rel => exact ⟨j + 1, by omega, by go_num, ⟨_, (List.length_set).trans y6.out, y4.out _⟩, y5.out.setCell (p := ⟨gb, j, none⟩) (.inl rfl) _⟩
      case measure => simp [intOf]; omega
    · have hfin := step_end hlt hvb T9.out K9.out hkj
      have HFIN := Lib.hid hfin
      clear hfin hoj hkj hys
      go_wp2
      go_ret
      exact ⟨rfl, HFIN.out⟩

/-- What is read: the bytes, or none. -/
def rdB (s : Fl) (n m : Int) : List Int := if s.readOk n m then s.read n m else []
theorem fread8 (p g : Nat) (s : Fl) (a n : Int) (w : World) (h : IsFl w p g s) :
    Calls Try.prog 31 #[.pointer (some ⟨p, 0, none⟩), .int .i64 a, .int .i64 n] w fun e w' => ∃ v, e = .returned (.tuple #[v, .bool (s.readOk a n)]) ∧ Own8 w' w.heap.size v (rdB s a n) ∧ Below w.heap.size w w' := by
  refine (read_any p g s a n w h).mono ?_
  rintro e w' ⟨v, rfl, h1, h2, hb⟩
  refine ⟨v, rfl, ?_, hb⟩
  unfold rdB
  cases hk : s.readOk a n with
  | true => exact Own8.of_owns (h1 hk)
  | false => rw [h2 hk]; exact Own8.nil _ _
theorem rread8 (p g : Nat) (s : Fl) (a n : Int) (w : World) (h : IsRf w p g s) :
    Calls Try.prog 56 #[.pointer (some ⟨p, 0, none⟩), .int .i64 a, .int .i64 n] w fun e w' => ∃ v, e = .returned (.tuple #[v, .bool (s.readOk a n)]) ∧ Own8 w' w.heap.size v (rdB s a n) ∧ Below w.heap.size w w' := by
  refine (rread_any p g s a n w h).mono ?_
  rintro e w' ⟨v, rfl, h1, h2, hb⟩
  refine ⟨v, rfl, ?_, hb⟩
  unfold rdB
  cases hk : s.readOk a n with
  | true => exact h1 hk
  | false => rw [h2 hk]; exact Own8.nil _ _

set_option maxRecDepth 100000 in
set_option maxHeartbeats 1600000 in
theorem step_6 (p g pr gr : Nat) (s : Fl) (way n m o c : Int) (sa : Option Addr) (len cap : Nat) (xs : List Int) (w : World) (h2 : Two w p g pr gr s) (hd : Dis p g pr gr) (hsrc : Src w sa len xs) (hxm : ∀ x ∈ xs, 0 ≤ x ∧ x ≤ 255) (hel : else4 sa len p g pr gr) (hlc : len ≤ cap) (hl : len ≤ 600) (h0 : (way == 0) = false) (h1 : (way == 1) = false) (h3 : (way == 2) = false) (h4 : (way == 3) = false) (h5 : (way == 4) = false) (h6 : (way == 5) = false) :
    Calls Try.prog 44 #[.pointer (some ⟨p, 0, none⟩), .pointer (some ⟨pr, 0, none⟩), .agg #[.int .i64 way, .int .i64 n, .int .i64 m, .slice sa len cap, .int .i64 o, .int .i64 c]] w fun e w' =>
      e = .returned (.bool true) ∧ Two w' p g pr gr (s) ∧ Kept (In4 p g pr gr) w w' := by
  have hlt := h2.lt
  have hb1 : Below w.heap.size w (w.alloc (.cells #[.int .i64 way, .int .i64 n, .int .i64 m, .slice sa len cap, .int .i64 o, .int .i64 c] 72)) := (Below.refl _ w).alloc (Nat.le_refl _) _
  have H2 := Lib.hid h2
  have HSRC1 := Lib.hid (hsrc.below hb1)
  have HXL := Lib.hid hsrc.len
  have HE := Lib.hid (fun w h => fread8 p g s n m w h)
  have HRE := Lib.hid (fun w h => rread8 pr gr s n m w h)
  clear hb1 h2
  go_enter Try.func44, Try.ntmps44
  go_wp2_with (at_builtin; refine wpList_app8 rfl _ _ rfl (w.heap.size + 1) (.slice none 0 0) [] rfl (Own8.nil _ _) sa len _ xs rfl HSRC1.out ?_ ?_ ?_; (simp; omega); (simp); intro v w2 hown hgrow hnil hat; obtain ⟨hbox, hbw, hbw1⟩ := step_box hgrow; have x0 := cell_blk hbox 0; have x1 := cell_blk hbox 1; have x2 := cell_blk hbox 2; have x3 := cell_blk hbox 3; have x4 := cell_blk hbox 4; have x5 := cell_blk hbox 5; clear hgrow hnil hat; simp only [List.getElem?_toArray, List.getElem?_cons_zero, List.getElem?_cons_succ] at x0 x1 x2 x3 x4 x5; obtain ⟨sb, cb, hv, hcb1, hcb2, hsb, hsf⟩ := hown.form; rw [List.nil_append, HXL.out] at hv hsb; rw [List.nil_append] at hown; subst hv; have hvb : ∀ k, (Value.slice sb len cb).ownBlock = some k → w.heap.size < k := (fun k hk => (hown.lt k hk).1); have HSB := Lib.hid hsb; have HOWN := Lib.hid hown; have HSF := Lib.hid hsf; clear hown hsb hsf; have h22 := H2.out.below hbw; have H22 := Lib.hid h22; clear h22)
  generalize s.readOk n m = ok at HE HRE
  generalize rdB s n m = zs at HE HRE
  refine (HE.out _ H22.out.fl).mono ?_
  rintro e w3 ⟨vx, rfl, hox, hb3⟩
  have hbox3 := Below.blk hb3 hbox (blk_lt hbox)
  have z1 := cell_blk hbox3 1
  have z2 := cell_blk hbox3 2
  simp only [List.getElem?_toArray, List.getElem?_cons_zero, List.getElem?_cons_succ] at z1 z2
  have h23 := H22.out.below hb3
  have H23 := Lib.hid h23
  have HOX := Lib.hid hox
  clear h23 hox
  go_wp2_with fail
  refine (HRE.out _ H23.out.rf).mono ?_
  rintro e w4 ⟨vy, rfl, hoy, hb4⟩
  have h24 := H23.out.below hb4
  have H24 := Lib.hid h24
  have hox4 := HOX.out.below hb4
  have s1 := hox4.str
  have s2 := hoy.str
  have hxb : ∀ k, vx.ownBlock = some k → w2.heap.size ≤ k := fun k hk => (hox4.lt k hk).1
  have HOWN4 := Lib.hid ((HOWN.out.below hb3).below hb4)
  have HB4 := Lib.hid (hbw.trans ((hb3.mono hbw.size).trans (hb4.mono (Nat.le_trans hbw.size hb3.size))))
  obtain ⟨sx, cx, hvx, -, -, hsx, -⟩ := hox4.form
  have hz2 : w.heap.size < w2.heap.size := blk_lt hbox
  have hz4 : w2.heap.size ≤ w4.heap.size := Nat.le_trans hb3.size hb4.size
  have hbl : ∀ k, (Value.slice sb len cb).ownBlock = some k → k < w2.heap.size := fun k hk => (HOWN.out.lt k hk).2
  have HBL := Lib.hid hbl
  have hlx := hox4.len
  unfold maxLen at hlx
  subst hvx
  have HOX4 := Lib.hid hox4
  clear h24 hoy hox4 hbl hb4 hb3 hbox3 hbox hsx
  cases ok
  · go_wp2_with fail
    go_loopw [13] (fun i wr => ∃ j : Nat, j ≤ zs.length ∧ i = .int .i64 j ∧ (∃ ys : List Int, ys.length = zs.length ∧ Own8 wr w2.heap.size (.slice sx zs.length cx) ys) ∧ Kept (fun k => (Value.slice sx zs.length cx).ownBlock = some k) w4 wr) (fun i _ => zs.length - (intOf i).toNat)
    case atStart => exact ⟨0, Nat.zero_le _, rfl, ⟨zs, rfl, HOX4.out⟩, Kept.refl _ _⟩
    case round =>
      obtain ⟨j, hj, rfl, ⟨ys, hys, hoj⟩, hkj⟩ := hrel
      by_cases hlt9 : j < zs.length
      · obtain ⟨gb, rfl, y1, y2, y3⟩ := own8_at hoj hys j hlt9
        have y4 := Lib.hid y3
        have y5 := Lib.hid hkj
        have y6 := Lib.hid hys
        clear y3 hkj hoj hys
        go_wp2
        go_roundw
        case rel => exact ⟨j + 1, by omega, by go_num, ⟨_, (List.length_set).trans y6.out, y4.out _⟩, y5.out.setCell (p := ⟨gb, j, none⟩) (.inl rfl) _⟩
        case measure => simp [intOf]; omega
      · obtain ⟨w9, e9⟩ : ∃ w9, w9 = wr := ⟨_, rfl⟩
        subst e9
        have t9 := step_end (w := w) hlt (fun k hk => Nat.lt_of_lt_of_le hz2 (hxb k hk)) H24.out (Kept.of_below (T := In4 p g pr gr) HB4.out) hkj
        have HOWN9 := Lib.hid (HOWN4.out.kept hkj (fun k hk e => by have h1 := hxb k e; have h2 := HBL.out k hk; omega))
        have T9 := Lib.hid t9.1
        have K9 := Lib.hid t9.2
        clear t9 hoj hkj hys s1 s2 z1 z2 x0 x1 x2 x3 x4 x5
        go_wp2_with fail
        go_loopw [14] (fun i wr => ∃ j : Nat, j ≤ len ∧ i = .int .i64 j ∧ (∃ ys : List Int, ys.length = len ∧ Own8 wr (w.heap.size + 1) (.slice sb len cb) ys) ∧ Kept (fun k => (Value.slice sb len cb).ownBlock = some k) w9 wr) (fun i _ => len - (intOf i).toNat)
        case atStart => exact ⟨0, Nat.zero_le _, rfl, ⟨xs, HXL.out, HOWN9.out⟩, Kept.refl _ _⟩
        case round =>
          obtain ⟨j, hj, rfl, ⟨ys, hys, hoj⟩, hkj⟩ := hrel
          by_cases hlt9 : j < len
          · obtain ⟨gb, rfl, y1, y2, y3⟩ := own8_at hoj hys j hlt9
            have y4 := Lib.hid y3
            have y5 := Lib.hid hkj
            have y6 := Lib.hid hys
            clear y3 hkj hoj hys
            go_wp2
            go_roundw
            case rel => exact ⟨j + 1, by omega, by go_num, ⟨_, (List.length_set).trans y6.out, y4.out _⟩, y5.out.setCell (p := ⟨gb, j, none⟩) (.inl rfl) _⟩
            case measure => simp [intOf]; omega
          · have hfin := step_end hlt hvb T9.out K9.out hkj
            have HFIN := Lib.hid hfin
            clear hfin hoj hkj hys
            go_wp2
            go_ret
            exact ⟨rfl, HFIN.out⟩

  · go_wp2_with fail
    go_loopw [13] (fun i wr => ∃ j : Nat, j ≤ zs.length ∧ i = .int .i64 j ∧ (∃ ys : List Int, ys.length = zs.length ∧ Own8 wr w2.heap.size (.slice sx zs.length cx) ys) ∧ Kept (fun k => (Value.slice sx zs.length cx).ownBlock = some k) w4 wr) (fun i _ => zs.length - (intOf i).toNat)
    case atStart => exact ⟨0, Nat.zero_le _, rfl, ⟨zs, rfl, HOX4.out⟩, Kept.refl _ _⟩
    case round =>
      obtain ⟨j, hj, rfl, ⟨ys, hys, hoj⟩, hkj⟩ := hrel
      by_cases hlt9 : j < zs.length
      · obtain ⟨gb, rfl, y1, y2, y3⟩ := own8_at hoj hys j hlt9
        have y4 := Lib.hid y3
        have y5 := Lib.hid hkj
        have y6 := Lib.hid hys
        clear y3 hkj hoj hys
        go_wp2
        go_roundw
        case rel => exact ⟨j + 1, by omega, by go_num, ⟨_, (List.length_set).trans y6.out, y4.out _⟩, y5.out.setCell (p := ⟨gb, j, none⟩) (.inl rfl) _⟩
        case measure => simp [intOf]; omega
      · obtain ⟨w9, e9⟩ : ∃ w9, w9 = wr := ⟨_, rfl⟩
        subst e9
        have t9 := step_end (w := w) hlt (fun k hk => Nat.lt_of_lt_of_le hz2 (hxb k hk)) H24.out (Kept.of_below (T := In4 p g pr gr) HB4.out) hkj
        have HOWN9 := Lib.hid (HOWN4.out.kept hkj (fun k hk e => by have h1 := hxb k e; have h2 := HBL.out k hk; omega))
        have T9 := Lib.hid t9.1
        have K9 := Lib.hid t9.2
        clear t9 hoj hkj hys s1 s2 z1 z2 x0 x1 x2 x3 x4 x5
        go_wp2_with fail
        go_loopw [14] (fun i wr => ∃ j : Nat, j ≤ len ∧ i = .int .i64 j ∧ (∃ ys : List Int, ys.length = len ∧ Own8 wr (w.heap.size + 1) (.slice sb len cb) ys) ∧ Kept (fun k => (Value.slice sb len cb).ownBlock = some k) w9 wr) (fun i _ => len - (intOf i).toNat)
        case atStart => exact ⟨0, Nat.zero_le _, rfl, ⟨xs, HXL.out, HOWN9.out⟩, Kept.refl _ _⟩
        case round =>
          obtain ⟨j, hj, rfl, ⟨ys, hys, hoj⟩, hkj⟩ := hrel
          by_cases hlt9 : j < len
          · obtain ⟨gb, rfl, y1, y2, y3⟩ := own8_at hoj hys j hlt9
            have y4 := Lib.hid y3
            have y5 := Lib.hid hkj
            have y6 := Lib.hid hys
            clear y3 hkj hoj hys
            go_wp2
            go_roundw
            case rel => exact ⟨j + 1, by omega, by go_num, ⟨_, (List.length_set).trans y6.out, y4.out _⟩, y5.out.setCell (p := ⟨gb, j, none⟩) (.inl rfl) _⟩
            case measure => simp [intOf]; omega
          · have hfin := step_end hlt hvb T9.out K9.out hkj
            have HFIN := Lib.hid hfin
            clear hfin hoj hkj hys
            go_wp2
            go_ret
            exact ⟨rfl, HFIN.out⟩


end Go.Proofs.Ytimlgkfhfofpbaa
