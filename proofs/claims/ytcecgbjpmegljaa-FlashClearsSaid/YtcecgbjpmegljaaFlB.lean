/- flash.Turn, Plan, Start, Program, Erase: what each answers and what it makes of the flash. Condition: the flash lies there whole; what is programmed lies elsewhere. -/
import Derived.Test.YtcecgbjpmegljaaFlA
namespace Go.Proofs.Ytcecgbjpmegljaa
open Go.RowKit

theorem turn_any (p g : Nat) (s : Fl) (w : World) (h : IsFl w p g s) :
    Calls Try.prog 42 #[.pointer (some ⟨p, 0, none⟩)] w fun e w' =>
      e = .returned (.bool s.turnOk) ∧ IsFl w' p g s.turn ∧ Kept (· = p) w w' ∧ w'.heap.size = w.heap.size := by
  obtain ⟨-, -, -, c3, -, -⟩ := h.cs
  cases hd : s.dead with
  | true =>
    have h1 : s.turnOk = false := by simp [Fl.turnOk, hd]
    have h2 : s.turn = s := by simp [Fl.turn, hd]
    rw [hd] at c3
    have H1 := Lib.hid h1
    have H2 := Lib.hid h2
    clear h1 h2 hd
    go_enter Try.func42, Try.ntmps42
    go_wp2
    go_ret
    rw [H1.out, H2.out]
    exact ⟨rfl, h, Kept.refl _ _, rfl⟩
  | false =>
    have h1 : s.turnOk = s.goes := by simp [Fl.turnOk, hd]
    have h2 : s.turn = s.step := by simp [Fl.turn, hd]
    rw [hd] at c3
    have H1 := Lib.hid h1
    have H2 := Lib.hid h2
    clear h1 h2 hd
    go_enter Try.func42, Try.ntmps42
    go_wp2_with (go_at_call 21; refine (op_any p g s 0 _ h).mono ?_; rintro e w' ⟨rfl, hq⟩; have HQ := Lib.hid hq; clear hq)
    go_ret
    rw [H1.out, H2.out]
    exact ⟨rfl, HQ.out⟩

def elseW (sa : Option Addr) (n p g : Nat) : Prop := ∀ a, sa = some a → n = 0 ∨ (a.block ≠ p ∧ a.block ≠ g)

/-- The flash while a program or an erase is under way: k bytes are turned. -/
structure Mid (w0 w : World) (p g : Nat) (s : Fl) (b : List Int) : Prop where
  st : w.heap[p]? = some (.cells (flCells g s) 56 (0, 0))
  row : ∃ sp, w.heap[g]? = some (.cells (row8 b sp) 5 (0, 0))
  len : b.length = s.b.length
  kept : Kept (fun x => x = p ∨ x = g) w0 w
  size : w.heap.size = w0.heap.size

theorem Mid.cell {w0 w : World} {p g : Nat} {s : Fl} {b : List Int} (h : Mid w0 w p g s b) (i : Nat) (hi : i < s.b.length) : w.cell? ⟨g, i, none⟩ = some (.int .u8 (b.getD i 0)) := by
  obtain ⟨sp, hs⟩ := h.row
  rw [cell_blk hs, row8_get _ _ _ (by rw [h.len]; exact hi)]
theorem Mid.free {w0 w : World} {p g : Nat} {s : Fl} {b : List Int} (h : Mid w0 w p g s b) (i : Nat) : w.frozen? ⟨g, i, none⟩ = false := by
  obtain ⟨sp, hs⟩ := h.row
  exact free_blk hs i
theorem Mid.set {w0 w : World} {p g : Nat} {s : Fl} {b : List Int} (h : Mid w0 w p g s b) (hne : p ≠ g) (i : Nat) (hi : i < s.b.length) (x : Int) :
    Mid w0 (w.setCell ⟨g, i, none⟩ (.int .u8 x)) p g s (b.set i x) := by
  obtain ⟨sp, hs⟩ := h.row
  refine ⟨blk_setCell_ne h.st _ hne, ⟨sp, ?_⟩, by simpa using h.len, h.kept.setCell (.inl (.inr rfl)) _, by rw [size_setCell]; exact h.size⟩
  rw [blk_setCell hs, row8_set _ _ _ (by rw [h.len]; exact hi)]


theorem prog_out (p g : Nat) (s : Fl) (a : Int) (sa : Option Addr) (n c : Nat) (w : World) (h : IsFl w p g s) (hi : s.progIn a n = false) :
    Calls Try.prog 7 #[.pointer (some ⟨p, 0, none⟩), .int .i64 a, .slice sa n c] w fun e w' => e = .returned (.bool false) ∧ w = w' := by
  obtain ⟨-, -, -, c3, -, -⟩ := h.cs
  cases hd : s.dead with
  | true =>
    rw [hd] at c3
    clear hi hd
    go_enter Try.func7, Try.ntmps7
    go_wp2
    go_ret
    exact ⟨rfl, rfl⟩
  | false =>
    have hb : inB s.b.length a n = false := by simpa [Fl.progIn, hd] using hi
    rw [hd] at c3
    have HB := Lib.hid hb
    clear hi hd hb
    go_enter Try.func7, Try.ntmps7
    go_wp2_with (go_at_call 20; refine (is_any p g s a n _ h).mono ?_; rintro e w' ⟨rfl, rfl⟩; rw [HB.out])
    go_ret
    exact ⟨rfl, rfl⟩

theorem Mid.start {w0 w1 : World} {p g : Nat} {s : Fl} (h1 : IsFl w1 p g s) (hk : Kept (fun x => x = p) w0 w1) (hz : w1.heap.size = w0.heap.size) : Mid w0 w1 p g s s.b :=
  ⟨h1.st, h1.row, rfl, hk.mono (fun _ _ => .inl), hz⟩

set_option maxHeartbeats 800000 in
theorem prog_in (p g : Nat) (s : Fl) (a : Nat) (ad : Addr) (n c : Nat) (xs : List Int) (w : World) (h : IsFl w p g s) (hsrc : Src w (some ad) n xs) (hel : elseW (some ad) n p g) (hnc : n ≤ c)
    (hd : s.dead = false) (hin : a + n ≤ s.b.length) :
    Calls Try.prog 7 #[.pointer (some ⟨p, 0, none⟩), .int .i64 a, .slice (some ad) n c] w fun e w' =>
      e = .returned (.bool s.goes) ∧ IsFl w' p g (s.prog a xs) ∧ Kept (fun x => x = p ∨ x = g) w w' ∧ w'.heap.size = w.heap.size := by
  obtain ⟨-, -, -, c3, -, -⟩ := h.cs
  have hl := h.ok.len
  have hb : inB s.b.length a n = true := inB_iff.2 (by omega)
  obtain ⟨k, hk, hkn⟩ : ∃ k : Nat, s.opN n = (k : Int) ∧ k ≤ n := by
    refine ⟨(s.opN n).toNat, ?_, ?_⟩ <;> (unfold Fl.opN; split <;> omega)
  have hop := fun w => op_any p g s n w
  rw [hk] at hop
  rw [hd] at c3
  have HB := Lib.hid hb
  have HD := Lib.hid hd
  have HK := Lib.hid hk
  have HOP := Lib.hid hop
  clear hb hd hk hop
  go_enter Try.func7, Try.ntmps7
  go_wp2_with (first | (go_at_call 20; refine (is_any p g s a n _ h).mono ?_; rintro e w' ⟨rfl, rfl⟩; rw [HB.out]) | (go_at_call 21; refine (HOP.out _ h).mono ?_; rintro e w1 ⟨rfl, hq⟩; have HQ := Lib.hid hq; clear hq))
  go_loopw [34] (fun i wr => ∃ j : Nat, j ≤ k ∧ i = .int .i64 j ∧ Mid w wr p g s.step (upd s.b a j (andB xs))) (fun i _ => k - (intOf i).toNat)
  case atStart =>
    exact ⟨0, Nat.zero_le _, rfl, by rw [upd_zero, ← Fl.step_b]; exact Mid.start HQ.out.1 HQ.out.2.1 HQ.out.2.2⟩
  case round =>
    obtain ⟨j, hj, rfl, hm⟩ := hrel
    by_cases hlt : j < k
    · have x0 : wr.cell? ⟨p, 0, none⟩ = some (.slice (some ⟨g, 0, none⟩) s.b.length s.b.length) := by rw [cell_blk hm.st]; simp [flCells, Fl.step_b]
      have x1 : wr.cell? ⟨g, a + j, none⟩ = some (.int .u8 (s.b.getD (a + j) 0)) := by
        rw [hm.cell (a + j) (by rw [Fl.step_b]; omega), upd_getD _ _ _ _ _ (by omega), if_neg (by omega)]
      have x2 : wr.frozen? ⟨g, a + j, none⟩ = false := hm.free _
      have x3 : wr.cell? (ad.add j) = some (.int .u8 (xs.getD j 0)) := by
        obtain ⟨a', he, hc⟩ := hsrc.cell j (by omega)
        cases he
        refine hm.kept.cellX hc ?_
        rw [block_add]
        rcases hel _ rfl with h0 | h0
        · omega
        · rintro (e | e) <;> simp_all
      have HM := Lib.hid hm
      clear hm
      go_wp2
      go_roundw
      case rel =>
        refine ⟨j + 1, by omega, by go_num, ?_⟩
        rw [upd_succ _ _ _ _ (by omega)]
        simpa [andB] using HM.out.set h.ne (a + j) (by rw [Fl.step_b]; omega) (bits .and .u8 (s.b.getD (a + j) 0) (xs.getD j 0))
      case measure => simp [intOf]; omega
    · obtain rfl : j = k := by omega
      have x5 : wr.cell? ⟨p, 5, none⟩ = some (.int .i64 s.pr) := by rw [cell_blk hm.st]; simp [flCells, Fl.step_pr]
      have x6 : wr.frozen? ⟨p, 5, none⟩ = false := free_blk hm.st _
      have p0 := h.ok.pr0
      have p1 := h.ok.pr1
      have hin' : s.progIn a xs.length = true := by simp [Fl.progIn, HD.out, hsrc.len, HB.out]
      have hkt : (s.opN xs.length).toNat = j := by rw [hsrc.len, HK.out]; rfl
      cases hg : s.goes with
      | true =>
        have fin : IsFl (wr.setCell ⟨p, 5, none⟩ (.int .i64 (min (s.pr + 1) 1099511627776))) p g (s.prog a xs) ∧ Kept (fun x => x = p ∨ x = g) w (wr.setCell ⟨p, 5, none⟩ (.int .i64 (min (s.pr + 1) 1099511627776))) ∧
            (wr.setCell ⟨p, 5, none⟩ (.int .i64 (min (s.pr + 1) 1099511627776))).heap.size = w.heap.size := by
          have hprog : s.prog a xs = { s.step with b := upd s.b a j (andB xs), pr := min (s.pr + 1) most } := by simp [Fl.prog, hin', hkt, hg]
          obtain ⟨sp, hs⟩ := hm.row
          refine ⟨⟨?_, ⟨sp, ?_⟩, h.ne, h.ok.prog _ _⟩, hm.kept.setCell (.inl (.inl rfl)) _, by rw [size_setCell]; exact hm.size⟩
          · rw [blk_setCell hm.st, hprog]; simp [flCells, upd_length, Fl.step_b, most]
          · rw [hprog]; exact blk_setCell_ne hs _ h.ne.symm
        have FIN := Lib.hid fin
        clear fin hkt hin' hm
        have HG := Lib.hid hg
        clear hg
        go_wp2
        go_ret
        rw [HG.out]
        exact ⟨rfl, FIN.out⟩
      | false =>
        have fin : IsFl wr p g (s.prog a xs) ∧ Kept (fun x => x = p ∨ x = g) w wr ∧ wr.heap.size = w.heap.size := by
          have hprog : s.prog a xs = { s.step with b := upd s.b a j (andB xs), pr := s.pr } := by simp [Fl.prog, hin', hkt, hg]
          obtain ⟨sp, hs⟩ := hm.row
          refine ⟨⟨?_, ⟨sp, ?_⟩, h.ne, h.ok.prog _ _⟩, hm.kept, hm.size⟩
          · rw [hm.st, hprog]; simp [flCells, upd_length, Fl.step_b, Fl.step_pr]
          · rw [hprog]; exact hs
        have FIN := Lib.hid fin
        clear fin hkt hin' hm
        have HG := Lib.hid hg
        clear hg
        go_wp2
        go_ret
        rw [HG.out]
        exact ⟨rfl, FIN.out⟩

theorem prog_nil (p g : Nat) (s : Fl) (a : Nat) (w : World) (h : IsFl w p g s) (hd : s.dead = false) (hin : a ≤ s.b.length) :
    Calls Try.prog 7 #[.pointer (some ⟨p, 0, none⟩), .int .i64 a, .slice none 0 0] w fun e w' =>
      e = .returned (.bool s.goes) ∧ IsFl w' p g (s.prog a []) ∧ Kept (fun x => x = p ∨ x = g) w w' ∧ w'.heap.size = w.heap.size := by
  obtain ⟨-, -, -, c3, -, -⟩ := h.cs
  have hl := h.ok.len
  have hb : inB s.b.length a 0 = true := inB_iff.2 (by omega)
  have hk : s.opN 0 = 0 := by unfold Fl.opN; split <;> omega
  have hop := fun w => op_any p g s 0 w
  rw [hk] at hop
  rw [hd] at c3
  have HB := Lib.hid hb
  have HD := Lib.hid hd
  have HK := Lib.hid hk
  have HOP := Lib.hid hop
  clear hb hd hk hop
  go_enter Try.func7, Try.ntmps7
  go_wp2_with (first | (go_at_call 20; refine (is_any p g s a 0 _ h).mono ?_; rintro e w' ⟨rfl, rfl⟩; rw [HB.out]) | (go_at_call 21; refine (HOP.out _ h).mono ?_; rintro e w1 ⟨rfl, hq⟩; have HQ := Lib.hid hq; clear hq))
  refine wp_loop_rounds 1 ?_
  rw [rounds_succ]
  obtain ⟨i1, i2, i3⟩ := HQ.out
  have x5 : w1.cell? ⟨p, 5, none⟩ = some (.int .i64 s.pr) := by rw [cell_blk i1.st]; simp [flCells, Fl.step_pr]
  have x6 : w1.frozen? ⟨p, 5, none⟩ = false := free_blk i1.st _
  have p0 := h.ok.pr0
  have p1 := h.ok.pr1
  have hin' : s.progIn a ([] : List Int).length = true := by simp [Fl.progIn, HD.out, HB.out]
  have hkt : (s.opN ([] : List Int).length).toNat = 0 := by simp [HK.out]
  cases hg : s.goes with
  | true =>
    have fin : IsFl (w1.setCell ⟨p, 5, none⟩ (.int .i64 (min (s.pr + 1) 1099511627776))) p g (s.prog a []) ∧ Kept (fun x => x = p ∨ x = g) w (w1.setCell ⟨p, 5, none⟩ (.int .i64 (min (s.pr + 1) 1099511627776))) ∧
        (w1.setCell ⟨p, 5, none⟩ (.int .i64 (min (s.pr + 1) 1099511627776))).heap.size = w.heap.size := by
      have hprog : s.prog a [] = { s.step with b := s.b, pr := min (s.pr + 1) most } := by simp only [Fl.prog, hin', hkt, hg, upd_zero, if_true]
      obtain ⟨sp, hs⟩ := i1.row
      refine ⟨⟨?_, ⟨sp, ?_⟩, h.ne, h.ok.prog _ _⟩, (i2.mono (fun _ _ => .inl)).setCell (.inl (.inl rfl)) _, by rw [size_setCell]; exact i3⟩
      · rw [blk_setCell i1.st, hprog]; simp [flCells, Fl.step_b, most]
      · rw [hprog]; rw [Fl.step_b] at hs; exact blk_setCell_ne hs _ h.ne.symm
    have FIN := Lib.hid fin
    have HG := Lib.hid hg
    clear fin hkt hin' i1 i2 i3 HQ hg
    go_wp2
    go_ret
    rw [HG.out]
    exact ⟨rfl, FIN.out⟩
  | false =>
    have fin : IsFl w1 p g (s.prog a []) ∧ Kept (fun x => x = p ∨ x = g) w w1 ∧ w1.heap.size = w.heap.size := by
      have hprog : s.prog a [] = s.step := by
        simp only [Fl.prog, hin', hkt, hg, upd_zero, if_true]
        unfold Fl.step; split <;> rfl
      exact ⟨by rw [hprog]; exact i1, i2.mono (fun _ _ => .inl), i3⟩
    have FIN := Lib.hid fin
    have HG := Lib.hid hg
    clear fin hkt hin' i1 i2 i3 HQ hg
    go_wp2
    go_ret
    rw [HG.out]
    exact ⟨rfl, FIN.out⟩

/-- Program, whatever is programmed wherever. -/
theorem prog_any (p g : Nat) (s : Fl) (a : Int) (sa : Option Addr) (n c : Nat) (xs : List Int) (w : World) (h : IsFl w p g s) (hsrc : Src w sa n xs) (hel : elseW sa n p g) (hnc : n ≤ c) (hno : sa = none → n = 0 ∧ c = 0) :
    Calls Try.prog 7 #[.pointer (some ⟨p, 0, none⟩), .int .i64 a, .slice sa n c] w fun e w' =>
      e = .returned (.bool (s.progOk a n)) ∧ IsFl w' p g (s.prog a xs) ∧ Kept (fun x => x = p ∨ x = g) w w' ∧ w'.heap.size = w.heap.size := by
  cases hi : s.progIn a n with
  | false =>
    refine (prog_out p g s a sa n c w h hi).mono ?_
    rintro e w' ⟨rfl, rfl⟩
    have h1 : s.progOk a n = false := by simp [Fl.progOk, hi]
    have h2 : s.prog a xs = s := by simp [Fl.prog, hsrc.len, hi]
    rw [h1, h2]
    exact ⟨rfl, h, Kept.refl _ _, rfl⟩
  | true =>
    have h1 : s.progOk a n = s.goes := by simp [Fl.progOk, hi]
    have hd : s.dead = false := by cases hd : s.dead <;> simp_all [Fl.progIn]
    have hb : inB s.b.length a n = true := by simpa [Fl.progIn, hd] using hi
    obtain ⟨b1, b2, b3, b4⟩ := inB_iff.1 hb
    obtain ⟨a', rfl⟩ := Int.eq_ofNat_of_zero_le b1
    rw [h1]
    cases sa with
    | none =>
      obtain ⟨rfl, rfl⟩ := hno rfl
      obtain rfl : xs = [] := List.eq_nil_of_length_eq_zero hsrc.len
      exact prog_nil p g s a' w h hd (by omega)
    | some ad => exact prog_in p g s a' ad n c xs w h hsrc hel hnc hd (by omega)

end Go.Proofs.Ytcecgbjpmegljaa
