/- portcullisref19.Flash: Erase, Program, Poke, Read: what each answers, in the words of Fl. Condition: the flash lies there whole; what is programmed lies elsewhere; the counts are below the greatest. -/
import Derived.Test.YtoljnogpegemjaaDoorRfC
import Derived.StillTailTactics
namespace Go.Proofs.YtoljnogpegemjaaDoor
open Go.RowKit

/-- The document's flash while a program or an erase is under way. -/
structure RMid (w0 w : World) (p g : Nat) (s : Fl) (b : List Int) : Prop where
  st : ∃ pl o c, w.heap[p]? = some (.cells (rfCells g s pl o c) 69 (0, 0)) ∧ ((pl = false ∧ s.op = -1) ∨ (pl = true ∧ s.op ≠ -1 ∧ o = s.op ∧ c = s.cut))
  row : ∃ sp, w.heap[g]? = some (.cells (row8 b sp) 5 (0, 0))
  len : b.length = s.b.length
  kept : Kept (fun x => x = p ∨ x = g) w0 w
  size : w.heap.size = w0.heap.size

theorem RMid.cell {w0 w : World} {p g : Nat} {s : Fl} {b : List Int} (h : RMid w0 w p g s b) (i : Nat) (hi : i < s.b.length) : w.cell? ⟨g, i, none⟩ = some (.int .u8 (b.getD i 0)) := by
  obtain ⟨sp, hs⟩ := h.row
  rw [cell_blk hs, row8_get _ _ _ (by rw [h.len]; exact hi)]
theorem RMid.free {w0 w : World} {p g : Nat} {s : Fl} {b : List Int} (h : RMid w0 w p g s b) (i : Nat) : w.frozen? ⟨g, i, none⟩ = false := by
  obtain ⟨sp, hs⟩ := h.row
  exact free_blk hs i
theorem RMid.c0 {w0 w : World} {p g : Nat} {s : Fl} {b : List Int} (h : RMid w0 w p g s b) : w.cell? ⟨p, 0, none⟩ = some (.slice (some ⟨g, 0, none⟩) s.b.length s.b.length) := by
  obtain ⟨_, _, _, h, _⟩ := h.st; exact (rfCs h).1
theorem RMid.set {w0 w : World} {p g : Nat} {s : Fl} {b : List Int} (h : RMid w0 w p g s b) (hne : p ≠ g) (i : Nat) (hi : i < s.b.length) (x : Int) :
    RMid w0 (w.setCell ⟨g, i, none⟩ (.int .u8 x)) p g s (b.set i x) := by
  obtain ⟨sp, hs⟩ := h.row
  obtain ⟨pl, o, c, h1, h2⟩ := h.st
  refine ⟨⟨pl, o, c, blk_setCell_ne h1 _ hne, h2⟩, ⟨sp, ?_⟩, by simpa using h.len, h.kept.setCell (.inl (.inr rfl)) _, by rw [size_setCell]; exact h.size⟩
  rw [blk_setCell hs, row8_set _ _ _ (by rw [h.len]; exact hi)]
theorem RMid.start {w0 w1 : World} {p g : Nat} {s : Fl} (h1 : IsRf w1 p g s) (hk : Kept (fun x => x = p) w0 w1) (hz : w1.heap.size = w0.heap.size) : RMid w0 w1 p g s s.b :=
  ⟨h1.st, h1.row, rfl, hk.mono (fun _ _ => .inl), hz⟩
theorem RMid.drewN {w0 w : World} {p g : Nat} {s : Fl} {b : List Int} (h : RMid w0 w p g s b) (n : Nat) : RMid w0 (w.drewN n) p g s b := ⟨h.st, h.row, h.len, h.kept.drewN n, h.size⟩
theorem RMid.drew {w0 w : World} {p g : Nat} {s : Fl} {b : List Int} (h : RMid w0 w p g s b) : RMid w0 w.drew p g s b := ⟨h.st, h.row, h.len, h.kept.drew, h.size⟩

theorem rerase_out (p g : Nat) (s : Fl) (k : Int) (w : World) (h : IsRf w p g s) (hi : s.eraseIn k = false) :
    Calls Tryd.prog 116 #[.pointer (some ⟨p, 0, none⟩), .int .i64 k] w fun e w' => e = .returned (.bool false) ∧ w = w' := by
  have c0 := h.c0
  have c4 := h.c4
  have hl := h.ok.len
  cases hd : s.dead with
  | true =>
    rw [hd] at c4
    clear hi hd
    go_enter Tryd.func116, Tryd.ntmps116
    go_wp2
    go_ret
    exact ⟨rfl, rfl⟩
  | false =>
    by_cases h0 : k < 0
    · rw [hd] at c4
      clear hi hd
      go_enter Tryd.func116, Tryd.ntmps116
      go_wp2
      go_ret
      exact ⟨rfl, rfl⟩
    · have h1 : ((s.b.length / 256 : Nat) : Int) ≤ k := by
        simp only [Fl.eraseIn, hd] at hi
        simp at hi
        omega
      rw [hd] at c4
      have h0' : 0 ≤ k := by omega
      clear hi hd h0
      go_enter Tryd.func116, Tryd.ntmps116
      go_wp2
      go_ret
      exact ⟨rfl, rfl⟩

set_option maxHeartbeats 800000 in
theorem rerase_in (p g : Nat) (s : Fl) (k : Nat) (w : World) (h : IsRf w p g s) (hd : s.dead = false) (hin : k < s.b.length / 256) (hmost : s.er < most) :
    Calls Tryd.prog 116 #[.pointer (some ⟨p, 0, none⟩), .int .i64 k] w fun e w' =>
      e = .returned (.bool s.goes) ∧ IsRf w' p g (s.erase k) ∧ Kept (fun x => x = p ∨ x = g) w w' ∧ w'.heap.size = w.heap.size := by
  have c0 := h.c0
  have c4 := h.c4
  have hl := h.ok.len
  have hb : s.eraseIn k = true := by simp [Fl.eraseIn, hd]; omega
  obtain ⟨m, hk, hkn⟩ : ∃ m : Nat, s.opN 256 = (m : Int) ∧ m ≤ 256 := by
    refine ⟨(s.opN 256).toNat, ?_, ?_⟩ <;> (unfold Fl.opN; split <;> omega)
  have hop := fun w h => rop_any p g s 256 w h (by omega)
  rw [hk] at hop
  rw [hd] at c4
  have HB := Lib.hid hb
  have HK := Lib.hid hk
  have HOP := Lib.hid hop
  have hin2 : (k : Int) < ((s.b.length / 256 : Nat) : Int) := by omega
  have hfit : 256 * k + m ≤ s.b.length := by omega
  clear hb hd hk hop
  go_enter Tryd.func116, Tryd.ntmps116
  go_wp2_with (go_at_call 142; refine (HOP.out _ h).mono ?_; rintro e w1 ⟨rfl, hq⟩; have HQ := Lib.hid hq; clear hq)
  go_loopw [7] (fun i wr => ∃ j : Nat, j ≤ m ∧ i = .int .i64 j ∧ RMid w wr p g s.step (upd s.b (256 * k) j (fun _ _ => 255))) (fun i _ => m - (intOf i).toNat)
  case atStart =>
    exact ⟨0, Nat.zero_le _, rfl, by rw [upd_zero, ← Fl.step_b]; exact RMid.start HQ.out.1 HQ.out.2.1 HQ.out.2.2⟩
  case round =>
    obtain ⟨j, hj, rfl, hm⟩ := hrel
    by_cases hlt : j < m
    · have x0 : wr.cell? ⟨p, 0, none⟩ = some (.slice (some ⟨g, 0, none⟩) s.b.length s.b.length) := by rw [hm.c0, Fl.step_b]
      have x1 : wr.cell? ⟨g, 256 * k + j, none⟩ = some (.int .u8 (s.b.getD (256 * k + j) 0)) := by
        rw [hm.cell (256 * k + j) (by rw [Fl.step_b]; omega), upd_getD _ _ _ _ _ (by omega), if_neg (by omega)]
      have x2 : wr.frozen? ⟨g, 256 * k + j, none⟩ = false := hm.free _
      have HM := Lib.hid hm
      clear hm
      go_wp2
      go_roundw
      case rel =>
        refine ⟨j + 1, by omega, by go_num, ?_⟩
        rw [upd_succ _ _ _ _ (by omega)]
        exact HM.out.set h.ne (256 * k + j) (by rw [Fl.step_b]; omega) 255
      case measure => simp [intOf]; omega
    · obtain rfl : j = m := by omega
      obtain ⟨pl, oo, cc, hst, hpl⟩ := hm.st
      have x5 : wr.cell? ⟨p, 5, none⟩ = some (.int .i64 s.er) := by rw [cell_blk hst]; simp [rfCells, Fl.step_er]
      have x6 : wr.frozen? ⟨p, 5, none⟩ = false := free_blk hst _
      have p0 := h.ok.er0
      have p1 : s.er < 1099511627776 := hmost
      have hin' : s.eraseIn k = true := HB.out
      have hkt : (s.opN 256).toNat = j := by rw [HK.out]; rfl
      cases hg : s.goes with
      | true =>
        have fin : IsRf (wr.setCell ⟨p, 5, none⟩ (.int .i64 (s.er + 1))) p g (s.erase k) ∧ Kept (fun x => x = p ∨ x = g) w (wr.setCell ⟨p, 5, none⟩ (.int .i64 (s.er + 1))) ∧
            (wr.setCell ⟨p, 5, none⟩ (.int .i64 (s.er + 1))).heap.size = w.heap.size := by
          have hprog : s.erase k = { s.step with b := upd s.b (256 * k) j (fun _ _ => 255), er := s.er + 1 } := by
            simp only [Fl.erase, hin', hkt, hg, if_true]
            rw [show min (s.er + 1) most = s.er + 1 by simp only [most]; omega]
            rfl
          obtain ⟨sp, hs⟩ := hm.row
          refine ⟨⟨⟨pl, oo, cc, ?_, by rw [hprog]; exact hpl⟩, ⟨sp, ?_⟩, h.ne, h.ok.erase _⟩, hm.kept.setCell (.inl (.inl rfl)) _, by rw [size_setCell]; exact hm.size⟩
          · rw [blk_setCell hst, hprog]; simp [rfCells, upd_length, Fl.step_b]
          · rw [hprog]; exact blk_setCell_ne hs _ h.ne.symm
        have FIN := Lib.hid fin
        have HG := Lib.hid hg
        clear fin hkt hin' hm hg hst hpl
        go_wp2
        go_ret
        rw [HG.out]
        exact ⟨rfl, FIN.out⟩
      | false =>
        have fin : IsRf wr p g (s.erase k) ∧ Kept (fun x => x = p ∨ x = g) w wr ∧ wr.heap.size = w.heap.size := by
          have hprog : s.erase k = { s.step with b := upd s.b (256 * k) j (fun _ _ => 255), er := s.er } := by simp [Fl.erase, hin', hkt, hg]
          obtain ⟨sp, hs⟩ := hm.row
          refine ⟨⟨⟨pl, oo, cc, ?_, by rw [hprog]; exact hpl⟩, ⟨sp, ?_⟩, h.ne, h.ok.erase _⟩, hm.kept, hm.size⟩
          · rw [hst, hprog]; simp [rfCells, upd_length, Fl.step_b, Fl.step_er]
          · rw [hprog]; exact hs
        have FIN := Lib.hid fin
        have HG := Lib.hid hg
        clear fin hkt hin' hm hg hst hpl
        go_wp2
        go_ret
        rw [HG.out]
        exact ⟨rfl, FIN.out⟩

theorem rerase_any (p g : Nat) (s : Fl) (k : Int) (w : World) (h : IsRf w p g s) (hmost : s.er < most) :
    Calls Tryd.prog 116 #[.pointer (some ⟨p, 0, none⟩), .int .i64 k] w fun e w' =>
      e = .returned (.bool (s.eraseOk k)) ∧ IsRf w' p g (s.erase k) ∧ Kept (fun x => x = p ∨ x = g) w w' ∧ w'.heap.size = w.heap.size := by
  cases hi : s.eraseIn k with
  | false =>
    refine (rerase_out p g s k w h hi).mono ?_
    rintro e w' ⟨rfl, rfl⟩
    have h1 : s.eraseOk k = false := by simp [Fl.eraseOk, hi]
    have h2 : s.erase k = s := by simp [Fl.erase, hi]
    rw [h1, h2]
    exact ⟨rfl, h, Kept.refl _ _, rfl⟩
  | true =>
    have h1 : s.eraseOk k = s.goes := by simp [Fl.eraseOk, hi]
    rw [h1]
    simp only [Fl.eraseIn, Bool.and_eq_true, Bool.not_eq_true', decide_eq_true_eq] at hi
    obtain ⟨⟨hd, b1⟩, b2⟩ := hi
    obtain ⟨k', rfl⟩ := Int.eq_ofNat_of_zero_le b1
    exact rerase_in p g s k' w h hd (by omega) hmost

theorem rprog_out (p g : Nat) (s : Fl) (a : Int) (sa : Option Addr) (n c : Nat) (w : World) (h : IsRf w p g s) (hi : s.progIn a n = false) :
    Calls Tryd.prog 117 #[.pointer (some ⟨p, 0, none⟩), .int .i64 a, .slice sa n c] w fun e w' => e = .returned (.bool false) ∧ w = w' := by
  have c4 := h.c4
  cases hd : s.dead with
  | true =>
    rw [hd] at c4
    clear hi hd
    go_enter Tryd.func117, Tryd.ntmps117
    go_wp2
    go_ret
    exact ⟨rfl, rfl⟩
  | false =>
    have hb : inB s.b.length a n = false := by simpa [Fl.progIn, hd] using hi
    rw [hd] at c4
    have HB := Lib.hid hb
    clear hi hd hb
    go_enter Tryd.func117, Tryd.ntmps117
    go_wp2_with (go_at_call 111; refine (rfits_any p g s a n _ h).mono ?_; rintro e w' ⟨rfl, rfl⟩; rw [HB.out])
    go_ret
    exact ⟨rfl, rfl⟩

set_option maxRecDepth 100000 in
set_option maxHeartbeats 1600000 in
theorem rprog_in (p g : Nat) (s : Fl) (a : Nat) (sa : Option Addr) (n c : Nat) (xs : List Int) (w : World) (h : IsRf w p g s) (hsrc : Src w sa n xs) (hel : elseW sa n p g) (_hnc : n ≤ c)
    (hd : s.dead = false) (hin : a + n ≤ s.b.length) (hmost : s.pr < most) :
    Calls Tryd.prog 117 #[.pointer (some ⟨p, 0, none⟩), .int .i64 a, .slice sa n c] w fun e w' =>
      e = .returned (.bool s.goes) ∧ IsRf w' p g (s.prog a xs) ∧ Kept (fun x => x = p ∨ x = g) w w' ∧ w'.heap.size = w.heap.size := by
  have c0 := h.c0
  have c4 := h.c4
  have hl := h.ok.len
  have hb : inB s.b.length a n = true := inB_iff.2 (by omega)
  obtain ⟨k, hk, hkn⟩ : ∃ k : Nat, s.opN n = (k : Int) ∧ k ≤ n := by
    refine ⟨(s.opN n).toNat, ?_, ?_⟩ <;> (unfold Fl.opN; split <;> omega)
  have hop := fun w h => rop_any p g s n w h (by omega)
  rw [hk] at hop
  rw [hd] at c4
  have HB := Lib.hid hb
  have HD := Lib.hid hd
  have HK := Lib.hid hk
  have HOP := Lib.hid hop
  clear hb hd hk hop
  go_enter Tryd.func117, Tryd.ntmps117
  go_wp2_with (first | (go_at_call 111; refine (rfits_any p g s a n _ h).mono ?_; rintro e w' ⟨rfl, rfl⟩; rw [HB.out]) | (go_at_call 142; refine (HOP.out _ h).mono ?_; rintro e w1 ⟨rfl, hq⟩; have HQ := Lib.hid hq; clear hq))
  go_loopw [9] (fun i wr => ∃ j : Nat, j ≤ k ∧ i = .int .i64 j ∧ RMid w wr p g s.step (upd s.b a j (andB xs))) (fun i _ => k - (intOf i).toNat)
  case atStart =>
    exact ⟨0, Nat.zero_le _, rfl, by rw [upd_zero, ← Fl.step_b]; exact RMid.start HQ.out.1 HQ.out.2.1 HQ.out.2.2⟩
  case round =>
    obtain ⟨j, hj, rfl, hm⟩ := hrel
    by_cases hlt : j < k
    · obtain ⟨ad, rfl, hcc⟩ := hsrc.cell j (by omega)
      have x0 : wr.cell? ⟨p, 0, none⟩ = some (.slice (some ⟨g, 0, none⟩) s.b.length s.b.length) := by rw [hm.c0, Fl.step_b]
      have x1 : wr.cell? ⟨g, a + j, none⟩ = some (.int .u8 (s.b.getD (a + j) 0)) := by
        rw [hm.cell (a + j) (by rw [Fl.step_b]; omega), upd_getD _ _ _ _ _ (by omega), if_neg (by omega)]
      have x2 : wr.frozen? ⟨g, a + j, none⟩ = false := hm.free _
      have x3 : wr.cell? (ad.add j) = some (.int .u8 (xs.getD j 0)) := by
        refine hm.kept.cellX hcc ?_
        rw [block_add]
        rcases hel _ rfl with h0 | h0
        · omega
        · rintro (e | e) <;> simp_all
      have HM := Lib.hid hm
      clear hm hcc
      have y1 : (0 : Int) ≤ (a : Int) + (j : Int) := by omega
      have y2 : (a : Int) + (j : Int) < ((s.b.length : Nat) : Int) := by omega
      have y3 : (0 : Int) ≤ (j : Int) := by omega
      have y4 : (j : Int) < (n : Int) := by omega
      have y5 : ((a : Int) + (j : Int)).toNat = a + j := by omega
      have y6 : IntKind.i64.wrap ((a : Int) + (j : Int)) = (a : Int) + (j : Int) := IntWalk.i64_in _ (by omega)
      go_wp2
      go_still_tail 22, (by kernel_rfl)
      change wpList _ _ _ _ _ wr.drew
      clear y1 y2 y3 y4 y5 y6
      go_wp2
      go_roundw
      case rel =>
        refine ⟨j + 1, by omega, by go_num, ?_⟩
        rw [upd_succ _ _ _ _ (by omega)]
        simpa [andB] using (HM.out.set h.ne (a + j) (by rw [Fl.step_b]; omega) (bits .and .u8 (s.b.getD (a + j) 0) (xs.getD j 0))).drew
      case measure => simp [intOf]; omega
    · obtain rfl : j = k := by omega
      obtain ⟨pl, oo, cc, hst, hpl⟩ := hm.st
      have x5 : wr.cell? ⟨p, 6, none⟩ = some (.int .i64 s.pr) := by rw [cell_blk hst]; simp [rfCells, Fl.step_pr]
      have x6 : wr.frozen? ⟨p, 6, none⟩ = false := free_blk hst _
      have p0 := h.ok.pr0
      have p1 : s.pr < 1099511627776 := hmost
      have hin' : s.progIn a xs.length = true := by simp [Fl.progIn, HD.out, hsrc.len, HB.out]
      have hkt : (s.opN xs.length).toNat = j := by rw [hsrc.len, HK.out]; rfl
      cases hg : s.goes with
      | true =>
        have fin : IsRf (wr.setCell ⟨p, 6, none⟩ (.int .i64 (s.pr + 1))) p g (s.prog a xs) ∧ Kept (fun x => x = p ∨ x = g) w (wr.setCell ⟨p, 6, none⟩ (.int .i64 (s.pr + 1))) ∧
            (wr.setCell ⟨p, 6, none⟩ (.int .i64 (s.pr + 1))).heap.size = w.heap.size := by
          have hprog : s.prog a xs = { s.step with b := upd s.b a j (andB xs), pr := s.pr + 1 } := by
            simp only [Fl.prog, hin', hkt, hg, if_true]
            rw [show min (s.pr + 1) most = s.pr + 1 by simp only [most]; omega]
            rfl
          obtain ⟨sp, hs⟩ := hm.row
          refine ⟨⟨⟨pl, oo, cc, ?_, by rw [hprog]; exact hpl⟩, ⟨sp, ?_⟩, h.ne, h.ok.prog _ _⟩, hm.kept.setCell (.inl (.inl rfl)) _, by rw [size_setCell]; exact hm.size⟩
          · rw [blk_setCell hst, hprog]; simp [rfCells, upd_length, Fl.step_b]
          · rw [hprog]; exact blk_setCell_ne hs _ h.ne.symm
        have FIN := Lib.hid fin
        have HG := Lib.hid hg
        clear fin hkt hin' hm hg hst hpl
        go_wp2
        go_ret
        rw [HG.out]
        exact ⟨rfl, FIN.out⟩
      | false =>
        have fin : IsRf wr p g (s.prog a xs) ∧ Kept (fun x => x = p ∨ x = g) w wr ∧ wr.heap.size = w.heap.size := by
          have hprog : s.prog a xs = { s.step with b := upd s.b a j (andB xs), pr := s.pr } := by simp [Fl.prog, hin', hkt, hg]
          obtain ⟨sp, hs⟩ := hm.row
          refine ⟨⟨⟨pl, oo, cc, ?_, by rw [hprog]; exact hpl⟩, ⟨sp, ?_⟩, h.ne, h.ok.prog _ _⟩, hm.kept, hm.size⟩
          · rw [hst, hprog]; simp [rfCells, upd_length, Fl.step_b, Fl.step_pr]
          · rw [hprog]; exact hs
        have FIN := Lib.hid fin
        have HG := Lib.hid hg
        clear fin hkt hin' hm hg hst hpl
        go_wp2
        go_ret
        rw [HG.out]
        exact ⟨rfl, FIN.out⟩

theorem rprog_any (p g : Nat) (s : Fl) (a : Int) (sa : Option Addr) (n c : Nat) (xs : List Int) (w : World) (h : IsRf w p g s) (hsrc : Src w sa n xs) (hel : elseW sa n p g) (hnc : n ≤ c) (hmost : s.pr < most) :
    Calls Tryd.prog 117 #[.pointer (some ⟨p, 0, none⟩), .int .i64 a, .slice sa n c] w fun e w' =>
      e = .returned (.bool (s.progOk a n)) ∧ IsRf w' p g (s.prog a xs) ∧ Kept (fun x => x = p ∨ x = g) w w' ∧ w'.heap.size = w.heap.size := by
  cases hi : s.progIn a n with
  | false =>
    refine (rprog_out p g s a sa n c w h hi).mono ?_
    rintro e w' ⟨rfl, rfl⟩
    have h1 : s.progOk a n = false := by simp [Fl.progOk, hi]
    have h2 : s.prog a xs = s := by simp [Fl.prog, hsrc.len, hi]
    rw [h1, h2]
    exact ⟨rfl, h, Kept.refl _ _, rfl⟩
  | true =>
    have h1 : s.progOk a n = s.goes := by simp [Fl.progOk, hi]
    have hd : s.dead = false := by cases hd : s.dead <;> simp_all [Fl.progIn]
    have hb : inB s.b.length a n = true := by simpa [Fl.progIn, hd] using hi
    obtain ⟨b1, b2, b3, b4⟩ := inB_iff.1 hb
    obtain ⟨a', rfl⟩ := Int.eq_ofNat_of_zero_le b1
    rw [h1]
    exact rprog_in p g s a' sa n c xs w h hsrc hel hnc hd (by omega) hmost

end Go.Proofs.YtoljnogpegemjaaDoor
