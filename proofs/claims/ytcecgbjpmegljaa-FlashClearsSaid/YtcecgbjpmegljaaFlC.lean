/- flash.Erase, Poke: what each answers and what it makes of the flash. Condition: the flash lies there whole; what is poked lies elsewhere. -/
import Derived.Test.YtcecgbjpmegljaaFlB
import Derived.Laws.CopyOwn
namespace Go.Proofs.Ytcecgbjpmegljaa
open Go.RowKit

theorem erase_out (p g : Nat) (s : Fl) (k : Int) (w : World) (h : IsFl w p g s) (hi : s.eraseIn k = false) :
    Calls Try.prog 10 #[.pointer (some ⟨p, 0, none⟩), .int .i64 k] w fun e w' => e = .returned (.bool false) ∧ w = w' := by
  obtain ⟨-, -, -, c3, -, -⟩ := h.cs
  have hl := h.ok.len
  cases hd : s.dead with
  | true =>
    rw [hd] at c3
    clear hi hd
    go_enter Try.func10, Try.ntmps10
    go_wp2
    go_ret
    exact ⟨rfl, rfl⟩
  | false =>
    by_cases h0 : k < 0
    · rw [hd] at c3
      clear hi hd
      go_enter Try.func10, Try.ntmps10
      go_wp2
      go_ret
      exact ⟨rfl, rfl⟩
    · have h1 : ((s.b.length / 256 : Nat) : Int) ≤ k := by
        simp only [Fl.eraseIn, hd] at hi
        simp at hi
        omega
      rw [hd] at c3
      have h0' : 0 ≤ k := by omega
      clear hi hd h0
      go_enter Try.func10, Try.ntmps10
      go_wp2_with (go_at_call 23; refine (size_any p g s _ h).mono ?_; rintro e w' ⟨rfl, rfl⟩)
      go_ret
      exact ⟨rfl, rfl⟩

set_option maxHeartbeats 800000 in
theorem erase_in (p g : Nat) (s : Fl) (k : Nat) (w : World) (h : IsFl w p g s) (hd : s.dead = false) (hin : k < s.b.length / 256) :
    Calls Try.prog 10 #[.pointer (some ⟨p, 0, none⟩), .int .i64 k] w fun e w' =>
      e = .returned (.bool s.goes) ∧ IsFl w' p g (s.erase k) ∧ Kept (fun x => x = p ∨ x = g) w w' ∧ w'.heap.size = w.heap.size := by
  obtain ⟨-, -, -, c3, -, -⟩ := h.cs
  have hl := h.ok.len
  have hb : s.eraseIn k = true := by simp [Fl.eraseIn, hd]; omega
  obtain ⟨m, hk, hkn⟩ : ∃ m : Nat, s.opN 256 = (m : Int) ∧ m ≤ 256 := by
    refine ⟨(s.opN 256).toNat, ?_, ?_⟩ <;> (unfold Fl.opN; split <;> omega)
  have hop := fun w => op_any p g s 256 w
  rw [hk] at hop
  rw [hd] at c3
  have HB := Lib.hid hb
  have HK := Lib.hid hk
  have HOP := Lib.hid hop
  have hin2 : (k : Int) < ((s.b.length / 256 : Nat) : Int) := by omega
  have hfit : 256 * k + m ≤ s.b.length := by omega
  clear hb hd hk hop
  go_enter Try.func10, Try.ntmps10
  go_wp2_with (first | (go_at_call 23; refine (size_any p g s _ h).mono ?_; rintro e w' ⟨rfl, rfl⟩) | (go_at_call 21; refine (HOP.out _ h).mono ?_; rintro e w1 ⟨rfl, hq⟩; have HQ := Lib.hid hq; clear hq))
  go_loopw [31] (fun i wr => ∃ j : Nat, j ≤ m ∧ i = .int .i64 j ∧ Mid w wr p g s.step (upd s.b (256 * k) j (fun _ _ => 255))) (fun i _ => m - (intOf i).toNat)
  case atStart =>
    exact ⟨0, Nat.zero_le _, rfl, by rw [upd_zero, ← Fl.step_b]; exact Mid.start HQ.out.1 HQ.out.2.1 HQ.out.2.2⟩
  case round =>
    obtain ⟨j, hj, rfl, hm⟩ := hrel
    by_cases hlt : j < m
    · have x0 : wr.cell? ⟨p, 0, none⟩ = some (.slice (some ⟨g, 0, none⟩) s.b.length s.b.length) := by rw [cell_blk hm.st]; simp [flCells, Fl.step_b]
      have x1 : wr.cell? ⟨g, k * 256 + j, none⟩ = some (.int .u8 (s.b.getD (256 * k + j) 0)) := by
        rw [Nat.mul_comm k, hm.cell (256 * k + j) (by rw [Fl.step_b]; omega), upd_getD _ _ _ _ _ (by omega), if_neg (by omega)]
      have x2 : wr.frozen? ⟨g, k * 256 + j, none⟩ = false := hm.free _
      have HM := Lib.hid hm
      clear hm
      go_wp2
      go_roundw
      case rel =>
        refine ⟨j + 1, by omega, by go_num, ?_⟩
        rw [upd_succ _ _ _ _ (by omega)]
        have := HM.out.set h.ne (256 * k + j) (by rw [Fl.step_b]; omega) 255
        rw [Nat.mul_comm 256 k] at this ⊢
        exact this
      case measure => simp [intOf]; omega
    · obtain rfl : j = m := by omega
      have x5 : wr.cell? ⟨p, 4, none⟩ = some (.int .i64 s.er) := by rw [cell_blk hm.st]; simp [flCells, Fl.step_er]
      have x6 : wr.frozen? ⟨p, 4, none⟩ = false := free_blk hm.st _
      have p0 := h.ok.er0
      have p1 := h.ok.er1
      have hin' : s.eraseIn k = true := HB.out
      have hkt : (s.opN 256).toNat = j := by rw [HK.out]; rfl
      cases hg : s.goes with
      | true =>
        have fin : IsFl (wr.setCell ⟨p, 4, none⟩ (.int .i64 (min (s.er + 1) 1099511627776))) p g (s.erase k) ∧ Kept (fun x => x = p ∨ x = g) w (wr.setCell ⟨p, 4, none⟩ (.int .i64 (min (s.er + 1) 1099511627776))) ∧
            (wr.setCell ⟨p, 4, none⟩ (.int .i64 (min (s.er + 1) 1099511627776))).heap.size = w.heap.size := by
          have hprog : s.erase k = { s.step with b := upd s.b (256 * k) j (fun _ _ => 255), er := min (s.er + 1) most } := by simp [Fl.erase, hin', hkt, hg]
          obtain ⟨sp, hs⟩ := hm.row
          refine ⟨⟨?_, ⟨sp, ?_⟩, h.ne, h.ok.erase _⟩, hm.kept.setCell (.inl (.inl rfl)) _, by rw [size_setCell]; exact hm.size⟩
          · rw [blk_setCell hm.st, hprog]; simp [flCells, upd_length, Fl.step_b, most]
          · rw [hprog]; exact blk_setCell_ne hs _ h.ne.symm
        have FIN := Lib.hid fin
        have HG := Lib.hid hg
        clear fin hkt hin' hm hg
        go_wp2
        go_ret
        rw [HG.out]
        exact ⟨rfl, FIN.out⟩
      | false =>
        have fin : IsFl wr p g (s.erase k) ∧ Kept (fun x => x = p ∨ x = g) w wr ∧ wr.heap.size = w.heap.size := by
          have hprog : s.erase k = { s.step with b := upd s.b (256 * k) j (fun _ _ => 255), er := s.er } := by simp [Fl.erase, hin', hkt, hg]
          obtain ⟨sp, hs⟩ := hm.row
          refine ⟨⟨?_, ⟨sp, ?_⟩, h.ne, h.ok.erase _⟩, hm.kept, hm.size⟩
          · rw [hm.st, hprog]; simp [flCells, upd_length, Fl.step_b, Fl.step_er]
          · rw [hprog]; exact hs
        have FIN := Lib.hid fin
        have HG := Lib.hid hg
        clear fin hkt hin' hm hg
        go_wp2
        go_ret
        rw [HG.out]
        exact ⟨rfl, FIN.out⟩

theorem erase_any (p g : Nat) (s : Fl) (k : Int) (w : World) (h : IsFl w p g s) :
    Calls Try.prog 10 #[.pointer (some ⟨p, 0, none⟩), .int .i64 k] w fun e w' =>
      e = .returned (.bool (s.eraseOk k)) ∧ IsFl w' p g (s.erase k) ∧ Kept (fun x => x = p ∨ x = g) w w' ∧ w'.heap.size = w.heap.size := by
  cases hi : s.eraseIn k with
  | false =>
    refine (erase_out p g s k w h hi).mono ?_
    rintro e w' ⟨rfl, rfl⟩
    have h1 : s.eraseOk k = false := by simp [Fl.eraseOk, hi]
    have h2 : s.erase k = s := by simp [Fl.erase, hi]
    rw [h1, h2]
    exact ⟨rfl, h, Kept.refl _ _, rfl⟩
  | true =>
    have h1 : s.eraseOk k = s.goes := by simp [Fl.eraseOk, hi]
    rw [h1]
    simp only [Fl.eraseIn, Bool.and_eq_true, Bool.not_eq_true', decide_eq_true_eq] at hi
    obtain ⟨⟨hd, b1⟩, b2⟩ := hi
    obtain ⟨k', rfl⟩ := Int.eq_ofNat_of_zero_le b1
    exact erase_in p g s k' w h hd (by omega)

theorem row8_splice (b : List Int) (sp : List Value) (a : Nat) (xs : List Int) (h : a + xs.length ≤ b.length) :
    ((row8 b sp).toList.take a ++ ((xs.map (Value.int .u8)) ++ (row8 b sp).toList.drop (a + (xs.map (Value.int .u8)).length))).toArray = row8 (upd b a xs.length (fun i _ => xs.getD i 0)) sp := by
  have hu : upd b a xs.length (fun i _ => xs.getD i 0) = b.take a ++ (xs ++ b.drop (a + xs.length)) := by
    apply List.ext_getElem
    · simp [upd_length]; omega
    · intro i h1 h2
      rw [upd_length] at h1
      rw [upd_get _ _ _ _ _ h1]
      by_cases e : a ≤ i ∧ i < a + xs.length
      · rw [if_pos e, List.getElem_append_right (by simp; omega), List.getElem_append_left (by simp; omega)]
        simp [List.getD, Nat.min_eq_left (show a ≤ b.length by omega), show i - a < xs.length by omega]
      · rw [if_neg e]
        by_cases e2 : i < a
        · rw [List.getElem_append_left (by simp; omega)]; simp
        · rw [List.getElem_append_right (by simp; omega), List.getElem_append_right (by simp; omega)]
          simp [Nat.min_eq_left (show a ≤ b.length by omega)]
          congr 1; omega
  rw [hu]
  unfold row8
  simp only [List.map_append, List.map_take, List.map_drop, List.length_map]
  congr 1
  rw [List.take_append_of_le_length (by simp; omega), List.drop_append_of_le_length (by simp; omega)]
  simp [List.append_assoc]

end Go.Proofs.Ytcecgbjpmegljaa
