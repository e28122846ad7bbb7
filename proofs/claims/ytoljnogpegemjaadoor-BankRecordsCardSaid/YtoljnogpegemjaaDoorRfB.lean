/- portcullisref19.New, NewOTP, OTP.Step: what each answers, in the words of Fl. Condition: the counter and its flash lie there whole. -/
import Derived.Test.YtoljnogpegemjaaDoorRfA
import Derived.Test.YtoljnogpegemjaaDoorB1
namespace Go.Proofs.YtoljnogpegemjaaDoor
open Go.RowKit

/-- The document's flash while its bytes are set: the first j are. -/
structure RfMid (w wr : World) (p g N j : Nat) : Prop where
  st : wr.heap[p]? = some (.cells (rfCells g ⟨List.replicate N 255, -1, 0, false, 0, 0⟩ false 0 0) 69 (0, 0))
  row : wr.heap[g]? = some (.cells (row8 (List.replicate j 255 ++ List.replicate (N - j) 0) []) 5 (0, 0))
  below : Below w.heap.size w wr

theorem RfMid.set {w wr : World} {p g N j : Nat} (h : RfMid w wr p g N j) (hj : j < N) (hne : p ≠ g) (hg : w.heap.size ≤ g) : RfMid w (wr.setCell ⟨g, j, none⟩ (.int .u8 255)) p g N (j + 1) := by
  refine ⟨blk_setCell_ne h.st _ hne, ?_, h.below.trans (((Kept.refl (fun x => x = g) wr).at j _).toBelow h.below.size (by rintro i rfl; exact hg))⟩
  rw [blk_setCell h.row, row8_set _ _ _ (by simp; omega)]
  congr 3
  rw [List.set_append_right _ _ (by simp), List.length_replicate, Nat.sub_self]
  rw [show N - j = (N - (j + 1)) + 1 by omega, List.replicate_succ, List.set_cons_zero, List.replicate_succ', List.append_assoc]
  rfl

theorem Fl.Ok.new' (k : Nat) (h : k ≤ 1024) : (⟨List.replicate (256 * k) 255, -1, 0, false, 0, 0⟩ : Fl).Ok := by
  have := Fl.Ok.new k
  have e : Fl.new k = ⟨List.replicate (256 * k) 255, -1, 0, false, 0, 0⟩ := by
    unfold Fl.new
    rw [show (min (max 0 (k : Int)) 1024).toNat = k by omega]
  rwa [e] at this

set_option maxRecDepth 100000 in
set_option maxHeartbeats 1600000 in
theorem rnew_cap (n : Int) (k : Nat) (hk : min (max 0 n) 1024 = (k : Int)) (w : World) :
    Calls Tryd.prog 75 #[.int .i64 n] w fun e w' =>
      ∃ p g, e = .returned (.pointer (some ⟨p, 0, none⟩)) ∧ IsRf w' p g (Fl.new n) ∧ w.heap.size ≤ p ∧ w.heap.size ≤ g ∧ Below w.heap.size w w' := by
  have hk2 : k ≤ 1024 := by omega
  obtain ⟨N, hN⟩ : ∃ N, N = 256 * k := ⟨_, rfl⟩
  have hmk := fun w => mk8 N (by omega) w
  have hnew : Fl.new n = ⟨List.replicate N 255, -1, 0, false, 0, 0⟩ := by
    unfold Fl.new; rw [hk, hN]; rfl
  have hfin : ∀ wr, RfMid w wr (w.heap.size + 1) w.heap.size N N → IsRf wr (w.heap.size + 1) w.heap.size (Fl.new n) ∧ Below w.heap.size w wr := by
    intro wr h
    rw [hnew]
    refine ⟨⟨⟨false, 0, 0, h.st, .inl ⟨rfl, rfl⟩⟩, ⟨[], ?_⟩, by omega, by rw [hN]; exact Fl.Ok.new' k hk2⟩, h.below⟩
    have := h.row
    rw [Nat.sub_self, List.replicate_zero, List.append_nil] at this
    exact this
  have hstart : RfMid w ((w.alloc (.cells (row8 (zeros N) []) 5)).alloc (.cells #[.slice (some ⟨w.heap.size, 0, none⟩) N N, .bool false, .int .i64 0, .int .i64 0, .bool false, .int .i64 0, .int .i64 0] 69)) (w.heap.size + 1) w.heap.size N 0 := by
    refine ⟨?_, ?_, ((Below.refl _ w).alloc (Nat.le_refl _) _).alloc (by simp) _⟩
    · have := blk_new (w.alloc (.cells (row8 (zeros N) []) 5)) (.cells (rfCells w.heap.size ⟨List.replicate N 255, -1, 0, false, 0, 0⟩ false 0 0) 69)
      rw [show (w.alloc (.cells (row8 (zeros N) []) 5)).heap.size = w.heap.size + 1 by simp] at this
      simp only [rfCells, List.length_replicate] at this ⊢
      exact this
    · have := blk_alloc (blk_new w (.cells (row8 (zeros N) []) 5)) (.cells #[.slice (some ⟨w.heap.size, 0, none⟩) N N, .bool false, .int .i64 0, .int .i64 0, .bool false, .int .i64 0, .int .i64 0] 69)
      simpa [zeros] using this
  have hNle : N ≤ 262144 := by omega
  have hloop : ∀ wr j, RfMid w wr (w.heap.size + 1) w.heap.size N j → wr.cell? ⟨w.heap.size + 1, 0, none⟩ = some (.slice (some ⟨w.heap.size, 0, none⟩) N N) ∧ (j < N → ∃ v, wr.cell? ⟨w.heap.size, j, none⟩ = some v) ∧ wr.frozen? ⟨w.heap.size, j, none⟩ = false := by
    intro wr j h
    refine ⟨by rw [cell_blk h.st]; simp [rfCells], fun hj => ?_, free_blk h.row _⟩
    rw [cell_blk h.row, row8_get _ _ _ (by simp; omega)]
    exact ⟨_, rfl⟩
  have HFIN := Lib.hid hfin
  have HST := Lib.hid hstart
  have HLOOP := Lib.hid hloop
  clear hnew hfin hstart hloop
  rcases (show n < 0 ∨ (0 ≤ n ∧ n ≤ 1024) ∨ 1024 < n by omega) with h0 | ⟨h0, h1⟩ | h0
  · obtain rfl : k = 0 := by omega
    have hN2 : (N : Int) = 0 := by omega
    rw [hN2] at hmk
    clear hN hk
    go_enter Tryd.func75, Tryd.ntmps75
    go_wp2
    go_loopw [4] (fun i wr => ∃ j : Nat, j ≤ N ∧ i = .int .i64 j ∧ RfMid w wr (w.heap.size + 1) w.heap.size N j) (fun i _ => N - (intOf i).toNat)
    case atStart => exact ⟨0, Nat.zero_le _, rfl, HST.out⟩
    case round =>
      obtain ⟨j, hj, rfl, hm⟩ := hrel
      obtain ⟨x0, x1, x2⟩ := HLOOP.out _ _ hm
      by_cases hlt : j < N
      · exact absurd hlt (by omega)
      · obtain rfl : j = N := by omega
        have HM := Lib.hid (HFIN.out _ hm)
        clear hm x1 x2
        go_wp2
        go_ret
        exact ⟨_, _, rfl, HM.out.1, by omega, by omega, HM.out.2⟩
  · obtain rfl : n = (k : Int) := by omega
    have hN2 : (N : Int) = 256 * (k : Int) := by omega
    rw [hN2] at hmk
    clear hN hk
    go_enter Tryd.func75, Tryd.ntmps75
    go_wp2
    go_loopw [4] (fun i wr => ∃ j : Nat, j ≤ N ∧ i = .int .i64 j ∧ RfMid w wr (w.heap.size + 1) w.heap.size N j) (fun i _ => N - (intOf i).toNat)
    case atStart => exact ⟨0, Nat.zero_le _, rfl, HST.out⟩
    case round =>
      obtain ⟨j, hj, rfl, hm⟩ := hrel
      obtain ⟨x0, x1, x2⟩ := HLOOP.out _ _ hm
      by_cases hlt : j < N
      · obtain ⟨v, x1⟩ := x1 hlt
        have HM := Lib.hid (hm.set hlt (by omega) (Nat.le_refl _))
        clear hm
        go_wp2
        go_roundw
        case rel => exact ⟨j + 1, by omega, by go_num, HM.out⟩
        case measure => simp [intOf]; omega
      · obtain rfl : j = N := by omega
        have HM := Lib.hid (HFIN.out _ hm)
        clear hm x1 x2
        go_wp2
        go_ret
        exact ⟨_, _, rfl, HM.out.1, by omega, by omega, HM.out.2⟩
  · obtain rfl : k = 1024 := by omega
    have hN2 : (N : Int) = 262144 := by omega
    rw [hN2] at hmk
    clear hN hk hN2 hk2
    go_enter Tryd.func75, Tryd.ntmps75
    go_wp2
    go_loopw [4] (fun i wr => ∃ j : Nat, j ≤ N ∧ i = .int .i64 j ∧ RfMid w wr (w.heap.size + 1) w.heap.size N j) (fun i _ => N - (intOf i).toNat)
    case atStart => exact ⟨0, Nat.zero_le _, rfl, HST.out⟩
    case round =>
      obtain ⟨j, hj, rfl, hm⟩ := hrel
      obtain ⟨x0, x1, x2⟩ := HLOOP.out _ _ hm
      by_cases hlt : j < N
      · obtain ⟨v, x1⟩ := x1 hlt
        have HM := Lib.hid (hm.set hlt (by omega) (Nat.le_refl _))
        clear hm
        go_wp2
        go_roundw
        case rel => exact ⟨j + 1, by omega, by go_num, HM.out⟩
        case measure => simp [intOf]; omega
      · obtain rfl : j = N := by omega
        have HM := Lib.hid (HFIN.out _ hm)
        clear hm x1 x2
        go_wp2
        go_ret
        exact ⟨_, _, rfl, HM.out.1, by omega, by omega, HM.out.2⟩

theorem rnew_any (n : Int) (w : World) :
    Calls Tryd.prog 75 #[.int .i64 n] w fun e w' =>
      ∃ p g, e = .returned (.pointer (some ⟨p, 0, none⟩)) ∧ IsRf w' p g (Fl.new n) ∧ w.heap.size ≤ p ∧ w.heap.size ≤ g ∧ Below w.heap.size w w' :=
  rnew_cap n (min (max 0 n) 1024).toNat (by omega) w

/-- Block q is the document's counter. -/
def IsRo (w : World) (q p : Nat) (c m : Int) : Prop := w.heap[q]? = some (.cells #[.pointer (some ⟨p, 0, none⟩), .int .i64 c, .int .i64 m] 136 (0, 0))
theorem IsRo.cs {w : World} {q p : Nat} {c m : Int} (h : IsRo w q p c m) :
    w.cell? ⟨q, 0, none⟩ = some (.pointer (some ⟨p, 0, none⟩)) ∧ w.cell? ⟨q, 1, none⟩ = some (.int .i64 c) ∧ w.cell? ⟨q, 2, none⟩ = some (.int .i64 m) :=
  ⟨cell_blk h 0, cell_blk h 1, cell_blk h 2⟩
theorem IsRo.kept {T : Nat → Prop} {w w' : World} {q p : Nat} {c m : Int} (h : IsRo w q p c m) (k : Kept T w w') (hq : ¬ T q) : IsRo w' q p c m := k.blk h hq
theorem IsRo.below {w w' : World} {q p : Nat} {c m : Int} (h : IsRo w q p c m) (k : Below w.heap.size w w') : IsRo w' q p c m := Below.blk k h (blk_lt h)
theorem IsRo.drewN {w : World} {q p : Nat} {c m : Int} (h : IsRo w q p c m) (n : Nat) : IsRo (w.drewN n) q p c m := h

theorem ronew_any (p : Nat) (m : Int) (w : World) :
    Calls Tryd.prog 76 #[.pointer (some ⟨p, 0, none⟩), .int .i64 m] w fun e w' =>
      ∃ q, e = .returned (.pointer (some ⟨q, 0, none⟩)) ∧ IsRo w' q p 0 (min (max 0 m) 1048576) ∧ w.heap.size ≤ q ∧ Below w.heap.size w w' := by
  have fin : ∀ y, y = min (max 0 m) 1048576 → IsRo (w.alloc (.cells #[.pointer (some ⟨p, 0, none⟩), .int .i64 0, .int .i64 y] 136)) w.heap.size p 0 (min (max 0 m) 1048576) := by
    rintro y rfl
    exact blk_new w _
  have FIN := Lib.hid fin
  clear fin
  rcases (show m < 0 ∨ (0 ≤ m ∧ m ≤ 1048576) ∨ 1048576 < m by omega) with h0 | ⟨h0, h1⟩ | h0
  all_goals
    go_enter Tryd.func76, Tryd.ntmps76
    go_wp2
    go_ret
    exact ⟨_, rfl, FIN.out _ (by omega), Nat.le_refl _, (Below.refl _ w).alloc (Nat.le_refl _) _⟩

theorem rostep_full (q p : Nat) (c m : Int) (w : World) (h : IsRo w q p c m) (hc : c = m) :
    Calls Tryd.prog 85 #[.pointer (some ⟨q, 0, none⟩)] w fun e w' => e = .returned (.int .i64 19) ∧ ∃ n, w' = w.drewN n := by
  subst hc
  obtain ⟨c0, c1, c2⟩ := h.cs
  go_enter Tryd.func85, Tryd.ntmps85
  go_wp2
  go_quiet (fail)
  go_wp2
  go_ret
  exact ⟨rfl, _, rfl⟩

theorem rostep_no (q p g : Nat) (t : Fl) (c m : Int) (w : World) (h : IsRo w q p c m) (hf : IsRf w p g t) (hqp : q ≠ p) (hc : (c == m) = false) (ht : t.turnOk = false) :
    Calls Tryd.prog 85 #[.pointer (some ⟨q, 0, none⟩)] w fun e w' =>
      e = .returned (.int .i64 8) ∧ IsRf w' p g t.turn ∧ IsRo w' q p c m ∧ Kept (fun x => x = p ∨ x = q) w w' ∧ w'.heap.size = w.heap.size := by
  obtain ⟨c0, c1, c2⟩ := h.cs
  have htu := fun n => rturn_any p g t (w.drewN n) (hf.drewN n)
  rw [ht] at htu
  have HTU := Lib.hid htu
  clear htu ht
  go_enter Tryd.func85, Tryd.ntmps85
  go_wp2
  go_quiet (fail)
  go_wp2_with (go_at_call 115; refine (HTU.out _).mono ?_; rintro e w1 ⟨rfl, hf1, hk1, hz1⟩; have HZ1 := Lib.hid hz1; clear hz1)
  go_ret
  exact ⟨rfl, hf1, h.kept (w := w) ⟨hk1.os, hk1.tape, hk1.output, hk1.size, hk1.block⟩ hqp, (show Kept _ w w1 from ⟨hk1.os, hk1.tape, hk1.output, hk1.size, fun k a b => hk1.block k a (fun e => b (.inl e))⟩), HZ1.out⟩

theorem rostep_ok (q p g : Nat) (t : Fl) (c m : Int) (w : World) (h : IsRo w q p c m) (hf : IsRf w p g t) (hqp : q ≠ p) (hqg : q ≠ g) (hc : (c == m) = false) (ht : t.turnOk = true) (hb : 0 ≤ c ∧ c ≤ 1048576) :
    Calls Tryd.prog 85 #[.pointer (some ⟨q, 0, none⟩)] w fun e w' =>
      e = .returned (.int .i64 0) ∧ IsRf w' p g t.turn ∧ IsRo w' q p (c + 1) m ∧ Kept (fun x => x = p ∨ x = q) w w' ∧ w'.heap.size = w.heap.size := by
  obtain ⟨c0, c1, c2⟩ := h.cs
  obtain ⟨b0, b1⟩ := hb
  have htu := fun n => rturn_any p g t (w.drewN n) (hf.drewN n)
  rw [ht] at htu
  have HTU := Lib.hid htu
  clear htu ht
  go_enter Tryd.func85, Tryd.ntmps85
  go_wp2
  go_quiet (fail)
  go_wp2_with (go_at_call 115; refine (HTU.out _).mono ?_; rintro e w1 ⟨rfl, hf1, hk1, hz1⟩; have HZ1 := Lib.hid hz1; clear hz1; have ho1 : IsRo w1 q p c m := h.kept (w := w) ⟨hk1.os, hk1.tape, hk1.output, hk1.size, hk1.block⟩ hqp; have d1 := ho1.cs.2.1; have d2 : w1.frozen? ⟨q, 1, none⟩ = false := free_blk ho1 1)
  go_ret
  have hk : Kept (fun x => x = p ∨ x = q) w w1 := ⟨hk1.os, hk1.tape, hk1.output, hk1.size, fun k a b => hk1.block k a (fun e => b (.inl e))⟩
  refine ⟨rfl, ?_, ?_, hk.setCell (p := ⟨q, 1, none⟩) (.inl (.inr rfl)) _, ?_⟩
  · obtain ⟨pl, o, cc, hs0, hs1⟩ := hf1.st
    obtain ⟨sp, hs⟩ := hf1.row
    exact ⟨⟨pl, o, cc, blk_setCell_ne hs0 _ (fun e => hqp e.symm), hs1⟩, ⟨sp, blk_setCell_ne hs _ (fun e => hqg e.symm)⟩, hf1.ne, hf1.ok⟩
  · unfold IsRo
    rw [blk_setCell ho1]
    simp
  · rw [size_setCell]; exact HZ1.out

end Go.Proofs.YtoljnogpegemjaaDoor
