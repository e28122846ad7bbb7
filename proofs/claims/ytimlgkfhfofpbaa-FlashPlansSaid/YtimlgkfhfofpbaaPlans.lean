/- FlashPlans: the walk: just so many operations go well, whichever they are. No condition. -/
import Derived.Test.YtimlgkfhfofpbaaFlJ
namespace Go.Proofs.Ytimlgkfhfofpbaa
open Go.RowKit

/-- A slice of integers that came in. -/
def RowOf (k : IntKind) (w : World) (a : Option Addr) (len cap : Nat) (zs : List Int) : Prop :=
  (a = none ∧ len = 0 ∧ cap = 0 ∧ zs = []) ∨
  ∃ x, a = some x ∧ len ≤ cap ∧ cap ≤ maxLen ∧ zs.length = cap ∧ (∀ i, i < zs.length → w.cell? (x.add i) = some (.int k (zs.getD i 0))) ∧ ∀ n ∈ zs, (Lit.int k n).wf = true

/-- Behind i operations, op of which go well. -/
structure PInv (op i : Int) (s : Fl) : Prop where
  len : s.b.length = 512
  st : (i ≤ op ∧ s.dead = false ∧ s.op = op - i) ∨ (op < i ∧ s.dead = true)

theorem PInv.step {op i : Int} {s s' : Fl} (h : PInv op i s) (hl : s'.b.length = s.b.length) (hs : s.dead = false → s'.dead = s.step.dead ∧ s'.op = s.step.op) (hd : s.dead = true → s'.dead = true) : PInv op (i + 1) s' := by
  refine ⟨hl.trans h.len, ?_⟩
  rcases h.st with ⟨h1, h2, h3⟩ | ⟨h1, h2⟩
  · obtain ⟨e1, e2⟩ := hs h2
    rw [e1, e2]
    unfold Fl.step
    by_cases h0 : s.op = 0
    · rw [if_pos h0]
      right
      exact ⟨by omega, rfl⟩
    · rw [if_neg h0]
      left
      refine ⟨by omega, h2, ?_⟩
      show max (-1) (s.op - 1) = _
      omega
  · exact .inr ⟨by omega, hd h2⟩
theorem PInv.ok {op i : Int} {s : Fl} (h : PInv op i s) : (!s.dead && s.goes) = decide (i < op) := by
  rcases h.st with ⟨h1, h2, h3⟩ | ⟨h1, h2⟩
  · rw [h2]
    unfold Fl.goes
    rw [h3, Bool.eq_iff_iff]
    simp
    omega
  · rw [h2]
    simp
    omega
theorem PInv.erase {op i : Int} {s : Fl} (h : PInv op i s) : s.eraseOk 1 = decide (i < op) ∧ PInv op (i + 1) (s.erase 1) := by
  have he : s.eraseIn 1 = !s.dead := by simp [Fl.eraseIn, h.len]
  refine ⟨by rw [← h.ok, Fl.eraseOk, he], h.step (Fl.erase_len _ _) ?_ ?_⟩
  · intro hd
    simp [Fl.erase, he, hd]
  · intro hd
    simp [Fl.erase, he, hd]
theorem PInv.prog {op i : Int} {s : Fl} (h : PInv op i s) (a : Int) (xs : List Int) (ha : inB 512 a xs.length = true) : s.progOk a xs.length = decide (i < op) ∧ PInv op (i + 1) (s.prog a xs) := by
  have he : s.progIn a xs.length = !s.dead := by simp [Fl.progIn, h.len, ha]
  refine ⟨by rw [← h.ok, Fl.progOk, he], h.step (Fl.prog_len _ _ _) ?_ ?_⟩
  · intro hd
    simp [Fl.prog, he, hd]
  · intro hd
    simp [Fl.prog, he, hd]
theorem PInv.turn {op i : Int} {s : Fl} (h : PInv op i s) : s.turnOk = decide (i < op) ∧ PInv op (i + 1) s.turn := by
  refine ⟨h.ok, h.step ?_ ?_ ?_⟩
  · unfold Fl.turn; split <;> simp [Fl.step_b]
  · intro hd
    simp [Fl.turn, hd]
  · intro hd
    simp [Fl.turn, hd]
theorem PInv.start (op : Int) (h : 0 ≤ op) : PInv op 0 ((Fl.new 2).plan op 0) := by
  refine ⟨by simp only [Fl.plan, Fl.new, List.length_replicate]; rfl, .inl ⟨h, rfl, ?_⟩⟩
  simp [Fl.plan]; omega
theorem PInv.dead {op n : Int} {s : Fl} (h : PInv op n s) : s.dead = decide (op < n) := by
  rcases h.st with ⟨h1, h2, h3⟩ | ⟨h1, h2⟩
  · rw [h2]; simp; omega
  · rw [h2]; simp; omega

theorem plans_early (op n : Int) (a : Option Addr) (len cap : Nat) (w : World) (h : op < 0 ∨ (0 ≤ op ∧ 60 < op) ∨ (0 ≤ op ∧ op ≤ 60 ∧ n < 0) ∨ (0 ≤ op ∧ op ≤ 60 ∧ 0 ≤ n ∧ 60 < n) ∨ (0 ≤ op ∧ op ≤ 60 ∧ 0 ≤ n ∧ n ≤ 60 ∧ (len : Int) < n)) :
    Calls Try.prog 9 #[.int .i64 op, .int .i64 n, .slice a len cap] w fun e w' => e = .returned (.bool true) ∧ Below w.heap.size w w' := by
  rcases h with h1 | ⟨h1, h2⟩ | ⟨h1, h2, h3⟩ | ⟨h1, h2, h3, h4⟩ | ⟨h1, h2, h3, h4, h5⟩
  all_goals
    go_enter Try.func9, Try.ntmps9
    go_wp2_with (go_at_call 29; refine (alive19_any w).mono ?_; rintro e w' ⟨rfl, hb⟩)
    go_ret
    exact ⟨rfl, hb⟩

set_option maxRecDepth 100000 in
set_option maxHeartbeats 1000000 in
theorem plans_go (op : Int) (n : Nat) (a : Option Addr) (len cap : Nat) (zs : List Int) (w : World) (h0 : 0 ≤ op) (h1 : op ≤ 60) (h2 : n ≤ 60) (h3 : n ≤ len) (hz : len ≤ zs.length)
    (hcells : 0 < n → ∃ x, a = some x ∧ ∀ i, i < zs.length → w.cell? (x.add i) = some (.int .i64 (zs.getD i 0))) :
    Calls Try.prog 9 #[.int .i64 op, .int .i64 n, .slice a len cap] w fun e w' => e = .returned (.bool true) ∧ Below w.heap.size w w' := by
  have hm : max (-1) op = op := by omega
  have HNEW := Lib.hid (fun w => new_any 2 w)
  obtain ⟨s0, e0⟩ : ∃ s, s = Fl.new 2 := ⟨_, rfl⟩
  have hst := PInv.start op h0
  rw [← e0] at hst HNEW
  have HST := Lib.hid hst
  have hlen : (n : Int) ≤ (len : Int) := by omega
  clear e0 hst hm
  go_enter Try.func9, Try.ntmps9
  go_wp2_with (first | (go_at_call 29; refine (alive19_any w).mono ?_; rintro e w1 ⟨rfl, hb1⟩) | (go_at_call 14; refine (HNEW.out _).mono ?_; rintro e w2 ⟨p, g, rfl, hf, hp, hg, hb2⟩) | (go_at_call 16; refine (plan_any p g s0 op 0 _ hf (by omega)).mono ?_; rintro e w3 ⟨rfl, hf3, hk3⟩))
  have hkw : Below w.heap.size w w3 := (hb1.trans (hb2.mono hb1.size)).trans (hk3.toBelow (Nat.le_trans hb1.size hb2.size) (fun i hi => by have := hb1.size; omega))
  have hpw : w.heap.size ≤ p := by have := hb1.size; omega
  have hgw : w.heap.size ≤ g := by have := hb1.size; omega
  have HKW := Lib.hid hkw
  clear hb1 hb2 hk3 hkw hf
  go_loopw [9] (fun i wr => ∃ (j : Nat) (s : Fl), j ≤ n ∧ i = .int .i64 j ∧ IsFl wr p g s ∧ PInv op j s ∧ Below w.heap.size w wr) (fun i _ => n - (intOf i).toNat)
  case atStart => exact ⟨0, _, Nat.zero_le _, rfl, hf3, HST.out, HKW.out⟩
  case round =>
    obtain ⟨j, s, hj, rfl, hfr, hinv, hbr⟩ := hrel
    by_cases hlt : j < n
    · obtain ⟨x, rfl, hcell⟩ := hcells (by omega)
      clear hcells
      obtain ⟨z, hzz⟩ : ∃ z, z = zs.getD j 0 := ⟨_, rfl⟩
      have hc : wr.cell? (x.add j) = some (.int .i64 z) := by
        rw [hzz]
        exact below_cell hbr (hcell j (by omega))
      clear hzz
      have hB : Below w.heap.size w (wr.alloc (.cells #[.int .u8 1] 5)) := hbr.alloc hbr.size _
      have hfB : IsFl (wr.alloc (.cells #[.int .u8 1] 5)) p g s := hfr.below ((Below.refl _ wr).alloc (Nat.le_refl _) _)
      have hcB : (wr.alloc (.cells #[.int .u8 1] 5)).cell? (x.add j) = some (.int .i64 z) := below_cell ((Below.refl _ wr).alloc (Nat.le_refl _) _) hc
      have q1 : s.eraseIn 7 = false := by simp [Fl.eraseIn, hinv.len]
      have q2 : s.progIn 9999 1 = false := by simp [Fl.progIn, hinv.len, inB]
      have q3 : s.progIn (-1) 0 = false := by simp [Fl.progIn, inB]
      have o1 := hinv.erase
      have o2 : s.progOk 3 ((1 : Nat) : Int) = decide ((j : Int) < op) ∧ PInv op (j + 1) (s.prog 3 [5]) := hinv.prog 3 [5] (by decide)
      have o3 : s.progOk 0 ((0 : Nat) : Int) = decide ((j : Int) < op) ∧ PInv op (j + 1) (s.prog 0 []) := hinv.prog 0 [] (by decide)
      have pf := prog_fresh p g s 3 5 _ hfB _ rfl _ rfl
      rw [show (wr.alloc (.cells #[.int .u8 1] 5)).heap.size = wr.heap.size + 1 by simp, o2.1] at pf
      have PF := Lib.hid pf
      have o4 := hinv.turn
      have Q1 := Lib.hid q1
      have Q2 := Lib.hid q2
      have Q3 := Lib.hid q3
      have O1 := Lib.hid o1
      have O2 := Lib.hid o2
      have O3 := Lib.hid o3
      have O4 := Lib.hid o4
      have HC := Lib.hid hc
      clear q1 q2 q3 o1 o2 o3 o4 hc pf
      go_wp2_with fail
      refine (erase_out p g s 7 wr hfr Q1.out).mono ?_
      rintro e w' ⟨rfl, rfl⟩
      go_wp2_with fail
      refine (prog_out p g s 9999 _ 1 _ _ hfB Q2.out).mono ?_
      rintro e w' ⟨rfl, rfl⟩
      go_wp2_with fail
      refine (prog_out p g s (-1) _ 0 _ _ hfB Q3.out).mono ?_
      rintro e w' ⟨rfl, rfl⟩
      go_wp2_with fail
      · refine (erase_any p g s 1 _ hfB).mono ?_
        rintro e w4 ⟨rfl, hf4, hk4, -⟩
        rw [O1.out.1]
        have hbw : Below w.heap.size w w4 := hB.trans (hk4.toBelow hB.size (by rintro i (rfl | rfl) <;> assumption))
        have HBW := Lib.hid hbw
        have HI := Lib.hid O1.out.2
        clear hbw hk4
        go_wp2
        go_roundw
        case rel => exact ⟨j + 1, _, by omega, by go_num, hf4, HI.out, HBW.out⟩
        case measure => simp [intOf]; omega
      · refine PF.out.mono ?_
        rintro e w4 ⟨rfl, hf4, hk4⟩
        have hbw : Below w.heap.size w w4 := hB.trans (hk4.toBelow hB.size (by rintro i (rfl | rfl) <;> assumption))
        have HBW := Lib.hid hbw
        have HI := Lib.hid O2.out.2
        clear hbw hk4
        go_wp2
        go_roundw
        case rel => exact ⟨j + 1, _, by omega, by go_num, hf4, HI.out, HBW.out⟩
        case measure => simp [intOf]; omega
      · refine (prog_any p g s 0 none 0 0 [] _ hfB ⟨rfl, fun i hi => absurd hi (by omega)⟩ (by intro a ha; cases ha) (by omega) (by simp)).mono ?_
        rintro e w4 ⟨rfl, hf4, hk4, -⟩
        rw [O3.out.1]
        have hbw : Below w.heap.size w w4 := hB.trans (hk4.toBelow hB.size (by rintro i (rfl | rfl) <;> assumption))
        have HBW := Lib.hid hbw
        have HI := Lib.hid O3.out.2
        clear hbw hk4
        go_wp2
        go_roundw
        case rel => exact ⟨j + 1, _, by omega, by go_num, hf4, HI.out, HBW.out⟩
        case measure => simp [intOf]; omega
      · refine (turn_any p g s _ hfB).mono ?_
        rintro e w4 ⟨rfl, hf4, hk4, -⟩
        rw [O4.out.1]
        have hbw : Below w.heap.size w w4 := hB.trans (hk4.toBelow hB.size (by rintro i rfl; assumption))
        have HBW := Lib.hid hbw
        have HI := Lib.hid O4.out.2
        clear hbw hk4
        go_wp2
        go_roundw
        case rel => exact ⟨j + 1, _, by omega, by go_num, hf4, HI.out, HBW.out⟩
        case measure => simp [intOf]; omega
    · obtain rfl : j = n := by omega
      have hd := hinv.dead
      have hda := dead_any p g s wr hfr
      rw [hd] at hda
      have HDA := Lib.hid hda
      clear hd hda
      go_wp2_with (go_at_call 37; refine HDA.out.mono ?_; rintro e w' ⟨rfl, rfl⟩)
      go_ret
      exact ⟨ret_bool (by simp), hbr⟩

/-- FlashPlans, at every input. -/
theorem plans_any (op n : Int) (a : Option Addr) (len cap : Nat) (zs : List Int) (w : World) (h : RowOf .i64 w a len cap zs) :
    Calls Try.prog 9 #[.int .i64 op, .int .i64 n, .slice a len cap] w fun e w' => e = .returned (.bool true) ∧ Below w.heap.size w w' := by
  by_cases he : op < 0 ∨ (0 ≤ op ∧ 60 < op) ∨ (0 ≤ op ∧ op ≤ 60 ∧ n < 0) ∨ (0 ≤ op ∧ op ≤ 60 ∧ 0 ≤ n ∧ 60 < n) ∨ (0 ≤ op ∧ op ≤ 60 ∧ 0 ≤ n ∧ n ≤ 60 ∧ (len : Int) < n)
  · exact plans_early op n a len cap w he
  · obtain ⟨n', rfl⟩ := Int.eq_ofNat_of_zero_le (show 0 ≤ n by omega)
    rcases h with ⟨rfl, rfl, rfl, rfl⟩ | ⟨x, rfl, h1, h2, h3, h4, _⟩
    · exact plans_go op n' none 0 0 [] w (by omega) (by omega) (by omega) (by omega) (by simp) (fun h => by omega)
    · exact plans_go op n' (some x) len cap zs w (by omega) (by omega) (by omega) (by omega) (by omega) (fun _ => ⟨x, rfl, h4⟩)

end Go.Proofs.Ytimlgkfhfofpbaa
