/- VerityApart: the walk: each block of each slot has a place of its own. No condition. -/
import Derived.Test.YtimlgkfhfofpbaaVerB
namespace Go.Proofs.Ytimlgkfhfofpbaa
open Go.RowKit

set_option maxRecDepth 100000 in
set_option maxHeartbeats 3000000 in
theorem apart_early (s i t k : Int) (b c : Int) (w : World) (h : s < 0 ∨ (0 ≤ s ∧ 1 < s) ∨ (0 ≤ s ∧ s ≤ 1 ∧ t < 0) ∨ (0 ≤ s ∧ s ≤ 1 ∧ 0 ≤ t ∧ 1 < t) ∨ (0 ≤ s ∧ s ≤ 1 ∧ 0 ≤ t ∧ t ≤ 1 ∧ i < 0) ∨ (0 ≤ s ∧ s ≤ 1 ∧ 0 ≤ t ∧ t ≤ 1 ∧ 0 ≤ i ∧ 31 < i) ∨
    (0 ≤ s ∧ s ≤ 1 ∧ 0 ≤ t ∧ t ≤ 1 ∧ 0 ≤ i ∧ i ≤ 31 ∧ k < 0) ∨ (0 ≤ s ∧ s ≤ 1 ∧ 0 ≤ t ∧ t ≤ 1 ∧ 0 ≤ i ∧ i ≤ 31 ∧ 0 ≤ k ∧ 31 < k)) :
    Calls Try.prog 11 #[.int .i64 s, .int .i64 i, .int .i64 t, .int .i64 k, .int .u8 b, .int .u8 c] w fun e w' => e = .returned (.bool true) ∧ Below w.heap.size w w' := by
  rcases h with h1 | ⟨h1, h2⟩ | ⟨h1, h2, h3⟩ | ⟨h1, h2, h3, h4⟩ | ⟨h1, h2, h3, h4, h5⟩ | ⟨h1, h2, h3, h4, h5, h6⟩ | ⟨h1, h2, h3, h4, h5, h6, h7⟩ | ⟨h1, h2, h3, h4, h5, h6, h7, h8⟩
  all_goals
    go_enter Try.func11, Try.ntmps11
    go_wp2_with (go_at_call 38; refine (alive25_any w).mono ?_; rintro e w' ⟨rfl, hb⟩)
    go_ret
    exact ⟨rfl, hb⟩

set_option maxRecDepth 100000 in
theorem apart_same (s i : Int) (b c : Int) (w : World) (h1 : 0 ≤ s) (h2 : s ≤ 1) (h3 : 0 ≤ i) (h4 : i ≤ 31) :
    Calls Try.prog 11 #[.int .i64 s, .int .i64 i, .int .i64 s, .int .i64 i, .int .u8 b, .int .u8 c] w fun e w' => e = .returned (.bool true) ∧ Below w.heap.size w w' := by
  go_enter Try.func11, Try.ntmps11
  go_wp2_with (go_at_call 38; refine (alive25_any w).mono ?_; rintro e w' ⟨rfl, hb⟩)
  go_ret
  exact ⟨rfl, hb⟩

def fill (j : Nat) (x : Int) : List Int := upd (zeros 80) 0 j (fun _ _ => x)
theorem fill_len (j : Nat) (x : Int) : (fill j x).length = 80 := by simp [fill, upd_length, zeros_len]
theorem fill_mem (j : Nat) (x : Int) (h : 0 ≤ x ∧ x ≤ 255) : ∀ y ∈ fill j x, 0 ≤ y ∧ y ≤ 255 := upd_mem _ _ _ _ (zeros_mem 80) (fun _ _ _ => h)
theorem fill_zero (x : Int) : fill 0 x = zeros 80 := upd_zero _ _ _
theorem fill_succ (j : Nat) (x : Int) (h : j < 80) : fill (j + 1) x = (fill j x).set j x := by
  unfold fill
  rw [upd_succ _ _ _ _ (by rw [zeros_len]; omega)]
  simp
theorem fill_get (x : Int) (i : Nat) (h : i < 80) : (fill 80 x).getD i 0 = x := by
  unfold fill
  rw [upd_getD _ _ _ _ _ (by rw [zeros_len]; exact h), if_pos (by omega)]

/-- What stands in the two places behind the two writes. -/
theorem apart_facts {s0 : Fl} (h0 : Calm s0 32768) (F K : Nat) (hF : F < 128) (hK : K < 128) (hne : F ≠ K) (xs ys : List Int) (hx : xs.length = 80) (hy : ys.length = 80) (mx : ∀ x ∈ xs, 0 ≤ x ∧ x ≤ 255) (my : ∀ x ∈ ys, 0 ≤ x ∧ x ≤ 255) :
    (∀ j, j < 80 → ((((s0.erase F).prog ((F * 256 : Nat) : Int) xs).erase K).prog ((K * 256 : Nat) : Int) ys).b.getD (256 * F + j) 0 = xs.getD j 0) ∧
    (∀ j, j < 80 → ((((s0.erase F).prog ((F * 256 : Nat) : Int) xs).erase K).prog ((K * 256 : Nat) : Int) ys).b.getD (256 * K + j) 0 = ys.getD j 0) := by
  have hA : Calm ((s0.erase F).prog ((F * 256 : Nat) : Int) xs) 32768 := (h0.erase _).prog _ _
  refine ⟨fun j hj => ?_, fun j hj => ?_⟩
  · rw [hA.write_get K ys hy my (by omega) _ (by omega), if_neg (by omega), if_neg (by omega), h0.write_get F xs hx mx (by omega) _ (by omega), if_pos (by omega)]
    congr 1
    omega
  · rw [hA.write_get K ys hy my (by omega) _ (by omega), if_pos (by omega)]
    congr 1
    omega

set_option maxRecDepth 100000 in
set_option maxHeartbeats 3000000 in
theorem apart_go (s i t k : Nat) (b c : Int) (w : World) (hs : s ≤ 1) (ht : t ≤ 1) (hi : i ≤ 31) (hk : k ≤ 31) (hne : ¬ (s = t ∧ i = k)) (hb : 0 ≤ b ∧ b ≤ 255) (hc : 0 ≤ c ∧ c ≤ 255)
    (tst : (((s : Int) == (t : Int)) = false ∧ (s == t) = false) ∨ (s = t ∧ ((i : Int) == (k : Int)) = false ∧ (i == k) = false)) :
    Calls Try.prog 11 #[.int .i64 s, .int .i64 i, .int .i64 t, .int .i64 k, .int .u8 b, .int .u8 c] w fun e w' => e = .returned (.bool true) ∧ Below w.heap.size w w' := by
  have hnew := fun w => new_any 128 w
  obtain ⟨s0, e0⟩ : ∃ s, s = Fl.new 128 := ⟨_, rfl⟩
  have hk0 : Calm s0 32768 := by rw [e0]; exact Calm.new 128 32768 rfl
  rw [← e0] at hnew
  have hv := fun w p g (h : IsFl w p g s0) => vnew_yes p g s0 s w h (by rw [hk0.len]; decide) (by omega) (by omega)
  have hu := fun w p g (h : IsFl w p g s0) => vnew_yes p g s0 t w h (by rw [hk0.len]; decide) (by omega) (by omega)
  have hmk : ∀ w : World, (Instr.makeSlice 49 (.int .i64 80) (.int .i64 80)).run Try.prog w = .ok (.slice (some ⟨w.heap.size, 0, none⟩) 80 80) (w.alloc (.cells (row8 (zeros 80) []) 5)) := fun w => mk8 80 (by omega) w
  have h80 : fill 0 b = zeros 80 ∧ fill 0 c = zeros 80 := ⟨fill_zero b, fill_zero c⟩
  obtain ⟨xs, exs⟩ : ∃ x, x = fill 80 b := ⟨_, rfl⟩
  obtain ⟨ys, eys⟩ : ∃ x, x = fill 80 c := ⟨_, rfl⟩
  have lx : xs.length = 80 := by rw [exs]; exact fill_len _ _
  have ly : ys.length = 80 := by rw [eys]; exact fill_len _ _
  have mx : ∀ x ∈ xs, 0 ≤ x ∧ x ≤ 255 := by rw [exs]; exact fill_mem _ _ hb
  have my : ∀ x ∈ ys, 0 ≤ x ∧ x ≤ 255 := by rw [eys]; exact fill_mem _ _ hc
  obtain ⟨fx, fy⟩ := apart_facts hk0 (64 + s * 32 + i) (64 + t * 32 + k) (by omega) (by omega) (by omega) xs ys lx ly mx my
  obtain ⟨s1, e1⟩ : ∃ z, z = (s0.erase ((64 + s * 32 + i : Nat) : Int)).prog (((64 + s * 32 + i) * 256 : Nat) : Int) xs := ⟨_, rfl⟩
  have hk1 : Calm s1 32768 := by rw [e1]; exact (hk0.erase _).prog _ _
  rw [← e1] at fx fy
  obtain ⟨s2, e2⟩ : ∃ z, z = (s1.erase ((64 + t * 32 + k : Nat) : Int)).prog (((64 + t * 32 + k) * 256 : Nat) : Int) ys := ⟨_, rfl⟩
  have hk2 : Calm s2 32768 := by rw [e2]; exact (hk1.erase _).prog _ _
  rw [← e2] at fx fy
  have hw1 := fun w q p g bl (h : IsFl w p g s0) (ha : IsAr w q p (64 + (s : Int) * 32)) (hb : w.heap[bl]? = some (.cells (row8 xs []) 5 (0, 0))) (h1 : bl ≠ p) (h2 : bl ≠ g) (h3 : q ≠ p) (h4 : q ≠ g) =>
    write_calm q p g 32768 s0 (64 + (s : Int) * 32) i bl 80 xs [] w h hk0 ha hb h1 h2 h3 h4 lx (by omega) (by omega) (by omega) (by omega) (by omega) (by omega)
  have n1 : (64 + (s : Int) * 32 + (i : Int)) = ((64 + s * 32 + i : Nat) : Int) := by omega
  have n1' : (64 + (s : Int) * 32 + (i : Int)) * 256 = (((64 + s * 32 + i) * 256 : Nat) : Int) := by omega
  rw [n1', n1, ← e1] at hw1
  have hw2 := fun w q p g bl (h : IsFl w p g s1) (ha : IsAr w q p (64 + (t : Int) * 32)) (hb : w.heap[bl]? = some (.cells (row8 ys []) 5 (0, 0))) (h1 : bl ≠ p) (h2 : bl ≠ g) (h3 : q ≠ p) (h4 : q ≠ g) =>
    write_calm q p g 32768 s1 (64 + (t : Int) * 32) k bl 80 ys [] w h hk1 ha hb h1 h2 h3 h4 ly (by omega) (by omega) (by omega) (by omega) (by omega) (by omega)
  have n2 : (64 + (t : Int) * 32 + (k : Int)) = ((64 + t * 32 + k : Nat) : Int) := by omega
  have n2' : (64 + (t : Int) * 32 + (k : Int)) * 256 = (((64 + t * 32 + k) * 256 : Nat) : Int) := by omega
  rw [n2', n2, ← e2] at hw2
  have hr1 := fun w q p g (h : IsFl w p g s2) (ha : IsAr w q p (64 + (s : Int) * 32)) => raw_bytes q p g s2 32768 (64 + s * 32 + i) (64 + (s : Int) * 32) i xs w h hk2 ha (by omega) (by omega) (by omega) (by omega) (by omega) (by omega) lx fx
  have hr2 := fun w q p g (h : IsFl w p g s2) (ha : IsAr w q p (64 + (t : Int) * 32)) => raw_bytes q p g s2 32768 (64 + t * 32 + k) (64 + (t : Int) * 32) k ys w h hk2 ha (by omega) (by omega) (by omega) (by omega) (by omega) (by omega) ly fy
  have hr3 := fun q (w : World) => raw_out q 32 w (by omega)
  have hrd : ∀ w p g, IsFl w p g s2 → Calls Try.prog 31 #[.pointer (some ⟨p, 0, none⟩), .int .i64 (256 * (64 + 32 * (s : Int) + (i : Int))), .int .i64 80] w fun e w' =>
      ∃ v, e = .returned (.tuple #[v, .bool true]) ∧ Owns w' w.heap.size v xs ∧ Below w.heap.size w w' := by
    intro w p g h
    have hok : s2.readOk (256 * (64 + 32 * (s : Int) + (i : Int))) 80 = true := by rw [hk2.readOk]; exact inB_iff.2 (by omega)
    have hq : s2.read (256 * (64 + 32 * (s : Int) + (i : Int))) 80 = xs := by
      have e : (256 * (64 + 32 * (s : Int) + (i : Int))) = ((256 * (64 + s * 32 + i) : Nat) : Int) := by omega
      rw [e]
      exact read_eq hk2.len _ 80 (by omega) xs lx fx
    refine (read_any p g s2 _ 80 w h).mono ?_
    rintro e w' ⟨v, he, ho, -, hb⟩
    rw [hok] at he ho
    rw [hq] at ho
    exact ⟨v, he, ho rfl, hb⟩
  have HNEW := Lib.hid hnew
  have HV := Lib.hid hv
  have HU := Lib.hid hu
  have HW1 := Lib.hid hw1
  have HW2 := Lib.hid hw2
  have HR1 := Lib.hid hr1
  have HR2 := Lib.hid hr2
  have HR3 := Lib.hid hr3
  have HRD := Lib.hid hrd
  have H80 := Lib.hid h80
  have EXS := Lib.hid exs
  have EYS := Lib.hid eys
  have LX := Lib.hid lx
  have LY := Lib.hid ly
  have TST := Lib.hid tst
  have d1 : (s : Int) ≤ 1 := by omega
  have d2 : (t : Int) ≤ 1 := by omega
  have d3 : (i : Int) ≤ 31 := by omega
  have d4 : (k : Int) ≤ 31 := by omega
  clear e0 e1 e2 exs eys n1 n1' n2 n2' hk0 hk1 hk2 hnew hv hu hw1 hw2 hr1 hr2 hr3 hrd h80 fx fy mx my lx ly tst
  rcases TST.out with ⟨tf, tg⟩ | ⟨rfl, tf, tg⟩
  all_goals clear TST hne
  all_goals
    go_enter Try.func11, Try.ntmps11
    go_wp2_with fail
    refine (alive25_any w).mono ?_
    rintro e wa ⟨rfl, hba⟩
    go_wp2_with fail
    refine (HNEW.out wa).mono ?_
    rintro e w1 ⟨p, g, rfl, hf1, hp, hg, hb1⟩
    go_wp2_with fail
    refine (HV.out w1 p g hf1).mono ?_
    rintro e w2 ⟨rfl, ha2, hb2⟩
    have hf2 := hf1.below hb2
    go_wp2_with fail
    refine (HU.out w2 p g hf2).mono ?_
    rintro e w3 ⟨rfl, hu3, hb3⟩
    have hf3 := hf2.below hb3
    have ha3 := ha2.below hb3
    have hpg := hf1.lt
    have z1 := hba.size
    have z2 := hb1.size
    have z3 := hb2.size
    have z4 := hb3.size
    have q3 := blk_lt ha3
    have q4 := blk_lt hu3
    clear hf1 hf2 ha2
    go_wp2_with fail
    have za : ((w3.alloc (.cells (row8 (zeros 80) []) 5)).alloc (.cells (row8 (zeros 80) []) 5)).heap[w3.heap.size]? = some (.cells (row8 (fill 0 b) []) 5 (0, 0)) := by rw [H80.out.1]; exact blk_alloc (blk_new w3 _) _
    have zb : ((w3.alloc (.cells (row8 (zeros 80) []) 5)).alloc (.cells (row8 (zeros 80) []) 5)).heap[w3.heap.size + 1]? = some (.cells (row8 (fill 0 c) []) 5 (0, 0)) := by
      rw [H80.out.2]
      have := blk_new (w3.alloc (.cells (row8 (zeros 80) []) 5)) (.cells (row8 (zeros 80) []) 5)
      rwa [show (w3.alloc (.cells (row8 (zeros 80) []) 5)).heap.size = w3.heap.size + 1 by simp] at this
    have zk : Kept (fun x => x = w3.heap.size ∨ x = w3.heap.size + 1) w3 ((w3.alloc (.cells (row8 (zeros 80) []) 5)).alloc (.cells (row8 (zeros 80) []) 5)) := ((Kept.refl _ w3).alloc _).alloc _
    have ZA := Lib.hid za
    have ZB := Lib.hid zb
    have ZK := Lib.hid zk
    clear za zb zk
    go_loopw [21] (fun x wr => ∃ j : Nat, j ≤ 80 ∧ x = .int .i64 j ∧ wr.heap[w3.heap.size]? = some (.cells (row8 (fill j b) []) 5 (0, 0)) ∧ wr.heap[w3.heap.size + 1]? = some (.cells (row8 (fill j c) []) 5 (0, 0)) ∧ Kept (fun x => x = w3.heap.size ∨ x = w3.heap.size + 1) w3 wr) (fun x _ => 80 - (intOf x).toNat)
    case atStart => exact ⟨0, by omega, rfl, ZA.out, ZB.out, ZK.out⟩
    case round =>
      obtain ⟨j, hj, rfl, ra, rb, rk⟩ := hrel
      by_cases hlt : j < 80
      · have ca : wr.cell? ⟨w3.heap.size, j, none⟩ = some (.int .u8 ((fill j b).getD j 0)) := by rw [cell_blk ra, row8_get _ _ _ (by rw [fill_len]; exact hlt)]
        have fa : wr.frozen? ⟨w3.heap.size, j, none⟩ = false := free_blk ra _
        have cb0 : wr.cell? ⟨w3.heap.size + 1, j, none⟩ = some (.int .u8 ((fill j c).getD j 0)) := by rw [cell_blk rb, row8_get _ _ _ (by rw [fill_len]; exact hlt)]
        have fb : wr.frozen? ⟨w3.heap.size + 1, j, none⟩ = false := free_blk rb _
        generalize (fill j b).getD j 0 = ua at ca
        generalize (fill j c).getD j 0 = ub at cb0
        have RA := Lib.hid ra
        have RB := Lib.hid rb
        have RK := Lib.hid rk
        clear ra rb rk
        go_wp2
        go_roundw
        case rel =>
          refine ⟨j + 1, by omega, by go_num, ?_, ?_, ?_⟩
          · refine blk_setCell_ne ?_ _ (by omega)
            rw [blk_setCell RA.out, row8_set _ _ _ (by rw [fill_len]; exact hlt), fill_succ _ _ hlt]
          · rw [blk_setCell (blk_setCell_ne RB.out _ (by omega)), row8_set _ _ _ (by rw [fill_len]; exact hlt), fill_succ _ _ hlt]
          · exact (RK.out.setCell (p := ⟨w3.heap.size, j, none⟩) (.inl (.inl rfl)) _).setCell (p := ⟨w3.heap.size + 1, j, none⟩) (.inl (.inr rfl)) _
        case measure => simp [intOf]; omega
      · obtain rfl : j = 80 := by omega
        rw [← EXS.out] at ra
        rw [← EYS.out] at rb
        have hfr := hf3.kept rk (by rintro (e | e) <;> omega) (by rintro (e | e) <;> omega)
        have har := ha3.kept rk (by rintro (e | e) <;> omega)
        have hur := hu3.kept rk (by rintro (e | e) <;> omega)
        have rsz := rk.size
        have hkb : Below w3.heap.size w3 wr := rk.toBelow (Nat.le_refl _) (by rintro x (e | e) <;> omega)
        clear hf3 ha3 hu3 rk
        go_wp2_with fail
        refine (HW1.out wr _ p g _ hfr har ra (by omega) (by omega) (by omega) (by omega)).mono ?_
        rintro e w4 ⟨rfl, hf4, hk4⟩
        have ha4 := har.kept hk4 (by rintro (e | e) <;> omega)
        have hu4 := hur.kept hk4 (by rintro (e | e) <;> omega)
        have ra4 := hk4.blk ra (by rintro (e | e) <;> omega)
        have rb4 := hk4.blk rb (by rintro (e | e) <;> omega)
        clear hfr har hur ra rb
        go_wp2_with fail
        refine (HW2.out w4 _ p g _ hf4 hu4 rb4 (by omega) (by omega) (by omega) (by omega)).mono ?_
        rintro e w5 ⟨rfl, hf5, hk5⟩
        have ha5 := ha4.kept hk5 (by rintro (e | e) <;> omega)
        have hu5 := hu4.kept hk5 (by rintro (e | e) <;> omega)
        have ra5 := hk5.blk ra4 (by rintro (e | e) <;> omega)
        have rb5 := hk5.blk rb4 (by rintro (e | e) <;> omega)
        clear hf4 ha4 hu4 ra4 rb4
        go_wp2_with fail
        refine (HR1.out w5 _ p g hf5 ha5).mono ?_
        rintro e w6 ⟨v6, rfl, ho6, hb6⟩
        have hf6 := hf5.below hb6
        have hu6 := hu5.below hb6
        have ra6 := Below.blk hb6 ra5 (blk_lt ra5)
        have rb6 := Below.blk hb6 rb5 (blk_lt rb5)
        clear hf5 ha5 hu5 ra5 rb5
        go_wp2_with fail
        refine (HR2.out w6 _ p g hf6 hu6).mono ?_
        rintro e w7 ⟨v7, rfl, ho7, hb7⟩
        have hf7 := hf6.below hb7
        have ra7 := Below.blk hb7 ra6 (blk_lt ra6)
        have rb7 := Below.blk hb7 rb6 (blk_lt rb6)
        have ho67 := ho6.kept (T := fun _ => False) (Kept.of_below hb7) (fun _ _ _ => id)
        clear hf6 hu6 ra6 rb6 ho6
        go_wp2_with fail
        refine (HR3.out _ w7).mono ?_
        rintro e w' ⟨rfl, rfl⟩
        go_wp2_with fail
        refine (HRD.out w7 p g hf7).mono ?_
        rintro e w8 ⟨v8, rfl, ho8, hb8⟩
        have ra8 := Below.blk hb8 ra7 (blk_lt ra7)
        have rb8 := Below.blk hb8 rb7 (blk_lt rb7)
        have s6 := (ho67.kept (T := fun _ => False) (Kept.of_below hb8) (fun _ _ _ => id)).str
        have s7 := (ho7.kept (T := fun _ => False) (Kept.of_below hb8) (fun _ _ _ => id)).str
        have s8 := ho8.str
        have t1 : ∀ n c', n = 80 → (convert 49 9 (.slice (some ⟨w3.heap.size, 0, none⟩) n c')).run Try.prog w8 = .ok (.string (strOfNums xs)) w8 := by
          rintro n c' rfl
          refine run_convert_bytes_arg w8 49 5 Try.underlying49 Try.underlying5 _ 0 _ _ xs LX.out (fun i hi => ?_) 9 Try.underlying9
          rw [Nat.zero_add, cell_blk ra8, row8_get _ _ _ (by rw [LX.out]; exact hi)]
        have t2 : ∀ n c', n = 80 → (convert 49 9 (.slice (some ⟨w3.heap.size + 1, 0, none⟩) n c')).run Try.prog w8 = .ok (.string (strOfNums ys)) w8 := by
          rintro n c' rfl
          refine run_convert_bytes_arg w8 49 5 Try.underlying49 Try.underlying5 _ 0 _ _ ys LY.out (fun i hi => ?_) 9 Try.underlying9
          rw [Nat.zero_add, cell_blk rb8, row8_get _ _ _ (by rw [LY.out]; exact hi)]
        have t1' := t1 80 80 rfl
        have t2' := t2 80 80 rfl
        have y4 := hk4.size
        have y5 := hk5.size
        have y6 := hb6.size
        have y7 := hb7.size
        have y8 := hb8.size
        have two : ∀ x, (x = p ∨ x = g) → w.heap.size ≤ x := by rintro x (e | e) <;> omega
        have hfin : Below w.heap.size w w8 := ((((((((hba.trans (hb1.mono (by omega))).trans (hb2.mono (by omega))).trans (hb3.mono (by omega))).trans (hkb.mono (by omega))).trans (hk4.toBelow (by omega) two)).trans (hk5.toBelow (by omega) two)).trans (hb6.mono (by omega))).trans (hb7.mono (by omega))).trans (hb8.mono (by omega))
        have HFIN := Lib.hid hfin
        clear t1 t2 ho67 ho7 ho8 ra8 rb8 ra7 rb7 hf7 hfin two
        go_wp2_with (go_at_call 40; refine (num25_any _ _).mono ?_; rintro e w' ⟨rfl, rfl⟩)
        go_ret
        exact ⟨rfl, HFIN.out⟩

set_option maxHeartbeats 2000000 in
/-- VerityApart, at every input. -/
theorem apart_any (s i t k b c : Int) (w : World) (hb : 0 ≤ b ∧ b ≤ 255) (hc : 0 ≤ c ∧ c ≤ 255) :
    Calls Try.prog 11 #[.int .i64 s, .int .i64 i, .int .i64 t, .int .i64 k, .int .u8 b, .int .u8 c] w fun e w' => e = .returned (.bool true) ∧ Below w.heap.size w w' := by
  by_cases he : s < 0 ∨ (0 ≤ s ∧ 1 < s) ∨ (0 ≤ s ∧ s ≤ 1 ∧ t < 0) ∨ (0 ≤ s ∧ s ≤ 1 ∧ 0 ≤ t ∧ 1 < t) ∨ (0 ≤ s ∧ s ≤ 1 ∧ 0 ≤ t ∧ t ≤ 1 ∧ i < 0) ∨ (0 ≤ s ∧ s ≤ 1 ∧ 0 ≤ t ∧ t ≤ 1 ∧ 0 ≤ i ∧ 31 < i) ∨
    (0 ≤ s ∧ s ≤ 1 ∧ 0 ≤ t ∧ t ≤ 1 ∧ 0 ≤ i ∧ i ≤ 31 ∧ k < 0) ∨ (0 ≤ s ∧ s ≤ 1 ∧ 0 ≤ t ∧ t ≤ 1 ∧ 0 ≤ i ∧ i ≤ 31 ∧ 0 ≤ k ∧ 31 < k)
  · exact apart_early s i t k b c w he
  · obtain ⟨s', rfl⟩ := Int.eq_ofNat_of_zero_le (show 0 ≤ s by omega)
    obtain ⟨t', rfl⟩ := Int.eq_ofNat_of_zero_le (show 0 ≤ t by omega)
    obtain ⟨i', rfl⟩ := Int.eq_ofNat_of_zero_le (show 0 ≤ i by omega)
    obtain ⟨k', rfl⟩ := Int.eq_ofNat_of_zero_le (show 0 ≤ k by omega)
    have g1 : s' ≤ 1 := by omega
    have g2 : t' ≤ 1 := by omega
    have g3 : i' ≤ 31 := by omega
    have g4 : k' ≤ 31 := by omega
    clear he
    by_cases hst : s' = t'
    · subst hst
      by_cases hik : i' = k'
      · subst hik
        exact apart_same s' i' b c w (by omega) (by omega) (by omega) (by omega)
      · exact apart_go s' i' s' k' b c w g1 g1 g3 g4 (fun h => hik h.2) hb hc (.inr ⟨rfl, by rw [beq_eq_false_iff_ne]; omega, by rw [beq_eq_false_iff_ne]; omega⟩)
    · exact apart_go s' i' t' k' b c w g1 g2 g3 g4 (fun h => hst h.1) hb hc (.inl ⟨by rw [beq_eq_false_iff_ne]; omega, by rw [beq_eq_false_iff_ne]; omega⟩)

end Go.Proofs.Ytimlgkfhfofpbaa
