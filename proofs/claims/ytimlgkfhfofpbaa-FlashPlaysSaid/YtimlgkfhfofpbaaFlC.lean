/- flash.Erase, Poke: what each answers and what it makes of the flash. Condition: the flash lies there whole; what is poked lies elsewhere. -/
import Derived.Test.YtimlgkfhfofpbaaFlB
import Derived.Laws.CopyOwn
namespace Go.Proofs.Ytimlgkfhfofpbaa
open Go.RowKit

theorem erase_out (p g : Nat) (s : Fl) (k : Int) (w : World) (h : IsFl w p g s) (hi : s.eraseIn k = false) :
    Calls Try.prog 33 #[.pointer (some ⟨p, 0, none⟩), .int .i64 k] w fun e w' => e = .returned (.bool false) ∧ w = w' := by
  obtain ⟨-, -, -, c3, -, -⟩ := h.cs
  have hl := h.ok.len
  cases hd : s.dead with
  | true =>
    rw [hd] at c3
    clear hi hd
    go_enter Try.func33, Try.ntmps33
    go_wp2
    go_ret
    exact ⟨rfl, rfl⟩
  | false =>
    by_cases h0 : k < 0
    · rw [hd] at c3
      clear hi hd
      go_enter Try.func33, Try.ntmps33
      go_wp2
      go_ret
      exact ⟨rfl, rfl⟩
    · have h1 : ((s.b.length / 256 : Nat) : Int) ≤ k := by
        simp only [Fl.eraseIn, hd] at hi
        simp at hi
        omega
      rw [hd] at c3
      have h0' : 0 ≤ k := by omega
      clear hi hd h0
      go_enter Try.func33, Try.ntmps33
      go_wp2_with (go_at_call 43; refine (size_any p g s _ h).mono ?_; rintro e w' ⟨rfl, rfl⟩)
      go_ret
      exact ⟨rfl, rfl⟩

set_option maxHeartbeats 800000 in
theorem erase_in (p g : Nat) (s : Fl) (k : Nat) (w : World) (h : IsFl w p g s) (hd : s.dead = false) (hin : k < s.b.length / 256) :
    Calls Try.prog 33 #[.pointer (some ⟨p, 0, none⟩), .int .i64 k] w fun e w' =>
      e = .returned (.bool s.goes) ∧ IsFl w' p g (s.erase k) ∧ Kept (fun x => x = p ∨ x = g) w w' ∧ w'.heap.size = w.heap.size := by
  obtain ⟨-, -, -, c3, -, -⟩ := h.cs
  have hl := h.ok.len
  have hb : s.eraseIn k = true := by simp [Fl.eraseIn, hd]; omega
  obtain ⟨m, hk, hkn⟩ : ∃ m : Nat, s.opN 256 = (m : Int) ∧ m ≤ 256 := by
    refine ⟨(s.opN 256).toNat, ?_, ?_⟩ <;> (unfold Fl.opN; split <;> omega)
  have hop := fun w => op_any p g s 256 w
  rw [hk] at hop
  rw [hd] at c3
  have HB := Lib.hid hb
  have HK := Lib.hid hk
  have HOP := Lib.hid hop
  have hin2 : (k : Int) < ((s.b.length / 256 : Nat) : Int) := by omega
  have hfit : 256 * k + m ≤ s.b.length := by omega
  clear hb hd hk hop
  go_enter Try.func33, Try.ntmps33
  go_wp2_with (first | (go_at_call 43; refine (size_any p g s _ h).mono ?_; rintro e w' ⟨rfl, rfl⟩) | (go_at_call 49; refine (HOP.out _ h).mono ?_; rintro e w1 ⟨rfl, hq⟩; have HQ := Lib.hid hq; clear hq))
  go_loopw [31] (fun i wr => ∃ j : Nat, j ≤ m ∧ i = .int .i64 j ∧ Mid w wr p g s.step (upd s.b (256 * k) j (fun _ _ => 255))) (fun i _ => m - (intOf i).toNat)
  case atStart =>
    exact ⟨0, Nat.zero_le _, rfl, by rw [upd_zero, ← Fl.step_b]; exact Mid.start HQ.out.1 HQ.out.2.1 HQ.out.2.2⟩
  case round =>
    obtain ⟨j, hj, rfl, hm⟩ := hrel
    by_cases hlt : j < m
    · have x0 : wr.cell? ⟨p, 0, none⟩ = some (.slice (some ⟨g, 0, none⟩) s.b.length s.b.length) := by rw [cell_blk hm.st]; simp [flCells, Fl.step_b]
      have x1 : wr.cell? ⟨g, k * 256 + j, none⟩ = some (.int .u8 (s.b.getD (256 * k + j) 0)) := by
        rw [Nat.mul_comm k, hm.cell (256 * k + j) (by rw [Fl.step_b]; omega), upd_getD _ _ _ _ _ (by omega), if_neg (by omega)]
      have x2 : wr.frozen? ⟨g, k * 256 + j, none⟩ = false := hm.free _
      have HM := Lib.hid hm
      clear hm
      go_wp2
      go_roundw
      case rel =>
        refine ⟨j + 1, by omega, by go_num, ?_⟩
        rw [upd_succ _ _ _ _ (by omega)]
        have := HM.out.set h.ne (256 * k + j) (by rw [Fl.step_b]; omega) 255
        rw [Nat.mul_comm 256 k] at this ⊢
        exact this
      case measure => simp [intOf]; omega
    · obtain rfl : j = m := by omega
      have x5 : wr.cell? ⟨p, 4, none⟩ = some (.int .i64 s.er) := by rw [cell_blk hm.st]; simp [flCells, Fl.step_er]
      have x6 : wr.frozen? ⟨p, 4, none⟩ = false := free_blk hm.st _
      have p0 := h.ok.er0
      have p1 := h.ok.er1
      have hin' : s.eraseIn k = true := HB.out
      have hkt : (s.opN 256).toNat = j := by rw [HK.out]; rfl
      cases hg : s.goes with
      | true =>
        have fin : IsFl (wr.setCell ⟨p, 4, none⟩ (.int .i64 (min (s.er + 1) 1099511627776))) p g (s.erase k) ∧ Kept (fun x => x = p ∨ x = g) w (wr.setCell ⟨p, 4, none⟩ (.int .i64 (min (s.er + 1) 1099511627776))) ∧
            (wr.setCell ⟨p, 4, none⟩ (.int .i64 (min (s.er + 1) 1099511627776))).heap.size = w.heap.size := by
          have hprog : s.erase k = { s.step with b := upd s.b (256 * k) j (fun _ _ => 255), er := min (s.er + 1) most } := by simp [Fl.erase, hin', hkt, hg]
          obtain ⟨sp, hs⟩ := hm.row
          refine ⟨⟨?_, ⟨sp, ?_⟩, h.ne, h.ok.erase _⟩, hm.kept.setCell (.inl (.inl rfl)) _, by rw [size_setCell]; exact hm.size⟩
          · rw [blk_setCell hm.st, hprog]; simp [flCells, upd_length, Fl.step_b, most]
          · rw [hprog]; exact blk_setCell_ne hs _ h.ne.symm
        have FIN := Lib.hid fin
        have HG := Lib.hid hg
        clear fin hkt hin' hm hg
        go_wp2
        go_ret
        rw [HG.out]
        exact ⟨rfl, FIN.out⟩
      | false =>
        have fin : IsFl wr p g (s.erase k) ∧ Kept (fun x => x = p ∨ x = g) w wr ∧ wr.heap.size = w.heap.size := by
          have hprog : s.erase k = { s.step with b := upd s.b (256 * k) j (fun _ _ => 255), er := s.er } := by simp [Fl.erase, hin', hkt, hg]
          obtain ⟨sp, hs⟩ := hm.row
          refine ⟨⟨?_, ⟨sp, ?_⟩, h.ne, h.ok.erase _⟩, hm.kept, hm.size⟩
          · rw [hm.st, hprog]; simp [flCells, upd_length, Fl.step_b, Fl.step_er]
          · rw [hprog]; exact hs
        have FIN := Lib.hid fin
        have HG := Lib.hid hg
        clear fin hkt hin' hm hg
        go_wp2
        go_ret
        rw [HG.out]
        exact ⟨rfl, FIN.out⟩

theorem erase_any (p g : Nat) (s : Fl) (k : Int) (w : World) (h : IsFl w p g s) :
    Calls Try.prog 33 #[.pointer (some ⟨p, 0, none⟩), .int .i64 k] w fun e w' =>
      e = .returned (.bool (s.eraseOk k)) ∧ IsFl w' p g (s.erase k) ∧ Kept (fun x => x = p ∨ x = g) w w' ∧ w'.heap.size = w.heap.size := by
  cases hi : s.eraseIn k with
  | false =>
    refine (erase_out p g s k w h hi).mono ?_
    rintro e w' ⟨rfl, rfl⟩
    have h1 : s.eraseOk k = false := by simp [Fl.eraseOk, hi]
    have h2 : s.erase k = s := by simp [Fl.erase, hi]
    rw [h1, h2]
    exact ⟨rfl, h, Kept.refl _ _, rfl⟩
  | true =>
    have h1 : s.eraseOk k = s.goes := by simp [Fl.eraseOk, hi]
    rw [h1]
    simp only [Fl.eraseIn, Bool.and_eq_true, Bool.not_eq_true', decide_eq_true_eq] at hi
    obtain ⟨⟨hd, b1⟩, b2⟩ := hi
    obtain ⟨k', rfl⟩ := Int.eq_ofNat_of_zero_le b1
    exact erase_in p g s k' w h hd (by omega)

theorem poke_out (p g : Nat) (s : Fl) (a : Int) (sa : Option Addr) (n c : Nat) (w : World) (h : IsFl w p g s) (hi : inB s.b.length a n = false) :
    Calls Try.prog 36 #[.pointer (some ⟨p, 0, none⟩), .int .i64 a, .slice sa n c] w fun e w' => e = .returned (.bool false) ∧ w = w' := by
  have HB := Lib.hid hi
  clear hi
  go_enter Try.func36, Try.ntmps36
  go_wp2_with (go_at_call 48; refine (is_any p g s a n _ h).mono ?_; rintro e w' ⟨rfl, rfl⟩; rw [HB.out])
  go_ret
  exact ⟨rfl, rfl⟩

theorem size_u8 : (Try.prog.info? 5).map (·.size) = some 1 := by kernel_rfl

theorem poke_none (p g : Nat) (s : Fl) (a : Nat) (sa : Option Addr) (c : Nat) (w : World) (h : IsFl w p g s) (ha : a ≤ s.b.length) :
    Calls Try.prog 36 #[.pointer (some ⟨p, 0, none⟩), .int .i64 a, .slice sa 0 c] w fun e w' => e = .returned (.bool true) ∧ w = w' := by
  obtain ⟨c0, -, -, -, -, -⟩ := h.cs
  have hl := h.ok.len
  have hb : inB s.b.length a 0 = true := inB_iff.2 (by omega)
  have HB := Lib.hid hb
  clear hb
  by_cases hc : a = s.b.length
  · subst hc
    go_enter Try.func36, Try.ntmps36
    go_wp2_with (first | (go_at_call 48; refine (is_any p g s _ 0 _ h).mono ?_; rintro e w' ⟨rfl, rfl⟩; rw [HB.out]) | (refine wpList_copy_nothing rfl _ _ 49 49 rfl 5 Try.underlying49 size_u8 _ _ _ _ _ _ rfl rfl (by simp) ?_))
    go_ret
    exact ⟨rfl, rfl⟩
  · have hlt : a < s.b.length := by omega
    go_enter Try.func36, Try.ntmps36
    go_wp2_with (first | (go_at_call 48; refine (is_any p g s _ 0 _ h).mono ?_; rintro e w' ⟨rfl, rfl⟩; rw [HB.out]) | (refine wpList_copy_nothing rfl _ _ 49 49 rfl 5 Try.underlying49 size_u8 _ _ _ _ _ _ rfl rfl (by simp) ?_))
    go_ret
    exact ⟨rfl, rfl⟩

theorem row8_splice (b : List Int) (sp : List Value) (a : Nat) (xs : List Int) (h : a + xs.length ≤ b.length) :
    ((row8 b sp).toList.take a ++ ((xs.map (Value.int .u8)) ++ (row8 b sp).toList.drop (a + (xs.map (Value.int .u8)).length))).toArray = row8 (upd b a xs.length (fun i _ => xs.getD i 0)) sp := by
  have hu : upd b a xs.length (fun i _ => xs.getD i 0) = b.take a ++ (xs ++ b.drop (a + xs.length)) := by
    apply List.ext_getElem
    · simp [upd_length]; omega
    · intro i h1 h2
      rw [upd_length] at h1
      rw [upd_get _ _ _ _ _ h1]
      by_cases e : a ≤ i ∧ i < a + xs.length
      · rw [if_pos e, List.getElem_append_right (by simp; omega), List.getElem_append_left (by simp; omega)]
        simp [List.getD, Nat.min_eq_left (show a ≤ b.length by omega), show i - a < xs.length by omega]
      · rw [if_neg e]
        by_cases e2 : i < a
        · rw [List.getElem_append_left (by simp; omega)]; simp
        · rw [List.getElem_append_right (by simp; omega), List.getElem_append_right (by simp; omega)]
          simp [Nat.min_eq_left (show a ≤ b.length by omega)]
          congr 1; omega
  rw [hu]
  unfold row8
  simp only [List.map_append, List.map_take, List.map_drop, List.length_map]
  congr 1
  rw [List.take_append_of_le_length (by simp; omega), List.drop_append_of_le_length (by simp; omega)]
  simp [List.append_assoc]

theorem poke_some (p g : Nat) (s : Fl) (a : Nat) (ad : Addr) (n c : Nat) (xs : List Int) (w : World) (h : IsFl w p g s) (hsrc : Src w (some ad) n xs) (hn : 0 < n) (ha : a + n ≤ s.b.length) (hx : ∀ x ∈ xs, 0 ≤ x ∧ x ≤ 255) :
    Calls Try.prog 36 #[.pointer (some ⟨p, 0, none⟩), .int .i64 a, .slice (some ad) n c] w fun e w' =>
      e = .returned (.bool true) ∧ IsFl w' p g (s.poke a xs) ∧ Kept (fun x => x = p ∨ x = g) w w' ∧ w'.heap.size = w.heap.size := by
  obtain ⟨c0, -, -, -, -, -⟩ := h.cs
  have hl := h.ok.len
  have hb : inB s.b.length a n = true := inB_iff.2 (by omega)
  have HB := Lib.hid hb
  have hlt : a < s.b.length := by omega
  obtain ⟨sp, hs⟩ := h.row
  have hxl := hsrc.len
  have hcs : (xs.map (Value.int .u8)).length = Nat.min n (s.b.length - a) := by
    rw [List.length_map, hxl]; show n = min n (s.b.length - a); omega
  have hsr : ∀ j v, (xs.map (Value.int .u8))[j]? = some v → w.cell? (ad.add j) = some v := by
    intro j v hj
    rw [List.getElem?_map] at hj
    have hjl : j < xs.length := by
      rcases Nat.lt_or_ge j xs.length with q | q
      · exact q
      · rw [List.getElem?_eq_none q] at hj; cases hj
    obtain ⟨a', he, hc⟩ := hsrc.cell j (by omega)
    cases he
    rw [hc]
    simp [hjl] at hj
    simp [List.getD, hjl, hj]
  have hfit : a + (xs.map (Value.int .u8)).length ≤ (row8 s.b sp).size := by simp [row8]; omega
  have hone : ∀ v ∈ xs.map (Value.int .u8), v.oneCell' = true := by
    intro v hv
    obtain ⟨x, _, rfl⟩ := List.mem_map.1 hv
    rfl
  have fin : ∀ w', w' = w.setRow g ((row8 s.b sp).toList.take a ++ ((xs.map (Value.int .u8)) ++ (row8 s.b sp).toList.drop (a + (xs.map (Value.int .u8)).length))).toArray →
      IsFl w' p g (s.poke a xs) ∧ Kept (fun x => x = p ∨ x = g) w w' ∧ w'.heap.size = w.heap.size := by
    rintro w' rfl
    have hp : s.poke a xs = { s with b := upd s.b a xs.length (fun i _ => xs.getD i 0) } := by
      simp only [Fl.poke]
      rw [if_pos (by rw [hxl]; exact hb)]
      rfl
    have hz : ∀ R, (w.setRow g R).heap.size = w.heap.size := by intro R; simp [World.setRow]
    rw [row8_splice _ _ _ _ (by omega)]
    refine ⟨⟨?_, ⟨sp, ?_⟩, h.ne, h.ok.poke _ _ hx⟩, ⟨rfl, rfl, rfl, Nat.le_of_eq (hz _).symm, ?_⟩, hz _⟩
    · rw [setRow_other _ _ _ _ h.ne, h.st, hp]; simp [flCells, upd_length]
    · rw [setRow_heap w g _ _ 5 (0, 0) hs, hp]
    · intro k _ hk
      exact setRow_other _ _ _ _ (fun e => hk (.inr e))
  have FIN := Lib.hid fin
  have HS := Lib.hid hs
  have HCS := Lib.hid hcs
  have HSR := Lib.hid hsr
  have HONE := Lib.hid hone
  have HFIT := Lib.hid hfit
  clear hb fin hs hcs hsr hone hfit hxl
  go_enter Try.func36, Try.ntmps36
  go_wp2_with (first | (go_at_call 48; refine (is_any p g s _ n _ h).mono ?_; rintro e w' ⟨rfl, rfl⟩; rw [HB.out]) | (refine wpList_copy_own rfl _ _ 49 49 rfl 5 Try.underlying49 size_u8 g a _ _ ad _ _ rfl rfl (row8 s.b sp) 5 HS.out (xs.map (Value.int .u8)) HCS.out HSR.out HFIT.out HONE.out ?_; generalize hw' : w.setRow g _ = w2; have HW := Lib.hid hw'; clear hw'))
  go_ret
  exact ⟨rfl, FIN.out _ HW.out.symm⟩

/-- Poke, whatever is poked wherever. -/
theorem poke_any (p g : Nat) (s : Fl) (a : Int) (sa : Option Addr) (n c : Nat) (xs : List Int) (w : World) (h : IsFl w p g s) (hsrc : Src w sa n xs) (hx : ∀ x ∈ xs, 0 ≤ x ∧ x ≤ 255) :
    Calls Try.prog 36 #[.pointer (some ⟨p, 0, none⟩), .int .i64 a, .slice sa n c] w fun e w' =>
      e = .returned (.bool (s.pokeOk a n)) ∧ IsFl w' p g (s.poke a xs) ∧ Kept (fun x => x = p ∨ x = g) w w' ∧ w'.heap.size = w.heap.size := by
  cases hi : inB s.b.length a n with
  | false =>
    refine (poke_out p g s a sa n c w h hi).mono ?_
    rintro e w' ⟨rfl, rfl⟩
    have h1 : s.pokeOk a n = false := hi
    have h2 : s.poke a xs = s := by simp [Fl.poke, hsrc.len, hi]
    rw [h1, h2]
    exact ⟨rfl, h, Kept.refl _ _, rfl⟩
  | true =>
    have h1 : s.pokeOk a n = true := hi
    obtain ⟨b1, b2, b3, b4⟩ := inB_iff.1 hi
    obtain ⟨a', rfl⟩ := Int.eq_ofNat_of_zero_le b1
    rw [h1]
    by_cases hn : n = 0
    · subst hn
      obtain rfl : xs = [] := List.eq_nil_of_length_eq_zero hsrc.len
      refine (poke_none p g s a' sa c w h (by omega)).mono ?_
      rintro e w' ⟨rfl, rfl⟩
      have h2 : s.poke a' [] = s := by simp [Fl.poke, upd_zero]
      rw [h2]
      exact ⟨rfl, h, Kept.refl _ _, rfl⟩
    · obtain ⟨ad, rfl, -⟩ := hsrc.cell 0 (by omega)
      exact poke_some p g s a' ad n c xs w h hsrc (by omega) (by omega) hx

end Go.Proofs.Ytimlgkfhfofpbaa
