/- portcullisref19.Flash: Poke, Read: what each answers, in the words of Fl. Condition: the flash lies there whole; what is poked lies elsewhere. -/
import Derived.Test.YtoljnogpegemjaaDoorRfD
import Derived.Laws.CopyOwn
namespace Go.Proofs.YtoljnogpegemjaaDoor
open Go.RowKit

theorem rpoke_out (p g : Nat) (s : Fl) (a : Int) (sa : Option Addr) (n c : Nat) (w : World) (h : IsRf w p g s) (hi : inB s.b.length a n = false) :
    Calls Tryd.prog 78 #[.pointer (some ⟨p, 0, none⟩), .int .i64 a, .slice sa n c] w fun e w' => e = .returned (.bool false) ∧ w = w' := by
  have HB := Lib.hid hi
  clear hi
  go_enter Tryd.func78, Tryd.ntmps78
  go_wp2_with (go_at_call 111; refine (rfits_any p g s a n _ h).mono ?_; rintro e w' ⟨rfl, rfl⟩; rw [HB.out])
  go_ret
  exact ⟨rfl, rfl⟩

theorem rpoke_none (p g : Nat) (s : Fl) (a : Nat) (sa : Option Addr) (c : Nat) (w : World) (h : IsRf w p g s) (ha : a ≤ s.b.length) :
    Calls Tryd.prog 78 #[.pointer (some ⟨p, 0, none⟩), .int .i64 a, .slice sa 0 c] w fun e w' => e = .returned (.bool true) ∧ w = w' := by
  have c0 := h.c0
  have hl := h.ok.len
  have hb : inB s.b.length a 0 = true := inB_iff.2 (by omega)
  have HB := Lib.hid hb
  clear hb
  by_cases hc : a = s.b.length
  · subst hc
    go_enter Tryd.func78, Tryd.ntmps78
    go_wp2_with (first | (go_at_call 111; refine (rfits_any p g s _ 0 _ h).mono ?_; rintro e w' ⟨rfl, rfl⟩; rw [HB.out]) | (refine wpList_copy_nothing rfl _ _ 24 24 rfl 5 Tryd.underlying24 size_u8 _ _ _ _ _ _ rfl rfl (by simp) ?_))
    go_ret
    exact ⟨rfl, rfl⟩
  · have hlt : a < s.b.length := by omega
    go_enter Tryd.func78, Tryd.ntmps78
    go_wp2_with (first | (go_at_call 111; refine (rfits_any p g s _ 0 _ h).mono ?_; rintro e w' ⟨rfl, rfl⟩; rw [HB.out]) | (refine wpList_copy_nothing rfl _ _ 24 24 rfl 5 Tryd.underlying24 size_u8 _ _ _ _ _ _ rfl rfl (by simp) ?_))
    go_ret
    exact ⟨rfl, rfl⟩

theorem rpoke_some (p g : Nat) (s : Fl) (a : Nat) (ad : Addr) (n c : Nat) (xs : List Int) (w : World) (h : IsRf w p g s) (hsrc : Src w (some ad) n xs) (hn : 0 < n) (ha : a + n ≤ s.b.length) (hx : ∀ x ∈ xs, 0 ≤ x ∧ x ≤ 255) :
    Calls Tryd.prog 78 #[.pointer (some ⟨p, 0, none⟩), .int .i64 a, .slice (some ad) n c] w fun e w' =>
      e = .returned (.bool true) ∧ IsRf w' p g (s.poke a xs) ∧ Kept (fun x => x = p ∨ x = g) w w' ∧ w'.heap.size = w.heap.size := by
  have c0 := h.c0
  have hl := h.ok.len
  have hb : inB s.b.length a n = true := inB_iff.2 (by omega)
  have HB := Lib.hid hb
  have hlt : a < s.b.length := by omega
  obtain ⟨sp, hs⟩ := h.row
  have hxl := hsrc.len
  have hcs : (xs.map (Value.int .u8)).length = Nat.min n (s.b.length - a) := by
    rw [List.length_map, hxl]; show n = min n (s.b.length - a); omega
  have hsr : ∀ j v, (xs.map (Value.int .u8))[j]? = some v → w.cell? (ad.add j) = some v := by
    intro j v hj
    rw [List.getElem?_map] at hj
    have hjl : j < xs.length := by
      rcases Nat.lt_or_ge j xs.length with q | q
      · exact q
      · rw [List.getElem?_eq_none q] at hj; cases hj
    obtain ⟨a', he, hc⟩ := hsrc.cell j (by omega)
    cases he
    rw [hc]
    simp [hjl] at hj
    simp [List.getD, hjl, hj]
  have hfit : a + (xs.map (Value.int .u8)).length ≤ (row8 s.b sp).size := by simp [row8]; omega
  have hone : ∀ v ∈ xs.map (Value.int .u8), v.oneCell' = true := by
    intro v hv
    obtain ⟨x, _, rfl⟩ := List.mem_map.1 hv
    rfl
  have fin : ∀ w', w' = w.setRow g ((row8 s.b sp).toList.take a ++ ((xs.map (Value.int .u8)) ++ (row8 s.b sp).toList.drop (a + (xs.map (Value.int .u8)).length))).toArray →
      IsRf w' p g (s.poke a xs) ∧ Kept (fun x => x = p ∨ x = g) w w' ∧ w'.heap.size = w.heap.size := by
    rintro w' rfl
    have hp : s.poke a xs = { s with b := upd s.b a xs.length (fun i _ => xs.getD i 0) } := by
      simp only [Fl.poke]
      rw [if_pos (by rw [hxl]; exact hb)]
      rfl
    have hz : ∀ R, (w.setRow g R).heap.size = w.heap.size := by intro R; simp [World.setRow]
    rw [row8_splice _ _ _ _ (by omega)]
    obtain ⟨pl, oo, cc, hst, hpl⟩ := h.st
    refine ⟨⟨⟨pl, oo, cc, ?_, by rw [hp]; exact hpl⟩, ⟨sp, ?_⟩, h.ne, h.ok.poke _ _ hx⟩, ⟨rfl, rfl, rfl, Nat.le_of_eq (hz _).symm, ?_⟩, hz _⟩
    · rw [setRow_other _ _ _ _ h.ne, hst, hp]; simp [rfCells, upd_length]
    · rw [setRow_heap w g _ _ 5 (0, 0) hs, hp]
    · intro k _ hk
      exact setRow_other _ _ _ _ (fun e => hk (.inr e))
  have FIN := Lib.hid fin
  have HS := Lib.hid hs
  have HCS := Lib.hid hcs
  have HSR := Lib.hid hsr
  have HONE := Lib.hid hone
  have HFIT := Lib.hid hfit
  clear hb fin hs hcs hsr hone hfit hxl
  go_enter Tryd.func78, Tryd.ntmps78
  go_wp2_with (first | (go_at_call 111; refine (rfits_any p g s _ n _ h).mono ?_; rintro e w' ⟨rfl, rfl⟩; rw [HB.out]) | (refine wpList_copy_own rfl _ _ 24 24 rfl 5 Tryd.underlying24 size_u8 g a _ _ ad _ _ rfl rfl (row8 s.b sp) 5 HS.out (xs.map (Value.int .u8)) HCS.out HSR.out HFIT.out HONE.out ?_; generalize hw' : w.setRow g _ = w2; have HW := Lib.hid hw'; clear hw'))
  go_ret
  exact ⟨rfl, FIN.out _ HW.out.symm⟩

/-- Poke, whatever is poked wherever. -/
theorem rpoke_any (p g : Nat) (s : Fl) (a : Int) (sa : Option Addr) (n c : Nat) (xs : List Int) (w : World) (h : IsRf w p g s) (hsrc : Src w sa n xs) (hx : ∀ x ∈ xs, 0 ≤ x ∧ x ≤ 255) :
    Calls Tryd.prog 78 #[.pointer (some ⟨p, 0, none⟩), .int .i64 a, .slice sa n c] w fun e w' =>
      e = .returned (.bool (s.pokeOk a n)) ∧ IsRf w' p g (s.poke a xs) ∧ Kept (fun x => x = p ∨ x = g) w w' ∧ w'.heap.size = w.heap.size := by
  cases hi : inB s.b.length a n with
  | false =>
    refine (rpoke_out p g s a sa n c w h hi).mono ?_
    rintro e w' ⟨rfl, rfl⟩
    have h1 : s.pokeOk a n = false := hi
    have h2 : s.poke a xs = s := by simp [Fl.poke, hsrc.len, hi]
    rw [h1, h2]
    exact ⟨rfl, h, Kept.refl _ _, rfl⟩
  | true =>
    have h1 : s.pokeOk a n = true := hi
    obtain ⟨b1, b2, b3, b4⟩ := inB_iff.1 hi
    obtain ⟨a', rfl⟩ := Int.eq_ofNat_of_zero_le b1
    rw [h1]
    by_cases hn : n = 0
    · subst hn
      obtain rfl : xs = [] := List.eq_nil_of_length_eq_zero hsrc.len
      refine (rpoke_none p g s a' sa c w h (by omega)).mono ?_
      rintro e w' ⟨rfl, rfl⟩
      have h2 : s.poke a' [] = s := by simp [Fl.poke, upd_zero]
      rw [h2]
      exact ⟨rfl, h, Kept.refl _ _, rfl⟩
    · obtain ⟨ad, rfl, -⟩ := hsrc.cell 0 (by omega)
      exact rpoke_some p g s a' ad n c xs w h hsrc (by omega) (by omega) hx

theorem IsRf.src {w : World} {p g : Nat} {s : Fl} (h : IsRf w p g s) (a n : Nat) (hin : a + n ≤ s.b.length) : Src w (some ⟨g, a, none⟩) n ((s.b.drop a).take n) := by
  refine ⟨by simp; omega, fun i hi => ⟨_, rfl, ?_⟩⟩
  obtain ⟨sp, hs⟩ := h.row
  have e : (⟨g, a, none⟩ : Addr).add i = ⟨g, a + i, none⟩ := by unfold Addr.add; split <;> simp_all
  rw [e, cell_blk hs, row8_get _ _ _ (by omega)]
  congr 2
  simp [List.getD, hi]

theorem rread_fin (s : Fl) (a n : Nat) (w : World) : ∀ v' w', Own8 w' w.heap.size v' ([] ++ (s.b.drop a).take n) → w.grownBy w' (Value.slice none 0 0).ownBlock → Own8 w' w.heap.size v' (s.read a n) ∧ Below w.heap.size w w' := by
  intro v' w' ho hg
  exact ⟨by simpa [Fl.read] using ho, (Below.refl _ w).grown hg (Nat.le_refl _) (fun k hk => by cases hk)⟩

end Go.Proofs.YtoljnogpegemjaaDoor
