/- flash.Read, Image: what each answers: new memory that holds the bytes. Condition: the flash lies there whole. -/
import Derived.Test.YtcecgbjpmegljaaFlD
namespace Go.Proofs.Ytcecgbjpmegljaa
open Go.RowKit

theorem IsFl.src {w : World} {p g : Nat} {s : Fl} (h : IsFl w p g s) (a n : Nat) (hin : a + n ≤ s.b.length) (ad : Addr) (had : 0 < n → ad = ⟨g, a, none⟩) : Src w (some ad) n ((s.b.drop a).take n) := by
  refine ⟨by simp; omega, fun i hi => ⟨ad, rfl, ?_⟩⟩
  obtain ⟨sp, hs⟩ := h.row
  rw [had (by omega)]
  have e : (⟨g, a, none⟩ : Addr).add i = ⟨g, a + i, none⟩ := by unfold Addr.add; split <;> simp_all
  rw [e, cell_blk hs, row8_get _ _ _ (by omega)]
  congr 2
  simp [List.getD, hi]

theorem read_out (p g : Nat) (s : Fl) (a n : Int) (w : World) (h : IsFl w p g s) (hi : s.readOk a n = false) :
    Calls Try.prog 8 #[.pointer (some ⟨p, 0, none⟩), .int .i64 a, .int .i64 n] w fun e w' => e = .returned (.tuple #[.slice none 0 0, .bool false]) ∧ w = w' := by
  obtain ⟨-, -, -, c3, -, -⟩ := h.cs
  cases hd : s.dead with
  | true =>
    rw [hd] at c3
    clear hi hd
    go_enter Try.func8, Try.ntmps8
    go_wp2
    go_ret2
    exact ⟨rfl, rfl⟩
  | false =>
    have hb : inB s.b.length a n = false := by simpa [Fl.readOk, hd] using hi
    rw [hd] at c3
    have HB := Lib.hid hb
    clear hi hd hb
    go_enter Try.func8, Try.ntmps8
    go_wp2_with (go_at_call 20; refine (is_any p g s a n _ h).mono ?_; rintro e w' ⟨rfl, rfl⟩; rw [HB.out])
    go_ret2
    exact ⟨rfl, rfl⟩

theorem read_zero (p g : Nat) (s : Fl) (w : World) (h : IsFl w p g s) (hd : s.dead = false) :
    Calls Try.prog 8 #[.pointer (some ⟨p, 0, none⟩), .int .i64 s.b.length, .int .i64 0] w fun e w' =>
      ∃ v, e = .returned (.tuple #[v, .bool true]) ∧ Owns w' w.heap.size v [] ∧ Below w.heap.size w w' := by
  obtain ⟨c0, -, -, c3, -, -⟩ := h.cs
  have hl := h.ok.len
  have hb : inB s.b.length s.b.length 0 = true := inB_iff.2 (by omega)
  rw [hd] at c3
  have HB := Lib.hid hb
  clear hb hd
  have hsrc : Src w (some ⟨g, 0, none⟩) 0 [] := ⟨rfl, fun i hi => absurd hi (by omega)⟩
  have hcl := fun c => clone_any ⟨g, 0, none⟩ 0 c _ w hsrc (by omega)
  have HC := Lib.hid hcl
  clear hcl hsrc
  go_enter Try.func8, Try.ntmps8
  go_wp2_with (first | (go_at_call 20; refine (is_any p g s _ _ _ h).mono ?_; rintro e w' ⟨rfl, rfl⟩; rw [HB.out]) | (go_at_call 22; refine (HC.out _).mono ?_; rintro e w' ⟨v, rfl, ho, hbl⟩))
  go_ret2
  exact ⟨v, rfl, ho, hbl⟩

theorem read_in (p g : Nat) (s : Fl) (a n : Nat) (w : World) (h : IsFl w p g s) (hd : s.dead = false) (hin : a + n ≤ s.b.length) :
    Calls Try.prog 8 #[.pointer (some ⟨p, 0, none⟩), .int .i64 a, .int .i64 n] w fun e w' =>
      ∃ v, e = .returned (.tuple #[v, .bool true]) ∧ Owns w' w.heap.size v (s.read a n) ∧ Below w.heap.size w w' := by
  obtain ⟨c0, -, -, c3, -, -⟩ := h.cs
  have hl := h.ok.len
  have hb : inB s.b.length a n = true := inB_iff.2 (by omega)
  rw [hd] at c3
  have HB := Lib.hid hb
  have HD := Lib.hid hd
  clear hb hd
  by_cases hc : a = s.b.length
  · have hn : n = 0 := by omega
    subst hn
    subst hc
    have hr : s.read s.b.length 0 = [] := by simp [Fl.read]
    have := read_zero p g s w h HD.out
    rw [← hr] at this
    exact this
  · have hlt : a < s.b.length := by omega
    have hsrc := h.src a n hin ⟨g, a, none⟩ (fun _ => rfl)
    have hcl := fun c => clone_any ⟨g, a, none⟩ n c _ w hsrc (by omega)
    have HC := Lib.hid hcl
    have hr : (s.b.drop a).take n = s.read a n := rfl
    rw [hr] at HC
    clear hcl hsrc hr
    go_enter Try.func8, Try.ntmps8
    go_wp2_with (first | (go_at_call 20; refine (is_any p g s _ _ _ h).mono ?_; rintro e w' ⟨rfl, rfl⟩; rw [HB.out]) | (go_at_call 22; refine (HC.out _).mono ?_; rintro e w' ⟨v, rfl, ho, hbl⟩))
    go_ret2
    exact ⟨v, rfl, ho, hbl⟩

theorem read_any (p g : Nat) (s : Fl) (a n : Int) (w : World) (h : IsFl w p g s) :
    Calls Try.prog 8 #[.pointer (some ⟨p, 0, none⟩), .int .i64 a, .int .i64 n] w fun e w' =>
      ∃ v, e = .returned (.tuple #[v, .bool (s.readOk a n)]) ∧ (s.readOk a n = true → Owns w' w.heap.size v (s.read a n)) ∧ (s.readOk a n = false → v = .slice none 0 0) ∧ Below w.heap.size w w' := by
  cases hi : s.readOk a n with
  | false =>
    refine (read_out p g s a n w h hi).mono ?_
    rintro e w' ⟨rfl, rfl⟩
    exact ⟨_, rfl, (fun h => by cases h), fun _ => rfl, Below.refl _ _⟩
  | true =>
    have hd : s.dead = false := by cases hd : s.dead <;> simp_all [Fl.readOk]
    have hb : inB s.b.length a n = true := by simpa [Fl.readOk, hd] using hi
    obtain ⟨b1, b2, b3, b4⟩ := inB_iff.1 hb
    obtain ⟨a', rfl⟩ := Int.eq_ofNat_of_zero_le b1
    obtain ⟨n', rfl⟩ := Int.eq_ofNat_of_zero_le b2
    refine (read_in p g s a' n' w h hd (by omega)).mono ?_
    rintro e w' ⟨v, rfl, ho, hb⟩
    exact ⟨v, rfl, fun _ => ho, (fun h => by cases h), hb⟩

theorem image_any (p g : Nat) (s : Fl) (w : World) (h : IsFl w p g s) :
    Calls Try.prog 9 #[.pointer (some ⟨p, 0, none⟩)] w fun e w' => ∃ v, e = .returned v ∧ Owns w' w.heap.size v s.b ∧ Below w.heap.size w w' := by
  obtain ⟨c0, -, -, -, -, -⟩ := h.cs
  have hl := h.ok.len
  have hsrc := h.src 0 s.b.length (by omega) ⟨g, 0, none⟩ (fun _ => rfl)
  simp only [List.drop_zero, List.take_length] at hsrc
  have hcl := fun c => clone_any ⟨g, 0, none⟩ _ c _ w hsrc (by omega)
  have HC := Lib.hid hcl
  clear hcl hsrc
  go_enter Try.func9, Try.ntmps9
  go_wp2_with (go_at_call 22; refine (HC.out _).mono ?_; rintro e w' ⟨v, rfl, ho, hbl⟩)
  go_ret
  exact ⟨v, rfl, ho, hbl⟩

end Go.Proofs.Ytcecgbjpmegljaa
