/- The document's example of a flash (alive of portcullislaw19): it answers true, in whatever memory. No condition. -/
import Derived.Test.YtcecgbjpmegljaaFlI
namespace Go.Proofs.Ytcecgbjpmegljaa
open Go.RowKit

theorem prog_fresh (p g : Nat) (s : Fl) (a x : Int) (w : World) (h : IsFl w p g s) (t : Fl) (ht : t = s.prog a [x]) (b : Bool) (hb : b = s.progOk a ((1 : Nat) : Int)) :
    Calls Try.prog 7 #[.pointer (some ⟨p, 0, none⟩), .int .i64 a, .slice (some ⟨w.heap.size, 0, none⟩) 1 1] (w.alloc (.cells #[.int .u8 x] 5)) fun e w' =>
      e = .returned (.bool b) ∧ IsFl w' p g t ∧ Kept (fun x => x = p ∨ x = g) w w' := by
  subst ht
  subst hb
  refine (prog_any p g s a _ 1 _ [x] _ (h.below ((Below.refl _ w).alloc (Nat.le_refl _) _)) (src_one w x) (else_new h 1) (by omega) (by simp)).mono ?_
  rintro e w' ⟨h1, h2, h3, -⟩
  exact ⟨h1, h2, ((Kept.refl _ w).alloc _).trans h3⟩

set_option maxHeartbeats 800000 in
theorem alive19_any (w : World) :
    Calls Try.prog 5 #[] w fun e w' => e = .returned (.bool true) ∧ Below w.heap.size w w' := by
  obtain ⟨a1, a2, a3, a4, a5, a6⟩ := al_facts
  have hnew := new_any 1 w
  obtain ⟨s0, e0⟩ : ∃ s, s = Fl.new 1 := ⟨_, rfl⟩
  obtain ⟨s1, e1⟩ : ∃ s, s = al1 := ⟨_, rfl⟩
  obtain ⟨s2, e2⟩ : ∃ s, s = al2 := ⟨_, rfl⟩
  have f1 : s1 = s0.prog 0 [240] := by rw [e1, e0]; rfl
  have f2 : s2 = s1.prog 0 [15] := by rw [e1, e2]; rfl
  rw [← e0] at hnew a1
  rw [← e1] at a2
  rw [← e2] at a3 a4 a5 a6
  obtain ⟨v1, v2⟩ := al_flt
  have htoll : ∀ w p g, IsFl w p g s2 → Calls Try.prog 11 #[.pointer (some ⟨p, 0, none⟩)] w fun e w' => e = .returned (.complex .f64 0 4611686018427387904) ∧ ∃ n, w' = w.drewN n := by
    intro w p g h
    have := toll_any p g s2 w h
    rw [a5, a6, v1, v2] at this
    exact this
  have hread : ∀ w p g, IsFl w p g s2 → Calls Try.prog 8 #[.pointer (some ⟨p, 0, none⟩), .int .i64 0, .int .i64 2] w fun e w' =>
      ∃ v, e = .returned (.tuple #[v, .bool true]) ∧ (∀ n, (convert 26 9 v).run Try.prog (w'.drewN n) = .ok (.string ⟨#[0, 255]⟩) (w'.drewN n)) ∧ Below w.heap.size w w' := by
    intro w p g h
    refine (read_any p g s2 0 2 w h).mono ?_
    rintro e w' ⟨v, rfl, ho, -, hb⟩
    rw [a3, a4] at ho
    refine ⟨v, by rw [a3], fun n => ?_, hb⟩
    have := ((ho rfl).drewN n).str
    rw [al_str] at this
    exact this
  have hord : ((FloatKind.f64.format.order 0 0 == some .eq) && (FloatKind.f64.format.order 4611686018427387904 4611686018427387904 == some .eq)) = true := by decide +kernel
  have HNEW := Lib.hid hnew
  have HTOLL := Lib.hid htoll
  have HREAD := Lib.hid hread
  have A1 := Lib.hid a1
  have A2 := Lib.hid a2
  have F1 := Lib.hid f1
  have F2 := Lib.hid f2
  clear hnew htoll hread a1 a2 a3 a4 a5 a6 e0 e1 e2 f1 f2 v1 v2
  go_enter Try.func5, Try.ntmps5
  go_wp2_with fail
  refine HNEW.out.mono ?_
  rintro e w1 ⟨p, g, rfl, hf, hp, hg, hb⟩
  go_wp2_with fail
  refine (prog_fresh p g s0 0 240 w1 hf s1 F1.out true A1.out.symm).mono ?_
  rintro e w2 ⟨rfl, hf2, hk2⟩
  go_wp2_with fail
  refine (prog_fresh p g s1 0 15 w2 hf2 s2 F2.out true A2.out.symm).mono ?_
  rintro e w3 ⟨rfl, hf3, hk3⟩
  go_wp2_with fail
  refine (HREAD.out w3 p g hf3).mono ?_
  rintro e w4 ⟨v, rfl, hs, hb4⟩
  have hs0 : (convert 26 9 v).run Try.prog w4 = .ok (.string ⟨#[0, 255]⟩) w4 := hs 0
  clear hs
  have hf4 := hf3.below hb4
  go_wp2_with fail
  refine (HTOLL.out w4 p g hf4).mono ?_
  rintro e w5 ⟨rfl, n, rfl⟩
  go_wp2_with fail
  go_ret
  refine ⟨rfl, ?_⟩
  have z1 := hb.size
  have z2 := hk2.size
  have z3 := hk3.size
  have two : ∀ i, (i = p ∨ i = g) → w.heap.size ≤ i := by rintro i (rfl | rfl) <;> assumption
  exact ((hb.trans (hk2.toBelow z1 two)).trans (hk3.toBelow (Nat.le_trans z1 z2) two)).trans (Below.drewN (hb4.mono (by omega)) n)

end Go.Proofs.Ytcecgbjpmegljaa
