/- sha.take: a byte is taken in. Condition: the state lies there whole. -/
import Derived.Test.YtcecgbjpmegljaaHaC
namespace Go.Proofs.Ytcecgbjpmegljaa.Ha
open Go.RowKit

theorem set_ok {s : S} (h : s.Ok) {x : Int} (hx : 0 ≤ x ∧ x ≤ 255) : ∀ y ∈ s.b.set s.n x, 0 ≤ y ∧ y ≤ 255 := by
  intro y hy
  rcases List.mem_or_eq_of_mem_set hy with h1 | rfl
  · exact h.by0 y h1
  · exact hx

set_option maxRecDepth 100000 in
set_option maxHeartbeats 1600000 in
theorem take_any (p : Nat) (s : S) (l x : Int) (w : World) (st : IsSt w p s.h s.b s.n l) (ok : s.Ok) (hx : 0 ≤ x ∧ x ≤ 255) :
    Calls Try.prog 54 #[.pointer (some ⟨p, 0, none⟩), .int .u8 x] w fun e w' => e = .returned (.tuple #[]) ∧ IsSt w' p (s.take x).h (s.take x).b (s.take x).n l ∧ Kept (fun i => i = p) w w' := by
  have hok := set_ok ok hx
  obtain ⟨h, b, n⟩ := s
  simp only at st hok ⊢
  have hn : n < 64 := ok.n
  have x0 := st.at_n
  have x1 := st.at_b n hn
  have x2 := st.fr (72 + n)
  have x3 := st.fr 136
  have s1 := (st.set_b n hn x).drew
  have k1 : Kept (fun i => i = p) w (w.setCell ⟨p, 72 + n, none⟩ (.int .u8 x)).drew := ((Kept.refl _ w).at _ _).drew
  by_cases hf : n + 1 = 64
  · have e1 : S.take ⟨h, b, n⟩ x = ⟨comp h (b.set n x), b.set n x, 0⟩ := by unfold S.take; rw [if_pos hf]
    have f1 : (n : Int) + 1 = 64 := by omega
    have E1 := Lib.hid e1
    have F1 := Lib.hid f1
    have ht := fun w st => turn_any p h (b.set n x) ((n : Int) + 1) l w st hok
    have HT := Lib.hid ht
    have f2 : 64 ≤ (n : Int) + 1 := by omega
    clear e1 f1 hf ht hok ok
    go_enter Try.func54, Try.ntmps54
    go_wp2_with fail
    go_region
    generalize (w.setCell ⟨p, 72 + n, none⟩ (.int .u8 x)).drew = w1 at s1 k1 ⊢
    have y0 := s1.at_n
    have y1 := s1.fr 136
    have S2 := Lib.hid (s1.set_n ((n : Int) + 1))
    have K2 := Lib.hid (k1.at 136 (.int .i64 ((n : Int) + 1)))
    clear s1 k1 x0 x1 x2 x3
    go_wp2_with (go_at_call 56; refine (HT.out _ S2.out).mono ?_; rintro e w3 ⟨rfl, s3, k3⟩; have z0 := s3.at_n; have z1 := s3.fr 136; have S3 := Lib.hid (s3.set_n 0); have K3 := Lib.hid ((K2.out.trans k3).at 136 (.int .i64 0)); clear s3 k3)
    go_end0
    rw [E1.out]
    exact ⟨rfl, S3.out, K3.out⟩
  · have e1 : S.take ⟨h, b, n⟩ x = ⟨h, b.set n x, n + 1⟩ := by unfold S.take; rw [if_neg hf]
    have E1 := Lib.hid e1
    have f2 : (n : Int) + 1 < 64 := by omega
    clear e1 hf hok ok
    go_enter Try.func54, Try.ntmps54
    go_wp2_with fail
    go_region
    generalize (w.setCell ⟨p, 72 + n, none⟩ (.int .u8 x)).drew = w1 at s1 k1 ⊢
    have y0 := s1.at_n
    have y1 := s1.fr 136
    have S2 := Lib.hid (s1.set_n ((n : Int) + 1))
    have K2 := Lib.hid (k1.at 136 (.int .i64 ((n : Int) + 1)))
    clear s1 k1 x0 x1 x2 x3
    go_wp2_with fail
    go_end0
    rw [E1.out]
    exact ⟨rfl, by simpa using S2.out, K2.out⟩

end Go.Proofs.Ytcecgbjpmegljaa.Ha
