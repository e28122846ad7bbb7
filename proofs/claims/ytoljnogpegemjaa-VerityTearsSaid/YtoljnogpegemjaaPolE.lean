/- (*poly.state).take: a byte taken in, told of the message. Condition: the state has taken in the first t bytes of m. -/
import Derived.Test.YtoljnogpegemjaaPolD
import Derived.BigRegion
import Derived.Test.YtoljnogpegemjaaM1
namespace Go.Proofs.Ytoljnogpegemjaa.Po
open Go.RowKit Lm

/-- The state at p has taken in the first t bytes of m. -/
structure InM (w : World) (p r : Nat) (m : List Nat) (t h : Nat) (b : List Nat) : Prop where
  st : IsSt w p (dig 18446744073709551616 4 h) (dig 18446744073709551616 4 r) b (t % 16)
  lt : h < 2 ^ 131
  acc : h % (2 ^ 130 - 5) = acc r m (t / 16)
  buf : b.take (t % 16) = (m.drop (16 * (t / 16))).take (t % 16)
  byt : ∀ x ∈ b, x < 256
theorem set_take (b : List Nat) (n x : Nat) (h : n < b.length) : (b.set n x).take (n + 1) = b.take n ++ [x] := by
  rw [take_snoc _ n 0 (by simpa using h), List.take_set_of_le (Nat.le_refl n)]
  simp [List.getD, h]
theorem drop_take (m : List Nat) (k n : Nat) (h : k + n < m.length) : (m.drop k).take (n + 1) = (m.drop k).take n ++ [m.getD (k + n) 0] := by
  rw [take_snoc _ n 0 (by rw [List.length_drop]; omega)]
  simp [List.getD]
theorem buf_step (b m : List Nat) (t x : Nat) (hb : b.length = 16) (ht : t < m.length) (hx : m.getD t 0 = x) (h : b.take (t % 16) = (m.drop (16 * (t / 16))).take (t % 16)) :
    (b.set (t % 16) x).take (t % 16 + 1) = (m.drop (16 * (t / 16))).take (t % 16 + 1) := by
  rw [set_take _ _ _ (by omega), drop_take _ _ _ (by omega), h, show 16 * (t / 16) + t % 16 = t by omega, hx]

set_option maxRecDepth 100000 in
set_option maxHeartbeats 1000000 in
theorem take_low (p : Nat) (h r n : Nat) (b : List Nat) (x : Nat) (w : World) (st : IsSt w p (dig 18446744073709551616 4 h) (dig 18446744073709551616 4 r) b n) (hh : h < 2 ^ 131) (hr : r < 2 ^ 124) (hn : n < 16) (hb : ∀ z ∈ b, z < 256) (hx : x < 256) :
    Calls Try.prog 60 #[.pointer (some ⟨p, 0, none⟩), .int .u8 x] w fun e w' => e = .returned (.tuple #[]) ∧ (n + 1 < 16 → IsSt w' p (dig 18446744073709551616 4 h) (dig 18446744073709551616 4 r) (b.set n x) (n + 1)) ∧ (n + 1 = 16 → IsSt w' p (dig 18446744073709551616 4 (fold ((h + val 256 ((b.set n x).take 16 ++ [1])) * r))) (dig 18446744073709551616 4 r) (b.set n x) 0) ∧ Kept (fun x => x = p) w w' := by
  have hb2 : ∀ z ∈ b.set n x, z < 256 := lt_set hb n x hx
  have x0 := st.at_n
  have x1 := st.at_b n hn
  have x2 := st.fr (8 + n)
  have x3 := st.fr 24
  have s1 := (st.set_b n hn x).drew
  have k1 : Kept (fun i => i = p) w (w.setCell ⟨p, 8 + n, none⟩ (.int .u8 x)).drew := ((Kept.refl _ w).at _ _).drew
  have hn2 : (n : Int) < 16 := by omega
  by_cases hf : n + 1 = 16
  · have f1 : (n : Int) + 1 = 16 := by omega
    have F1 := Lib.hid f1
    have HF := Lib.hid hf
    have ht := fun w st => turn_any p h r 16 (b.set n x) w st hh hr (Nat.le_refl _) hb2
    generalize fold ((h + val 256 ((b.set n x).take 16 ++ [1])) * r) = h' at ht ⊢
    have HT := Lib.hid ht
    clear f1 hf ht hb2 hb hx st
    generalize dig 18446744073709551616 4 h = h4 at *
    generalize dig 18446744073709551616 4 r = r4 at *
    generalize dig 18446744073709551616 4 h' = h5 at *
    go_enter Try.func60, Try.ntmps60
    go_wp2_with fail
    go_region
    generalize (w.setCell ⟨p, 8 + n, none⟩ (.int .u8 x)).drew = w1 at s1 k1 ⊢
    have y0 := s1.at_n
    have y1 := s1.fr 24
    have s2 : IsSt (w1.setCell ⟨p, 24, none⟩ (.int .i64 ((n : Int) + 1))) p h4 r4 (b.set n x) (n + 1) := s1.set_n (n + 1)
    have z0 : (w1.setCell ⟨p, 24, none⟩ (.int .i64 ((n : Int) + 1))).cell? ⟨p, 24, none⟩ = some (.int .i64 ((n : Int) + 1)) := s2.at_n
    rw [HF.out] at s2
    have f2 : ((n : Int) + 1 == 16) = true := by rw [F1.out]; rfl
    have S2 := Lib.hid s2
    have K2 := Lib.hid (k1.at 24 (.int .i64 ((n : Int) + 1)))
    clear s1 k1 x0 x1 x2 x3 s2
    go_wp2_with (go_at_call 61; refine (HT.out _ S2.out).mono ?_; rintro e w3 ⟨rfl, s3, k3⟩; have S3 := Lib.hid s3; have K3 := Lib.hid (K2.out.trans k3); clear s3 k3)
    go_end0
    exact ⟨rfl, fun h => by have := HF.out; omega, fun _ => S3.out, K3.out⟩
  · have f2 : (n : Int) + 1 < 16 := by omega
    have HF := Lib.hid hf
    clear hf hb2 hb hx st
    generalize fold ((h + val 256 ((b.set n x).take 16 ++ [1])) * r) = h'
    generalize dig 18446744073709551616 4 h = h4 at *
    generalize dig 18446744073709551616 4 r = r4 at *
    go_enter Try.func60, Try.ntmps60
    go_wp2_with fail
    go_region
    generalize (w.setCell ⟨p, 8 + n, none⟩ (.int .u8 x)).drew = w1 at s1 k1 ⊢
    have y0 := s1.at_n
    have y1 := s1.fr 24
    have s2 : IsSt (w1.setCell ⟨p, 24, none⟩ (.int .i64 ((n : Int) + 1))) p h4 r4 (b.set n x) (n + 1) := s1.set_n (n + 1)
    have z0 : (w1.setCell ⟨p, 24, none⟩ (.int .i64 ((n : Int) + 1))).cell? ⟨p, 24, none⟩ = some (.int .i64 ((n : Int) + 1)) := s2.at_n
    have S2 := Lib.hid s2
    have K2 := Lib.hid (k1.at 24 (.int .i64 ((n : Int) + 1)))
    have f3 : ((n : Int) + 1 == 16) = false := by rw [beq_eq_false_iff_ne]; omega
    clear s1 k1 x0 x1 x2 x3 s2
    go_wp2_with fail
    go_end0
    exact ⟨rfl, fun _ => S2.out, fun h => absurd h HF.out, K2.out⟩

theorem take_any (p r t h : Nat) (b m : List Nat) (w : World) (st : InM w p r m t h b) (hr : r < 2 ^ 124) (ht : t < m.length) (x : Nat) (hx : m.getD t 0 = x) (hx2 : x < 256) :
    Calls Try.prog 60 #[.pointer (some ⟨p, 0, none⟩), .int .u8 x] w fun e w' => e = .returned (.tuple #[]) ∧ (∃ h' b', InM w' p r m (t + 1) h' b') ∧ Kept (fun x => x = p) w w' := by
  refine (take_low p h r (t % 16) b x w st.st st.lt hr (Nat.mod_lt _ (by decide)) st.byt hx2).mono ?_
  rintro e w' ⟨he, h1, h2, hk⟩
  refine ⟨he, ?_, hk⟩
  have hbs := buf_step b m t x st.st.bl ht hx st.buf
  have hby : ∀ z ∈ b.set (t % 16) x, z < 256 := lt_set st.byt _ _ hx2
  by_cases hf : t % 16 + 1 = 16
  · have e1 : (t + 1) % 16 = 0 := by omega
    have e2 : (t + 1) / 16 = t / 16 + 1 := by omega
    rw [hf] at hbs
    have hv : val 256 ((b.set (t % 16) x).take 16 ++ [1]) < 2 ^ 129 := kv_lt _ 16 (by rw [List.length_set]; exact st.st.bl) hby (Nat.le_refl _)
    refine ⟨_, b.set (t % 16) x, ⟨by rw [e1]; exact h2 hf, fold_lt _ (turn_lt _ _ _ st.lt hv hr), ?_, by rw [e1]; simp, hby⟩⟩
    rw [turn_mod _ _ _ _ st.acc, e2, Po.acc, hbs]
  · have e1 : (t + 1) % 16 = t % 16 + 1 := by omega
    have e2 : (t + 1) / 16 = t / 16 := by omega
    exact ⟨h, b.set (t % 16) x, ⟨by rw [e1]; exact h1 (by omega), st.lt, by rw [e2]; exact st.acc, by rw [e1, e2]; exact hbs, hby⟩⟩
end Go.Proofs.Ytoljnogpegemjaa.Po
