/- The document's example of a counter (alive of portcullislaw20): it answers true, in whatever memory. No condition. -/
import Derived.Test.YtimlgkfhfofpbaaOtpB
import Derived.Test.YtimlgkfhfofpbaaFlK
namespace Go.Proofs.Ytimlgkfhfofpbaa
open Go.RowKit

def one (x : Int) : List Int := x :: List.replicate 31 0
theorem one_len (x : Int) : (one x).length = 32 := by simp [one]
theorem build_one (x : Int) (w : World) : (Instr.build 31 #[(0, .int .u8 x)]).run Try.prog w = .ok (.agg (arr .u8 (one x))) w := by kernel_rfl
theorem num20_any (n : Int) (w : World) : Calls Try.prog 18 #[.int .i64 n] w fun e w' => e = .returned (.int .i64 n) ∧ w = w' := by
  go_enter Try.func18, Try.ntmps18
  go_wp2
  go_ret
  exact ⟨rfl, rfl⟩

theorem two_le {p q B : Nat} (hp : B ≤ p) (hq : B ≤ q) : ∀ i, (i = p ∨ i = q) → B ≤ i := by rintro i (rfl | rfl) <;> assumption

set_option maxRecDepth 100000 in
set_option maxHeartbeats 1600000 in
theorem alive20_any (w : World) :
    Calls Try.prog 13 #[] w fun e w' => e = .returned (.bool true) ∧ Below w.heap.size w w' := by
  have hnew := fun w => new_any 1 w
  obtain ⟨s0, e0⟩ : ∃ s, s = Fl.new 1 := ⟨_, rfl⟩
  have hk0 : Calm s0 256 := by rw [e0]; exact Calm.new 1 256 rfl
  rw [← e0] at hnew
  have ht : s0.turnOk = true := by simp [Fl.turnOk, hk0.dead, hk0.goes]
  have o1 := fun f w => onew_any f (one 1) (one 2) (one_len 1) (one_len 2) 0 w
  have o2 := fun f w => onew_any f (one 1) (one 2) (one_len 1) (one_len 2) 1 w
  have m1 : min (max 0 (0 : Int)) 1048576 = 0 := by omega
  have m2 : min (max 0 (1 : Int)) 1048576 = 1 := by omega
  rw [m1] at o1
  rw [m2] at o2
  obtain ⟨n1, en1⟩ : ∃ z, z = one 1 := ⟨_, rfl⟩
  obtain ⟨n2, en2⟩ : ∃ z, z = one 2 := ⟨_, rfl⟩
  have b1 := fun w => build_one 1 w
  have b2 := fun w => build_one 2 w
  rw [← en1] at o1 o2 b1
  rw [← en2] at o1 o2 b2
  have HNEW := Lib.hid hnew
  have O1 := Lib.hid o1
  have O2 := Lib.hid o2
  have B1 := Lib.hid b1
  have B2 := Lib.hid b2
  have HT := Lib.hid ht
  clear e0 hk0 hnew o1 o2 m1 m2 b1 b2 ht en1 en2
  go_enter Try.func13, Try.ntmps13
  go_wp2_with fail
  refine (HNEW.out w).mono ?_
  rintro e w1 ⟨p, g, rfl, hf1, hp, hg, hb1⟩
  go_wp2_with (first | ((with_reducible show wpList _ _ _ (Oper.mk (some 8) _ _ _ _ _ :: _) _ _); refine wpList_build rfl 31 _ rfl #[(0, .int .u8 1)] rfl _ (B1.out _) ?_) | ((with_reducible show wpList _ _ _ (Oper.mk (some 9) _ _ _ _ _ :: _) _ _); refine wpList_build rfl 31 _ rfl #[(0, .int .u8 2)] rfl _ (B2.out _) ?_))
  refine (O1.out _ w1).mono ?_
  rintro e w2 ⟨q1, rfl, ho2, hq1, hb2⟩
  have hf2 := hf1.below hb2
  go_wp2_with (first | ((with_reducible show wpList _ _ _ (Oper.mk (some 12) _ _ _ _ _ :: _) _ _); refine wpList_build rfl 31 _ rfl #[(0, .int .u8 1)] rfl _ (B1.out _) ?_) | ((with_reducible show wpList _ _ _ (Oper.mk (some 13) _ _ _ _ _ :: _) _ _); refine wpList_build rfl 31 _ rfl #[(0, .int .u8 2)] rfl _ (B2.out _) ?_))
  refine (O2.out _ w2).mono ?_
  rintro e w3 ⟨q2, rfl, ho3, hq2, hb3⟩
  have hf3 := hf2.below hb3
  have ho3a := ho2.below hb3
  have hl1 := hf1.lt
  have hl2 := blk_lt ho2.1
  have z1 := hb1.size
  have z2 := hb2.size
  have z3 := hb3.size
  clear hf1 hf2 ho2
  go_wp2_with fail
  refine (ostep_full q1 _ _ _ 0 0 w3 ho3a rfl).mono ?_
  rintro e w4 ⟨rfl, n4, rfl⟩
  go_wp2_with fail
  refine (ostep_ok q2 p g s0 _ _ 0 1 _ (ho3.drewN n4) (hf3.drewN n4) (by omega) (by omega) (by decide) HT.out (by omega)).mono ?_
  rintro e w5 ⟨rfl, hf5, ho5, hk5, -⟩
  have HK5 := Lib.hid hk5
  clear hk5
  go_wp2_with (first | (go_at_call 18; refine (num20_any _ _).mono ?_; rintro e w' ⟨rfl, rfl⟩) | (go_at_call 19; refine (ocount_any q2 _ _ _ _ _ _ ho5).mono ?_; rintro e w' ⟨rfl, rfl⟩))
  go_ret
  refine ⟨rfl, ?_⟩
  have hk : Kept (fun x => x = p ∨ x = q2) w3 w5 := ⟨HK5.out.os, HK5.out.tape, HK5.out.output, HK5.out.size, HK5.out.block⟩
  exact ((hb1.trans (hb2.mono (by omega))).trans (hb3.mono (by omega))).trans (hk.toBelow (by omega) (two_le (by omega) (by omega)))

end Go.Proofs.Ytimlgkfhfofpbaa
