/- slices.Chunk of bytes, 64 at a time: the iterator's contract. Condition: the bytes are some, and at most 2048. -/
import Derived.Test.YtdaaigodpglnnaaCutR
import Derived.RangeFuncNested
import Derived.RangeFuncBound
import Derived.RangeFuncCalls
import Derived.RangeFuncLeaves
import Derived.Shelf.Abstract
import Derived.Shelf.RegionOpen
import Derived.WalkKit
import Derived.OwnWalkIn
import Derived.TacticsInMore
import Derived.LoopNIn
import Derived.LoopIn
import Derived.BigRegionIn
namespace Go.Proofs.Ytdaaigodpglnnaa
open Go.RowKit Go.Shelf
attribute [local go_sem] Oper.semAt_some

/-- A chunk as it is handed out. -/
def chv (ad : Addr) (n k : Nat) : Value := .slice (some (ad.add (64 * k))) (min 64 (n - 64 * k)) (min 64 (n - 64 * k))

/-- What a round must keep: what lay below n₀, and the iterator's two boxes. -/
def KpC (Bs Bn n₀ : Nat) (W W' : World) : Prop := Below n₀ W W' ∧ W'.cell? ⟨Bs, 0, none⟩ = W.cell? ⟨Bs, 0, none⟩ ∧ W'.cell? ⟨Bn, 0, none⟩ = W.cell? ⟨Bn, 0, none⟩

set_option maxRecDepth 100000 in
set_option maxHeartbeats 2000000 in
theorem chunk1_in (F : Fence) (N : Nat) (h56 : F.fn 56) (hro : F.round = none) (hN : 1 ≤ N) (l Bs Bn n₀ : Nat) (ad : Addr) (n c : Nat) (hc : n ≤ c) (h0n : 0 < n) (hn : n ≤ 2048) (J Jx : List Nat → World → Prop)
    (hY : ∀ pre x W, J pre W → pre.length < nblk n → YieldAt F (N - 1) Try.prog l #[chv ad n x] W fun e W' =>
      (e = .returned (.bool true) ∧ J (pre ++ [x]) W' ∧ KpC Bs Bn n₀ W W') ∨ (e = .returned (.bool false) ∧ Jx (pre ++ [x]) W'))
    (W : World) (hJ : AbidesFrom W.heap.size J) (hBs : W.cell? ⟨Bs, 0, none⟩ = some (.slice (some ad) n c)) (hBn : W.cell? ⟨Bn, 0, none⟩ = some (.int .i64 64)) (h0 : J [] W) :
    CallsIn F N Try.prog 56 #[.func (.yield l) #[] #[], .pointer (some ⟨Bs, 0, none⟩), .pointer (some ⟨Bn, 0, none⟩)] W fun e W' => (∃ v, e = .returned v) ∧
      ((∃ ys, ys = List.range (nblk n) ∧ J ys W') ∨ (∃ pre, True ∧ Jx pre W')) := by
  have hmx : Try.prog.follows .mixedOrders = true := by kernel_rfl
  refine callsIn_of_wp Try.func56 rfl h56 ?_ hro
  simp only [Try.ntmps56, List.size_toArray, List.length_cons, List.length_nil, Nat.reduceAdd, Nat.reduceSub, Array.replicate_succ, Array.replicate_zero, List.push_toArray, List.append_toArray, List.nil_append, List.cons_append]
  gi_wp2
  gi_loopw [4] (fun i wr => ∃ k : Nat, k ≤ nblk n ∧ i = .int .i64 (64 * (k : Int)) ∧ J (List.range k) wr ∧ wr.cell? ⟨Bs, 0, none⟩ = some (.slice (some ad) n c) ∧ wr.cell? ⟨Bn, 0, none⟩ = some (.int .i64 64))
    (fun i _ => 4096 - (intOf i).toNat)
  case atStart => exact ⟨0, Nat.zero_le _, rfl, h0, hBs, hBn⟩
  case round =>
    obtain ⟨k, hk, rfl, hJs, x0, x1⟩ := hrel
    by_cases hlt : 64 * k < n
    · have hkn : k < nblk n := by unfold nblk; rw [if_neg (by omega)]; omega
      have hJd : J (List.range k) wr.drew := hJ _ wr wr.drew none hJs ⟨rfl, rfl, rfl, Nat.le_refl _, fun _ _ _ => rfl⟩ (fun r e => by cases e)
      have z0 : wr.drew.cell? ⟨Bs, 0, none⟩ = some (.slice (some ad) n c) := x0
      have z1 : wr.drew.cell? ⟨Bn, 0, none⟩ = some (.int .i64 64) := x1
      have hRS := Lib.hid (List.range_succ (n := k))
      obtain ⟨fn, tmps, assign, body, hy, hR⟩ := hY _ k wr.drew hJd (by rw [List.length_range]; exact hkn)
      unfold chv at hy
      by_cases h64 : 64 ≤ n - 64 * k
      · rw [Nat.min_eq_left h64] at hy
        gi_wp2
        gi_region
        all_goals (
          generalize wr.drew = wd at hy hR z0 z1 ⊢
          have m1 : (min 64 ((n - 64 * k : Nat) : Int)) = 64 := by omega
          have m2 : (64 * (k : Int) + 64).toNat = 64 * k + 64 := by omega
          rw [m1]
          clear m1 x0 x1
          gi_wp2
          refine hR.mono ?_
          rintro e W3 (⟨rfl, hJ3, hk3⟩ | ⟨rfl, hJx3⟩)
          · have y0 := hk3.2.1.trans z0
            have y1 := hk3.2.2.trans z1
            gi_wp2
            go_roundw
            case rel => exact ⟨k + 1, by omega, by go_num, by rw [hRS.out]; exact hJ3, y0, y1⟩
            case measure => simp [intOf]; omega
          · gi_wp2
            refine bodyPost_ret (results_none rfl _ _ _) rfl ?_
            exact ⟨⟨_, rfl⟩, .inr ⟨_, trivial, hJx3⟩⟩)
      · have h64' : n - 64 * k < 64 := by omega
        rw [Nat.min_eq_right (by omega)] at hy
        gi_wp2
        gi_region
        all_goals (
          generalize wr.drew = wd at hy hR z0 z1 ⊢
          have m1 : (min 64 ((n - 64 * k : Nat) : Int)) = ((n - 64 * k : Nat) : Int) := by omega
          have m2 : (64 * (k : Int) + ((n - 64 * k : Nat) : Int)).toNat = 64 * k + (n - 64 * k) := by omega
          rw [m1]
          clear m1 x0 x1
          gi_wp2
          refine hR.mono ?_
          rintro e W3 (⟨rfl, hJ3, hk3⟩ | ⟨rfl, hJx3⟩)
          · have y0 := hk3.2.1.trans z0
            have y1 := hk3.2.2.trans z1
            gi_wp2
            go_roundw
            case rel => exact ⟨k + 1, by omega, by go_num, by rw [hRS.out]; exact hJ3, y0, y1⟩
            case measure => simp [intOf]; omega
          · gi_wp2
            refine bodyPost_ret (results_none rfl _ _ _) rfl ?_
            exact ⟨⟨_, rfl⟩, .inr ⟨_, trivial, hJx3⟩⟩)
    · obtain rfl : k = nblk n := by
        unfold nblk at hk ⊢
        rw [if_neg (by omega)] at hk ⊢
        omega
      gi_wp2
      go_end0
      exact ⟨⟨_, rfl⟩, .inl ⟨_, rfl, hJs⟩⟩

end Go.Proofs.Ytdaaigodpglnnaa
