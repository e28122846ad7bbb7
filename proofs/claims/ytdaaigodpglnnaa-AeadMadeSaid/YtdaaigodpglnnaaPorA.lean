/- The document's carried: what it answers. Condition: 17 places, each below 2^45. -/
import Derived.Test.YtdaaigodpglnnaaLimA
import Derived.Test.YtdaaigodpglnnaaPorP
namespace Go.Proofs.Ytdaaigodpglnnaa.Po
open Go.RowKit Lm

theorem zero17 (w : World) : (zeroValue 102).run Try.prog w = .ok (.agg (arr .i64 (List.replicate 17 0))) w := by kernel_rfl
theorem nar17 (xs : List Nat) (hl : xs.length = 17) : (arr .i64 (nar xs)).size = (arr .i64 (List.replicate 17 0)).size := by rw [arr_size, arr_size, nar_len, hl, List.length_replicate]
theorem nar17s (xs : List Nat) (hl : xs.length = 17) : (Try.prog.info? 102).map (·.size) = some (arr .i64 (nar xs)).size := by rw [arr_size, nar_len, hl]; kernel_rfl
theorem nar17i (xs : List Nat) (hl : xs.length = 17) : (Try.prog.info? 102).map (·.size) = some (nar xs).length := by rw [nar_len, hl]; kernel_rfl
def stp (hs : List Nat) : Nat → List Nat
  | 0 => hs
  | k + 1 => pk (val 256 (stp hs k))
theorem stp_facts (hs : List Nat) (hl : hs.length = 17) (hb : ∀ x ∈ hs, x < 2 ^ 45) : ∀ k, (stp hs k).length = 17 ∧ (∀ x ∈ stp hs k, x < 2 ^ 60) ∧ val 256 (stp hs k) < 2 ^ 181
  | 0 => ⟨hl, fun x hx => by have := hb x hx; omega, val17 hs hl hb⟩
  | k + 1 => by
    obtain ⟨h1, h2, h3⟩ := stp_facts hs hl hb k
    refine ⟨pk_len _, pk_big _ h3, ?_⟩
    rw [stp, val_pk]
    have := fold_lt2 _ h3
    omega
theorem take_div (xs : List Nat) (i : Nat) (h : ∀ x ∈ xs, x < 2 ^ 60) (hi : i ≤ xs.length) : val 256 (xs.take i) / 256 ^ i ≤ 2 ^ 60 := by
  have := val_le 256 (2 ^ 60) (by decide) (xs.take i) (fun x hx => Nat.le_of_lt (h x (List.mem_of_mem_take hx)))
  rw [List.length_take, Nat.min_eq_left hi] at this
  refine Nat.div_le_of_le_mul ?_
  rw [Nat.mul_comm]
  omega

theorem and255 (x : Nat) (hx : x < 9223372036854775808) : bits .and .i64 (x : Int) 255 = ((x % 256 : Nat) : Int) := by
  have e : x &&& 255 = x % 256 := Nat.and_two_pow_sub_one_eq_mod x 8
  have h1 : (BitVec.ofInt 64 (x : Int)).toNat = x := by rw [BitVec.ofInt_natCast, BitVec.toNat_ofNat]; exact Nat.mod_eq_of_lt (by omega)
  have h2 : (BitVec.ofInt 64 (255 : Int)).toNat = 255 := by decide
  show IntKind.i64.wrap ((BitVec.ofInt 64 (x : Int) &&& BitVec.ofInt 64 (255 : Int)).toNat : Int) = _
  rw [BitVec.toNat_and, h1, h2, e, IntKind.wrap_i64]
  omega
theorem and3i (x : Nat) (hx : x < 9223372036854775808) : bits .and .i64 (x : Int) 3 = ((x % 4 : Nat) : Int) := by
  have e : x &&& 3 = x % 4 := Nat.and_two_pow_sub_one_eq_mod x 2
  have h1 : (BitVec.ofInt 64 (x : Int)).toNat = x := by rw [BitVec.ofInt_natCast, BitVec.toNat_ofNat]; exact Nat.mod_eq_of_lt (by omega)
  have h2 : (BitVec.ofInt 64 (3 : Int)).toNat = 3 := by decide
  show IntKind.i64.wrap ((BitVec.ofInt 64 (x : Int) &&& BitVec.ofInt 64 (3 : Int)).toNat : Int) = _
  rw [BitVec.toNat_and, h1, h2, e, IntKind.wrap_i64]
  omega

set_option maxRecDepth 100000 in
set_option maxHeartbeats 2000000 in
theorem carried_any (hs : List Nat) (w : World) (hl : hs.length = 17) (hb : ∀ x ∈ hs, x < 2 ^ 45) :
    Calls Try.prog 75 #[.agg (arr .i64 (nar hs))] w fun e w' => e = .returned (.agg (arr .i64 (nar (pk (fold (fold (val 256 hs))))))) ∧ Below w.heap.size w w' := by
  obtain ⟨zs, hzs⟩ : ∃ zs : List Nat, zs = List.replicate 17 0 := ⟨_, rfl⟩
  have hz : ∀ w, (zeroValue 102).run Try.prog w = .ok (.agg (arr .i64 (nar zs))) w := by intro w; rw [hzs, nar_zeros]; exact zero17 w
  have hzl : zs.length = 17 := by rw [hzs]; rfl
  obtain ⟨rs, hrs⟩ : ∃ rs, rs = pk (fold (fold (val 256 hs))) := ⟨_, rfl⟩
  have h3 : stp hs 3 = rs := by rw [hrs, stp, stp, stp, val_pk, val_pk]; rfl
  rw [← hrs]
  have S0 := B2.start w (arr .i64 (nar hs)) (arr .i64 (nar zs)) 102 102
  have HS0 := Lib.hid S0
  have HZ := Lib.hid hz
  have HZL := Lib.hid hzl
  have H3 := Lib.hid h3
  have HF := Lib.hid (stp_facts hs hl hb)
  clear S0 hz hzl h3 hl hb hzs hrs
  go_enter Try.func75, Try.ntmps75
  go_wp2_with (first | ((with_reducible show wpList _ _ _ (Oper.mk (some 2) _ _ _ _ _ :: _) _ _); refine wpList_alloc_row rfl 102 rfl _ (HZ.out _) ?_))
  go_loopw [3] (fun v wr => ∃ k : Nat, k ≤ 3 ∧ v = .int .i64 k ∧ B2 w wr (arr .i64 (nar (stp hs k))) (arr .i64 (nar zs)) 102 102) (fun v _ => 3 - (intOf v).toNat)
  case atStart => exact ⟨0, Nat.zero_le _, rfl, HS0.out⟩
  clear HS0
  case round =>
  obtain ⟨k, hk, rfl, hB⟩ := hrel
  by_cases hlt : k < 3
  · obtain ⟨cl, cb, -⟩ := HF.out k
    obtain ⟨cs, hcs⟩ : ∃ cs, cs = stp hs k := ⟨_, rfl⟩
    have hnx : stp hs (k + 1) = pk (val 256 cs) := by rw [stp, hcs]
    rw [← hcs] at cl cb hB
    have HNX := Lib.hid hnx
    have CL := Lib.hid cl
    have CB := Lib.hid cb
    have HB := Lib.hid hB
    clear hcs hnx cl cb hB
    go_wp2_with fail
    generalize Value.bool (decide ((k : Int) < 3)) = u7'
    go_loopw [4, 5] (fun uv iv wr => ∃ i u : Nat, i ≤ 16 ∧ iv = .int .i64 i ∧ uv = .int .i64 u ∧ u = val 256 (cs.take i) / 256 ^ i ∧ B2 w wr (arr .i64 (nar (mid cs i))) (arr .i64 (nar zs)) 102 102) (fun _ iv _ => 16 - (intOf iv).toNat)
    case atStart => exact ⟨0, 0, Nat.zero_le _, rfl, rfl, by simp [val], by rw [mid_zero]; exact HB.out⟩
    case round =>
      obtain ⟨i, u, hi, rfl, rfl, hu, hB⟩ := hrel
      have hu2 : u ≤ 2 ^ 60 := by rw [hu]; exact take_div cs i CB.out (by rw [CL.out]; omega)
      have ml := mid_len cs i (by rw [CL.out]; omega)
      rw [CL.out] at ml
      by_cases hli : i < 16
      · obtain ⟨m1, m2⟩ := mid_step cs i u (by rw [CL.out]; omega) hu
        have q0 := blk_arr' hB.b0 i (by rw [nar_len, ml]; omega)
        have q3 := free_blk hB.b0 i
        rw [nar_get, mid_get] at q0
        have hx2 := lt_getD CB.out (by decide) i
        generalize cs.getD i 0 = x at q0 m1 m2 hx2
        have hb1 := hB.set0 i (.int .i64 (((u + x) % 256 : Nat) : Int))
        rw [arr_set, ← nar_set, m1] at hb1
        have hand := and255 (u + x) (by omega)
        rw [Int.natCast_add] at hand
        rw [← hand] at hb1
        have HB1 := Lib.hid hb1
        have M2 := Lib.hid m2
        clear m1 m2 hb1 hB hu ml hand
        go_wp2_with fail
        go_roundw
        case rel => exact ⟨i + 1, (u + x) / 256, by omega, by go_num, rfl, M2.out, HB1.out⟩
        case measure => simp [intOf]; omega
      · have ei : i = 16 := by omega
        rw [ei] at hu hB ml
        have me := mid_end cs u CL.out hu
        have q0 := blk_arr' hB.b0 16 (by rw [nar_len, ml]; omega)
        have q1 := blk_arr' hB.b0 0 (by rw [nar_len, ml]; omega)
        have q3 := free_blk hB.b0 16
        have q4 := free_blk hB.b0 0
        rw [nar_get, mid_get] at q0
        rw [nar_get] at q1
        have e0 : ((mid cs 16).set 16 ((u + cs.getD 16 0) % 4)).getD 0 0 = (mid cs 16).getD 0 0 := by simp [List.getD]
        rw [e0] at me
        have hx2 := lt_getD CB.out (by decide) 16
        have hx3 : (mid cs 16).getD 0 0 < 2 ^ 60 := by
          rw [mid, dig]
          have := Nat.mod_lt (val 256 (cs.take 16)) (show 256 > 0 by decide)
          show val 256 (cs.take 16) % 256 < 2 ^ 60
          omega
        generalize cs.getD 16 0 = x at q0 me hx2
        generalize (mid cs 16).getD 0 0 = y at q1 me hx3
        have hb1 := (hB.set0 16 (.int .i64 (((u + x) % 4 : Nat) : Int))).set0 0 (.int .i64 ((y + 5 * ((u + x) / 4) : Nat) : Int))
        rw [arr_set, ← nar_set, arr_set, ← nar_set, me, ← HNX.out] at hb1
        have hand := and3i (u + x) (by omega)
        rw [Int.natCast_add] at hand
        rw [← hand] at hb1
        have HB1 := Lib.hid hb1
        clear me hb1 hB hu ml e0 ei hand
        go_wp2_with fail
        go_roundw
        case rel => exact ⟨k + 1, by omega, by go_num, HB1.out⟩
        case measure => simp [intOf]; omega
  · have e4 : k = 3 := by omega
    rw [e4, H3.out] at hB
    have hol : rs.length = 17 := by rw [← H3.out]; exact (HF.out 3).1
    have HB := Lib.hid hB
    have HOL := Lib.hid hol
    clear hB e4 hol
    go_wp2_with (first | ((with_reducible show wpList _ _ _ (Oper.mk (some 39) _ _ _ _ _ :: _) _ _); refine wpList_load_part rfl 102 _ rfl w.heap.size 0 _ 102 (0, 0) _ HB.out.b0 rfl .i64 (nar rs) (arr_part _ _) Try.underlying102 rfl (nar17i rs HOL.out) ?_) | ((with_reducible show wpList _ _ _ (Oper.mk none _ _ _ _ _ :: _) _ _); refine wpList_store_whole rfl 102 _ _ rfl (w.heap.size + 1) _ _ 102 HB.out.b1 rfl rfl ((nar17 rs HOL.out).trans (nar17 zs HZL.out).symm) (nar17s rs HOL.out) (all_arr _ _) ?_; intro w7 hb7 hk7 hz7; have HB7 := Lib.hid (HB.out.put1 hk7 hb7); clear hb7 hk7 hz7))
    (try simp only [Exit.inBlock, Exit.then])
    refine bodyPost_ret (results_cell_row rfl _ _ (w.heap.size + 1) 102 _ (0, 0) _ rfl HB7.out.b1 Try.underlying102 rfl (nar17s rs HOL.out)) rfl ?_
    exact ⟨rfl, HB7.out.below⟩
end Go.Proofs.Ytdaaigodpglnnaa.Po
