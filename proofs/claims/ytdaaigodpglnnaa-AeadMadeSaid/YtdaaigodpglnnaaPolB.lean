/- poly.clamped: what it answers. Condition: 32 bytes. -/
import Derived.Test.YtdaaigodpglnnaaPolA
namespace Go.Proofs.Ytdaaigodpglnnaa.Po
open Go.RowKit Lm

theorem and_nat (x m : Nat) (hx : x < 18446744073709551616) (hm : m < 18446744073709551616) : bits .and .u64 (x : Int) (m : Int) = ((x &&& m : Nat) : Int) := by
  have h1 : (BitVec.ofInt 64 (x : Int)).toNat = x := by rw [BitVec.ofInt_natCast, BitVec.toNat_ofNat]; exact Nat.mod_eq_of_lt (by omega)
  have h2 : (BitVec.ofInt 64 (m : Int)).toNat = m := by rw [BitVec.ofInt_natCast, BitVec.toNat_ofNat]; exact Nat.mod_eq_of_lt (by omega)
  show IntKind.u64.wrap ((BitVec.ofInt 64 (x : Int) &&& BitVec.ofInt 64 (m : Int)).toNat : Int) = _
  have h3 : x &&& m ≤ x := Nat.and_le_left
  rw [BitVec.toNat_and, h1, h2, IntKind.wrap_u64]
  omega

set_option maxRecDepth 100000 in
set_option maxHeartbeats 1000000 in
theorem clamped_any (ks : List Nat) (w : World) (lk : ks.length = 32) (bk : ∀ x ∈ ks, x < 256) :
    Calls Try.prog 41 #[.agg (arr .u8 (nar ks))] w fun e w' => e = .returned (.agg (arr .u64 (nar (dig 18446744073709551616 4 (rv ks))))) ∧ Below w.heap.size w w' := by
  obtain ⟨v, hv⟩ : ∃ v, v = val 256 ks := ⟨_, rfl⟩
  have hrc := rv_code ks v hv
  obtain ⟨ns, hns⟩ : ∃ ns, ns = dig 18446744073709551616 4 v := ⟨_, rfl⟩
  have hnl : ns.length = 4 := by rw [hns, dig_len]
  obtain ⟨a, ha⟩ : ∃ a, a = v % 18446744073709551616 := ⟨_, rfl⟩
  obtain ⟨b, hb⟩ : ∃ b, b = v / 18446744073709551616 % 18446744073709551616 := ⟨_, rfl⟩
  have g0 : (nar ns).getD 0 0 = a := by rw [nar_get, hns, dig_get _ _ _ _ (by decide), ha]; simp
  have g1 : (nar ns).getD 1 0 = b := by rw [nar_get, hns, dig_get _ _ _ _ (by decide), hb]
  have ha1 : a < 18446744073709551616 := by rw [ha]; exact Nat.mod_lt _ (by decide)
  have hb1 : b < 18446744073709551616 := by rw [hb]; exact Nat.mod_lt _ (by decide)
  have n0 := and_nat a 1152921487695413247 ha1 (by decide)
  have n1 := and_nat b 1152921487695413244 hb1 (by decide)
  rw [← ha, ← hb] at hrc
  have hc0 : a &&& 1152921487695413247 < 18446744073709551616 := Nat.lt_of_le_of_lt Nat.and_le_left ha1
  have hc1 : b &&& 1152921487695413244 < 18446744073709551616 := Nat.lt_of_le_of_lt Nat.and_le_left hb1
  generalize a &&& 1152921487695413247 = c0 at n0 hrc hc0
  generalize b &&& 1152921487695413244 = c1 at n1 hrc hc1
  obtain ⟨os, hos⟩ : ∃ os, os = [c0, c1, 0, 0] := ⟨_, rfl⟩
  have hol : os.length = 4 := by rw [hos]; rfl
  have hod : os = dig 18446744073709551616 4 (rv ks) := dig_eq _ (by decide) 4 _ _ hol (by rw [hos]; intro x hx; simp at hx; omega) (by rw [hos]; exact hrc)
  rw [← hod]
  have HLS : Hid ((#[.int .u64 (c0 : Int), .int .u64 (c1 : Int), .int .u64 0, .int .u64 0] : Array Value) = arr .u64 (nar os)) := Lib.hid (by rw [hos]; rfl)
  have M1 := fun w => of_any ks w lk bk
  rw [← hv, ← hns] at M1
  obtain ⟨zs, hzs⟩ : ∃ zs : List Nat, zs = List.replicate 4 0 := ⟨_, rfl⟩
  have hz : ∀ w, (zeroValue 75).run Try.prog w = .ok (.agg (arr .u64 (nar zs))) w := by intro w; rw [hzs, nar_zeros]; exact zero4 w
  have hzl : zs.length = 4 := by rw [hzs]; rfl
  have S0 := B2.start w (arr .u8 (nar ks)) (arr .u64 (nar zs)) 35 75
  have HS := Lib.hid S0
  have HZ := Lib.hid hz
  have HZL := Lib.hid hzl
  have HM1 := Lib.hid M1
  have HN0 := Lib.hid n0
  have HN1 := Lib.hid n1
  have HNL := Lib.hid hnl
  have HOL := Lib.hid hol
  have G0 := Lib.hid g0
  have G1 := Lib.hid g1
  have LK := Lib.hid lk
  clear S0 hz hzl M1 n0 n1 hnl hol g0 g1 hos hod hns hv hrc hzs ha hb lk bk
  go_enter Try.func41, Try.ntmps41
  go_wp2_with (first | ((with_reducible show wpList _ _ _ (Oper.mk (some 2) _ _ _ _ _ :: _) _ _); refine wpList_alloc_row rfl 75 rfl _ (HZ.out _) ?_) | ((with_reducible show wpList _ _ _ (Oper.mk (some 4) _ _ _ _ _ :: _) _ _); refine wpList_load_part rfl 35 _ rfl w.heap.size 0 _ 35 (0, 0) _ HS.out.b0 rfl .u8 (nar ks) (arr_part _ _) Try.underlying35 rfl (nar32i ks LK.out) ?_) | ((with_reducible show Calls _ _ _ _ _); go_at_call 47; refine (HM1.out _).mono ?_; rintro e w8 ⟨rfl, hbw⟩; have HB8 := Lib.hid (HS.out.after hbw); have hlt8 := blk_lt HB8.out.b1; clear hbw) | ((with_reducible show wpList _ _ _ (Oper.mk (some 3) _ _ _ _ _ :: _) _ _); refine wpList_alloc_row rfl 75 rfl _ (HZ.out _) ?_; go_simp) | ((with_reducible show wpList _ _ _ (Oper.mk none (Op.store _ (Operand.tmp 3) _) _ _ _ _ :: _) _ _); refine wpList_store_whole rfl 75 _ _ rfl w8.heap.size _ _ 75 (blk_new _ _) rfl rfl ((nar4 ns HNL.out).trans (nar4 zs HZL.out).symm) (nar4s ns HNL.out) (all_arr _ _) ?_; intro w9 hb9 hk9 hz9; have HB9 := Lib.hid ((HB8.out.alloc (.cells (arr .u64 (nar zs)) 75)).farK hk9 (by rintro i rfl; omega)); have q0 := blk_arr' hb9 0 (by rw [nar_len, HNL.out]; omega); have q1 := blk_arr' hb9 1 (by rw [nar_len, HNL.out]; omega); rw [G0.out] at q0; rw [G1.out] at q1; clear hb9 hk9 hz9) | ((with_reducible show wpList _ _ _ (Oper.mk none (Op.store _ (Operand.tmp 2) _) _ _ _ _ :: _) _ _); rw [show (1152921487695413247 : Int) = ((1152921487695413247 : Nat) : Int) from rfl, show (1152921487695413244 : Int) = ((1152921487695413244 : Nat) : Int) from rfl, HN0.out, HN1.out, HLS.out]; refine wpList_store_whole rfl 75 _ _ rfl (w.heap.size + 1) _ _ 75 HB9.out.b1 rfl rfl ((nar4 os HOL.out).trans (nar4 zs HZL.out).symm) (nar4s os HOL.out) (all_arr _ _) ?_; intro w6 hb6 hk6 hz6; have HB6 := Lib.hid (HB9.out.put1 hk6 hb6); clear hb6 hk6 hz6))
  (try simp only [Exit.inBlock, Exit.then])
  refine bodyPost_ret (results_cell_row rfl _ _ (w.heap.size + 1) 75 _ (0, 0) _ rfl HB6.out.b1 Try.underlying75 rfl (nar4s os HOL.out)) rfl ?_
  exact ⟨rfl, HB6.out.below⟩
end Go.Proofs.Ytdaaigodpglnnaa.Po
