/- portcullisref1.padded, the turned words of the document's hash. Condition: the bytes are at most 2^46. -/
import Derived.Test.YtanjhngehfbpbaaDoorMb
import Derived.Test.YtanjhngehfbpbaaDoorMa
import Derived.Deep.LoopGhost
namespace Go.Proofs.YtanjhngehfbpbaaDoor.Hb
open Go.RowKit

theorem or_comm (k : IntKind) (a b : Int) : bits .or k a b = bits .or k b a := by
  unfold bits
  simp only
  rw [BitVec.or_comm]
theorem ror_1 (x : Int) (w : World) : Calls Tryd.prog 109 #[.int .u64 x, .int .u64 1] w fun e w' => e = .returned (.int .u64 (rot x 2 9223372036854775808)) ∧ w = w' := by
  go_enter Tryd.func109, Tryd.ntmps109
  go_wp2
  go_ret
  exact ⟨by unfold rot; rw [or_comm]; rfl, rfl⟩
theorem ror_8 (x : Int) (w : World) : Calls Tryd.prog 109 #[.int .u64 x, .int .u64 8] w fun e w' => e = .returned (.int .u64 (rot x 256 72057594037927936)) ∧ w = w' := by
  go_enter Tryd.func109, Tryd.ntmps109
  go_wp2
  go_ret
  exact ⟨by unfold rot; rw [or_comm]; rfl, rfl⟩
theorem ror_14 (x : Int) (w : World) : Calls Tryd.prog 109 #[.int .u64 x, .int .u64 14] w fun e w' => e = .returned (.int .u64 (rot x 16384 1125899906842624)) ∧ w = w' := by
  go_enter Tryd.func109, Tryd.ntmps109
  go_wp2
  go_ret
  exact ⟨by unfold rot; rw [or_comm]; rfl, rfl⟩
theorem ror_18 (x : Int) (w : World) : Calls Tryd.prog 109 #[.int .u64 x, .int .u64 18] w fun e w' => e = .returned (.int .u64 (rot x 262144 70368744177664)) ∧ w = w' := by
  go_enter Tryd.func109, Tryd.ntmps109
  go_wp2
  go_ret
  exact ⟨by unfold rot; rw [or_comm]; rfl, rfl⟩
theorem ror_19 (x : Int) (w : World) : Calls Tryd.prog 109 #[.int .u64 x, .int .u64 19] w fun e w' => e = .returned (.int .u64 (rot x 524288 35184372088832)) ∧ w = w' := by
  go_enter Tryd.func109, Tryd.ntmps109
  go_wp2
  go_ret
  exact ⟨by unfold rot; rw [or_comm]; rfl, rfl⟩
theorem ror_28 (x : Int) (w : World) : Calls Tryd.prog 109 #[.int .u64 x, .int .u64 28] w fun e w' => e = .returned (.int .u64 (rot x 268435456 68719476736)) ∧ w = w' := by
  go_enter Tryd.func109, Tryd.ntmps109
  go_wp2
  go_ret
  exact ⟨by unfold rot; rw [or_comm]; rfl, rfl⟩
theorem ror_34 (x : Int) (w : World) : Calls Tryd.prog 109 #[.int .u64 x, .int .u64 34] w fun e w' => e = .returned (.int .u64 (rot x 17179869184 1073741824)) ∧ w = w' := by
  go_enter Tryd.func109, Tryd.ntmps109
  go_wp2
  go_ret
  exact ⟨by unfold rot; rw [or_comm]; rfl, rfl⟩
theorem ror_39 (x : Int) (w : World) : Calls Tryd.prog 109 #[.int .u64 x, .int .u64 39] w fun e w' => e = .returned (.int .u64 (rot x 549755813888 33554432)) ∧ w = w' := by
  go_enter Tryd.func109, Tryd.ntmps109
  go_wp2
  go_ret
  exact ⟨by unfold rot; rw [or_comm]; rfl, rfl⟩
theorem ror_41 (x : Int) (w : World) : Calls Tryd.prog 109 #[.int .u64 x, .int .u64 41] w fun e w' => e = .returned (.int .u64 (rot x 2199023255552 8388608)) ∧ w = w' := by
  go_enter Tryd.func109, Tryd.ntmps109
  go_wp2
  go_ret
  exact ⟨by unfold rot; rw [or_comm]; rfl, rfl⟩
theorem ror_61 (x : Int) (w : World) : Calls Tryd.prog 109 #[.int .u64 x, .int .u64 61] w fun e w' => e = .returned (.int .u64 (rot x 2305843009213693952 8)) ∧ w = w' := by
  go_enter Tryd.func109, Tryd.ntmps109
  go_wp2
  go_ret
  exact ⟨by unfold rot; rw [or_comm]; rfl, rfl⟩

def zs' (n : Nat) : Nat := (2 * 128 - 16 - 1 - n % 128) % 128
/-- The length's bytes, the first so many of them. -/
def lenB (n j : Nat) : List Int := (List.range j).map fun i => if 16 - 1 - i < 8 then ((8 * n / 2 ^ (8 * (16 - 1 - i)) % 256 : Nat) : Int) else 0
theorem lenB_succ (n j : Nat) : lenB n (j + 1) = lenB n j ++ [if 16 - 1 - j < 8 then ((8 * n / 2 ^ (8 * (16 - 1 - j)) % 256 : Nat) : Int) else 0] := by simp [lenB, List.range_succ]
theorem lenB_all (n : Nat) : (128 :: List.replicate (zs' n) 0) ++ lenB n 16 = tail n := by
  unfold tail lenB zs'
  rw [List.append_assoc]
  congr 1
theorem rep_snoc' (k : Nat) : (128 : Int) :: List.replicate (k + 1) 0 = (128 :: List.replicate k 0) ++ [0] := by rw [List.replicate_succ', List.cons_append]
theorem and255 (x : Nat) (hx : x < 9223372036854775808) : bits .and .i64 (x : Int) 255 = ((x % 256 : Nat) : Int) := by
  have e : x &&& 255 = x % 256 := Nat.and_two_pow_sub_one_eq_mod x 8
  have h1 : (BitVec.ofInt 64 (x : Int)).toNat = x := by
    rw [BitVec.ofInt_natCast, BitVec.toNat_ofNat]; exact Nat.mod_eq_of_lt (by omega)
  have h2 : (BitVec.ofInt 64 (255 : Int)).toNat = 255 := by decide
  show IntKind.i64.wrap ((BitVec.ofInt 64 (x : Int) &&& BitVec.ofInt 64 (255 : Int)).toNat : Int) = _
  rw [BitVec.toNat_and, h1, h2, e, IntKind.wrap_i64]
  omega

/-- The padded bytes while they are made. -/
structure PadR (w wr : World) (v : Value) (ys : List Int) : Prop where
  own : Own8 wr w.heap.size v ys
  below : Below w.heap.size w wr
theorem PadR.snoc {w wr w' : World} {v v' : Value} {ys : List Int} {x : Int} (h : PadR w wr v ys) (o : Obj) (h1 : Own8 w' w.heap.size v' (ys ++ [x])) (hg : (wr.alloc o).grownBy w' v.ownBlock) : PadR w w' v' (ys ++ [x]) :=
  ⟨h1, app8_below (h.own.alloc o) hg (h.below.alloc h.below.size o) (Nat.le_trans h.below.size (by simp))⟩

set_option maxRecDepth 100000 in
set_option maxHeartbeats 3200000 in
theorem padded_any (sa : Option Addr) (n c : Nat) (xs : List Int) (w : World) (hs : Src w sa n xs) (hn : n ≤ 70368744177664) :
    Calls Tryd.prog 108 #[.slice sa n c, .int .i64 128, .int .i64 16] w fun e w' => ∃ v, e = .returned v ∧ Own8 w' w.heap.size v (xs ++ tail n) ∧ Below w.heap.size w w' := by
  have hxl := hs.len
  have HS := Lib.hid hs
  have HXL := Lib.hid hxl
  clear hs hxl
  go_enter Tryd.func108, Tryd.ntmps108
  go_wp2_with (first | ((with_reducible refine aS 12 ?_); refine wpList_app8 rfl _ _ rfl w.heap.size (.slice none 0 0) [] rfl (Own8.nil _ _) sa n _ xs rfl HS.out ?_ (Nat.le_refl _) ?_; (simp; omega); intro v1 w1 hown1 hgrow1 hnil1 hat1; rw [List.nil_append] at hown1; have hb1 : Below w.heap.size w w1 := (Below.refl _ w).grown hgrow1 (Nat.le_refl _) (fun k hk => by cases hk); have HO1 := Lib.hid hown1; clear hown1 hgrow1 hnil1 hat1) | ((with_reducible refine aS 14 ?_); refine wpList_app8 rfl _ _ rfl w.heap.size v1 xs rfl (HO1.out.alloc _) (some ⟨w1.heap.size, 0, none⟩) 1 _ [128] rfl (src_one _ _) ?_ (Nat.le_trans hb1.size (by simp)) ?_; (rw [HXL.out]; omega); intro v2 w2 hown2 hgrow2 hnil2 hat2; have HP2 := Lib.hid (PadR.snoc ⟨HO1.out, hb1⟩ _ hown2 hgrow2); clear hown2 hgrow2 hnil2 hat2))
  obtain ⟨s2, c2, hv2, -⟩ := HP2.out.own.form
  rw [List.length_append, HXL.out, List.length_singleton] at hv2
  subst hv2
  go_loopg [7] (zs' n) (fun g m wr => ∃ (k l : Nat) (sv : Option Addr) (cv : Nat), g + k = zs' n ∧ l = n + 1 + k ∧ m = .slice sv l cv ∧ PadR w wr (.slice sv l cv) (xs ++ (128 :: List.replicate k 0)))
  case atStart => exact ⟨0, n + 1, s2, c2, by omega, rfl, rfl, HP2.out⟩
  case round =>
    obtain ⟨k, l, sv, cv, hk, hl, rfl, hp⟩ := hrel
    obtain ⟨wo, rfl⟩ : ∃ wo : World, wo = wr := ⟨_, rfl⟩
    have hzs : zs' n = (2 * 128 - 16 - 1 - n % 128) % 128 := rfl
    have hmod : ((l : Int) % 128) = (((n + 1 + k) % 128 : Nat) : Int) := by rw [hl]; omega
    have hl1 : l ≤ 140737488355000 := by rw [hl]; omega
    have HL := Lib.hid hl
    by_cases hlt : k < zs' n
    · have t1 : (((l : Int) % 128) == 112) = false := by rw [hmod]; simp; omega
      have t2 : (((l : Int) % 128) != 112) = true := by rw [hmod]; simp; omega
      have HP := Lib.hid hp
      clear hzs hmod hp hl
      go_wp2_with ((with_reducible refine aS 25 ?_); refine wpList_app8 rfl _ _ rfl w.heap.size (.slice sv l cv) (xs ++ (128 :: List.replicate k 0)) rfl (HP.out.own.alloc _) (some ⟨wo.heap.size, 0, none⟩) 1 _ [0] rfl (src_one _ _) ?_ (Nat.le_trans HP.out.below.size (by simp)) ?_; (rw [List.length_append, HXL.out, List.length_cons, List.length_replicate]; have := HL.out; omega); intro v5 w5 hown5 hgrow5 hnil5 hat5; have hp5 := PadR.snoc HP.out _ hown5 hgrow5; clear hown5 hgrow5 hnil5 hat5; rw [List.append_assoc, ← rep_snoc'] at hp5; obtain ⟨s5, c5, hv5, -⟩ := hp5.own.form; rw [List.length_append, HXL.out, List.length_cons, List.length_replicate, show n + (k + 1 + 1) = l + 1 by have := HL.out; omega] at hv5; subst hv5; have HP5 := Lib.hid hp5; clear hp5)
      go_roundg (gk - 1)
      case measure => omega
      case rel => exact ⟨k + 1, l + 1, s5, c5, by omega, by have := HL.out; omega, rfl, HP5.out⟩
    · have t1 : (((l : Int) % 128) == 112) = true := by rw [hmod]; simp; omega
      have t2 : (((l : Int) % 128) != 112) = false := by rw [hmod]; simp; omega
      have ek : k = zs' n := by omega
      obtain ⟨ys, hys⟩ : ∃ ys, ys = xs ++ (128 :: List.replicate k 0) := ⟨_, rfl⟩
      rw [← hys] at hp
      rw [ek] at hys
      have hyl : ys.length = l := by rw [hys, hl, ek, List.length_append, HXL.out]; simp; omega
      have HYS := Lib.hid hys
      have HYL := Lib.hid hyl
      have HP := Lib.hid hp
      clear hzs hmod hp hl ek hys hyl
      go_wp2_with fail
      go_loopg [7, 9] 16 (fun g m i wr => ∃ (j l' : Nat) (sv : Option Addr) (cv : Nat), g + j = 16 ∧ l' = l + j ∧ i = .int .i64 (15 - (j : Int)) ∧ m = .slice sv l' cv ∧ PadR w wr (.slice sv l' cv) (ys ++ lenB n j))
      case atStart => exact ⟨0, l, sv, cv, rfl, rfl, rfl, rfl, by simpa [lenB] using HP.out⟩
      case round =>
        obtain ⟨j, l', sv', cv', hj, hl', rfl, rfl, hp⟩ := hrel
        obtain ⟨wo2, rfl⟩ : ∃ wo2 : World, wo2 = wr := ⟨_, rfl⟩
        have hll : (lenB n j).length = j := by simp [lenB]
        have HLL := Lib.hid hll
        have HL' := Lib.hid hl'
        have HP3 := Lib.hid hp
        clear hll hl' hp
        by_cases hlt2 : j < 16
        · by_cases h8 : 15 - j < 8
          · have e1 : (8 * (15 - (j : Int))).toNat = 8 * (15 - j) := by omega
            have e2 : 0 ≤ 8 * (15 - (j : Int)) := by omega
            have e3 : 8 * (15 - (j : Int)) ≤ 56 := by omega
            have e4 : (15 : Int) - (j : Int) < 8 := by omega
            have e5 : bits .and .i64 (8 * (n : Int) / 2 ^ (8 * (15 - j))) 255 = ((8 * n / 2 ^ (8 * (15 - j)) % 256 : Nat) : Int) := by
              rw [show (8 * (n : Int) / 2 ^ (8 * (15 - j))) = ((8 * n / 2 ^ (8 * (15 - j)) : Nat) : Int) by rw [Int.natCast_ediv, Int.natCast_mul, Int.natCast_pow]; rfl]
              exact and255 _ (Nat.lt_of_le_of_lt (Nat.div_le_self _ _) (by omega))
            have e6 : lenB n (j + 1) = lenB n j ++ [((8 * n / 2 ^ (8 * (15 - j)) % 256 : Nat) : Int)] := by rw [lenB_succ, if_pos h8]
            obtain ⟨x, hx⟩ : ∃ x, x = 8 * n / 2 ^ (8 * (15 - j)) % 256 := ⟨_, rfl⟩
            have hx1 : x < 256 := by rw [hx]; exact Nat.mod_lt _ (by omega)
            rw [← hx] at e5 e6
            have E6 := Lib.hid e6
            clear hx e6
            go_wp2_with ((with_reducible refine aS 47 ?_); refine wpList_app8 rfl _ _ rfl w.heap.size (.slice sv' l' cv') (ys ++ lenB n j) rfl (HP3.out.own.alloc _) (some ⟨wo2.heap.size, 0, none⟩) 1 _ [(x : Int)] rfl (src_one _ _) ?_ (Nat.le_trans HP3.out.below.size (by simp)) ?_; (rw [List.length_append, HYL.out, HLL.out]; omega); intro v5 w5 hown5 hgrow5 hnil5 hat5; have hp5 := PadR.snoc HP3.out _ hown5 hgrow5; clear hown5 hgrow5 hnil5 hat5; rw [List.append_assoc, ← E6.out] at hp5; obtain ⟨s5, c5, hv5, -⟩ := hp5.own.form; rw [List.length_append, HYL.out, E6.out, List.length_append, HLL.out, List.length_singleton, show l + (j + 1) = l' + 1 by have := HL'.out; omega] at hv5; subst hv5; have HP5 := Lib.hid hp5; clear hp5)
            go_roundg (gk - 1)
            case measure => omega
            case rel => exact ⟨j + 1, l' + 1, s5, c5, by omega, by have := HL'.out; omega, by congr 1; omega, rfl, HP5.out⟩
          · have e6 : lenB n (j + 1) = lenB n j ++ [0] := by rw [lenB_succ, if_neg h8]
            have e4 : ¬ (15 : Int) - (j : Int) < 8 := by omega
            have E6 := Lib.hid e6
            clear e6
            go_wp2_with ((with_reducible refine aS 47 ?_); refine wpList_app8 rfl _ _ rfl w.heap.size (.slice sv' l' cv') (ys ++ lenB n j) rfl (HP3.out.own.alloc _) (some ⟨wo2.heap.size, 0, none⟩) 1 _ [0] rfl (src_one _ _) ?_ (Nat.le_trans HP3.out.below.size (by simp)) ?_; (rw [List.length_append, HYL.out, HLL.out]; omega); intro v5 w5 hown5 hgrow5 hnil5 hat5; have hp5 := PadR.snoc HP3.out _ hown5 hgrow5; clear hown5 hgrow5 hnil5 hat5; rw [List.append_assoc, ← E6.out] at hp5; obtain ⟨s5, c5, hv5, -⟩ := hp5.own.form; rw [List.length_append, HYL.out, E6.out, List.length_append, HLL.out, List.length_singleton, show l + (j + 1) = l' + 1 by have := HL'.out; omega] at hv5; subst hv5; have HP5 := Lib.hid hp5; clear hp5)
            go_roundg (gk - 1)
            case measure => omega
            case rel => exact ⟨j + 1, l' + 1, s5, c5, by omega, by have := HL'.out; omega, by congr 1; omega, rfl, HP5.out⟩
        · have ej : j = 16 := by omega
          have hfin : Own8 wo2 w.heap.size (.slice sv' l' cv') (xs ++ tail n) := by
            have := HP3.out.own
            rwa [ej, HYS.out, List.append_assoc, lenB_all] at this
          have hbe := HP3.out.below
          have HF := Lib.hid hfin
          clear ej hfin
          go_wp2_with fail
          go_ret
          exact ⟨_, rfl, HF.out, hbe⟩

end Go.Proofs.YtanjhngehfbpbaaDoor.Hb
