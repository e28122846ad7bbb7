/- The document's filled and length. Condition: at most 2^41 bytes. -/
import Derived.Test.YtdaaigodpglnnaaAeA
namespace Go.Proofs.Ytdaaigodpglnnaa.Ae
open Go.RowKit Lm Po Ch

structure OwnR (B : Nat) (w wr : World) (v : Value) (xs : List Int) : Prop where
  own : Own8 wr B v xs
  below : Below B w wr
theorem OwnR.app {B : Nat} {w wr w' : World} {v v' : Value} {xs ys : List Int} (h : OwnR B w wr v xs) (hB : B ≤ wr.heap.size) (o : Obj) (h1 : Own8 w' B v' (xs ++ ys)) (hg : (wr.alloc o).grownBy w' v.ownBlock) : OwnR B w w' v' (xs ++ ys) :=
  ⟨h1, app8_below (h.own.alloc o) hg (h.below.alloc hB o) (Nat.le_trans hB (by simp))⟩
theorem rep_snoc (k : Nat) : List.replicate (k + 1) (0 : Int) = List.replicate k 0 ++ [0] := List.replicate_succ'

set_option maxRecDepth 100000 in
set_option maxHeartbeats 1000000 in
theorem filled_any (B : Nat) (v : Value) (xs : List Int) (w : World) (ho : Own8 w B v xs) (hB : B ≤ w.heap.size) (hn : xs.length ≤ 2199023255552) :
    Calls Try.prog 60 #[v] w fun e w' => ∃ v', e = .returned v' ∧ Own8 w' B v' (xs ++ List.replicate (zr xs.length) 0) ∧ Below B w w' := by
  obtain ⟨s0, c0, hv0, -⟩ := ho.form
  subst hv0
  obtain ⟨n, hnl⟩ : ∃ n, n = xs.length := ⟨_, rfl⟩
  rw [← hnl] at hn ⊢
  obtain ⟨Z, hZ⟩ : ∃ Z, Z = zr n := ⟨_, rfl⟩
  rw [← hZ]
  have hz16 : Z < 16 := by rw [hZ]; exact Nat.mod_lt _ (by decide)
  have hmod0 : ∀ k, k < Z → (n + k) % 16 ≠ 0 := by rw [hZ]; unfold zr; omega
  have hmod1 : (n + Z) % 16 = 0 := by rw [hZ]; unfold zr; omega
  have HO := Lib.hid ho
  have HNL := Lib.hid hnl
  have HM0 := Lib.hid hmod0
  have HM1 := Lib.hid hmod1
  clear ho hZ hmod0 hmod1

  clear hnl
  go_enter Try.func60, Try.ntmps60
  go_wp2_with fail
  go_loopg [0] Z (fun g m wr => ∃ (k l : Nat) (sv : Option Addr) (cv : Nat), g + k = Z ∧ l = n + k ∧ m = .slice sv l cv ∧ OwnR B w wr (.slice sv l cv) (xs ++ List.replicate k 0))
  case atStart => exact ⟨0, n, s0, c0, by omega, rfl, rfl, ⟨by rw [List.replicate_zero, List.append_nil, HNL.out]; exact HO.out, Below.refl _ w⟩⟩
  case round =>
    obtain ⟨k, l, sv, cv, hk, hl, rfl, hp⟩ := hrel
    obtain ⟨wo, rfl⟩ : ∃ wo : World, wo = wr := ⟨_, rfl⟩
    have hl1 : l ≤ 140737488355000 := by omega
    have HL := Lib.hid hl
    have hBw : B ≤ wo.heap.size := Nat.le_trans hB hp.below.size
    by_cases hlt : k < Z
    · have t1 : (((l : Int) % 16) != 0) = true := by have := HM0.out k hlt; simp; omega
      have HP := Lib.hid hp
      clear hp hl
      go_wp2_with ((with_reducible show wpList _ _ _ (Oper.mk (some 9) _ _ _ _ _ :: _) _ _); refine wpList_app8 rfl _ _ rfl B (.slice sv l cv) (xs ++ List.replicate k 0) rfl (HP.out.own.alloc _) (some ⟨wo.heap.size, 0, none⟩) 1 _ [0] rfl (src_one _ _) ?_ (Nat.le_trans hBw (by simp)) ?_; (rw [List.length_append, ← HNL.out, List.length_replicate]; omega); intro v5 w5 hown5 hgrow5 hnil5 hat5; have hp5 := HP.out.app hBw _ hown5 hgrow5; clear hown5 hgrow5 hnil5 hat5; rw [List.append_assoc, ← rep_snoc] at hp5; obtain ⟨s5, c5, hv5, -⟩ := hp5.own.form; rw [List.length_append, ← HNL.out, List.length_replicate, show n + (k + 1) = l + 1 by have := HL.out; omega] at hv5; subst hv5; have HP5 := Lib.hid hp5; clear hp5)
      go_roundg (gk - 1)
      case measure => omega
      case rel => exact ⟨k + 1, l + 1, s5, c5, by omega, by have := HL.out; omega, rfl, HP5.out⟩
    · have ek : k = Z := by omega
      have t1 : (((l : Int) % 16) != 0) = false := by have := HM1.out; simp; omega
      rw [ek] at hp
      have HP := Lib.hid hp
      clear hp hl ek
      go_wp2_with fail
      go_ret
      exact ⟨_, rfl, HP.out.own, HP.out.below⟩

set_option maxRecDepth 100000 in
set_option maxHeartbeats 1000000 in
theorem length_any (n : Nat) (hn : n ≤ 2199023255552) (w : World) :
    Calls Try.prog 61 #[.int .i64 (n : Int)] w fun e w' => ∃ v, e = .returned v ∧ Own8 w' w.heap.size v (le8 n) ∧ Below w.heap.size w w' := by
  obtain ⟨tk, htk⟩ : ∃ tk : Nat → List Int, tk = fun i => (le8 n).take i := ⟨_, rfl⟩
  have ht0 : tk 0 = [] := by rw [htk]; rfl
  have htl : ∀ i, i ≤ 8 → (tk i).length = i := by intro i hi; rw [htk]; show ((le8 n).take i).length = i; rw [List.length_take, le8_len]; omega
  have hts : ∀ i, i < 8 → tk i ++ [((n / 256 ^ i % 256 : Nat) : Int)] = tk (i + 1) := by
    intro i hi
    rw [htk]
    show (le8 n).take i ++ _ = (le8 n).take (i + 1)
    rw [take_snoc _ i 0 (by rw [le8_len]; exact hi), le8, nar_get, dig_get _ _ _ _ hi]
  have hte : tk 8 = le8 n := by rw [htk]; exact List.take_of_length_le (by rw [le8_len]; exact Nat.le_refl _)
  have hby : ∀ i, bits .and .i64 ((n : Int) / 2 ^ (8 * i)) 255 % 256 = ((n / 256 ^ i % 256 : Nat) : Int) := by
    intro i
    have e1 : (n : Int) / 2 ^ (8 * i) = ((n / 256 ^ i : Nat) : Int) := by
      rw [show (256 : Nat) ^ i = 2 ^ (8 * i) by rw [Nat.pow_mul], Int.natCast_ediv, Int.natCast_pow]
      rfl
    have hlt : n / 256 ^ i < 9223372036854775808 := Nat.lt_of_le_of_lt (Nat.div_le_self _ _) (by omega)
    have e2 : n / 256 ^ i &&& 255 = n / 256 ^ i % 256 := Nat.and_two_pow_sub_one_eq_mod _ 8
    have h1 : (BitVec.ofInt 64 ((n / 256 ^ i : Nat) : Int)).toNat = n / 256 ^ i := by rw [BitVec.ofInt_natCast, BitVec.toNat_ofNat]; exact Nat.mod_eq_of_lt (by omega)
    have h2 : (BitVec.ofInt 64 (255 : Int)).toNat = 255 := by decide
    have e3 : bits .and .i64 ((n / 256 ^ i : Nat) : Int) 255 = ((n / 256 ^ i % 256 : Nat) : Int) := by
      show IntKind.i64.wrap ((BitVec.ofInt 64 ((n / 256 ^ i : Nat) : Int) &&& BitVec.ofInt 64 (255 : Int)).toNat : Int) = _
      rw [BitVec.toNat_and, h1, h2, e2, IntKind.wrap_i64]
      omega
    rw [e1, e3]
    omega
  have T0 := Lib.hid ht0
  have TL := Lib.hid htl
  have TS := Lib.hid hts
  have TE := Lib.hid hte
  have BY := Lib.hid hby
  clear htk ht0 htl hts hte hby
  go_enter Try.func61, Try.ntmps61
  go_wp2_with fail
  go_loopg [3, 4] 8 (fun g m iv wr => ∃ (i : Nat) (sv : Option Addr) (cv : Nat), g + i = 8 ∧ iv = .int .i64 i ∧ m = .slice sv i cv ∧ OwnR w.heap.size w wr (.slice sv i cv) (tk i))
  case atStart => exact ⟨0, none, 0, rfl, rfl, rfl, ⟨by rw [T0.out]; exact Own8.nil _ _, Below.refl _ w⟩⟩
  case round =>
    obtain ⟨i, sv, cv, hi, rfl, rfl, hp⟩ := hrel
    obtain ⟨wo, rfl⟩ : ∃ wo : World, wo = wr := ⟨_, rfl⟩
    have hBw : w.heap.size ≤ wo.heap.size := hp.below.size
    have HP := Lib.hid hp
    clear hp
    by_cases hlt : i < 8
    · have e2 : (8 * (i : Int)).toNat = 8 * i := by omega
      have e3 : 0 ≤ 8 * (i : Int) := by omega
      have e4 : 8 * (i : Int) < 64 := by omega
      go_wp2_with ((with_reducible show wpList _ _ _ (Oper.mk (some 18) _ _ _ _ _ :: _) _ _); rw [BY.out]; refine wpList_app8 rfl _ _ rfl w.heap.size (.slice sv i cv) (tk i) rfl (HP.out.own.alloc _) (some ⟨wo.heap.size, 0, none⟩) 1 _ [((n / 256 ^ i % 256 : Nat) : Int)] rfl (src_one _ _) ?_ (Nat.le_trans hBw (by simp)) ?_; (rw [TL.out i (by omega)]; omega); intro v5 w5 hown5 hgrow5 hnil5 hat5; have hp5 := HP.out.app hBw _ hown5 hgrow5; clear hown5 hgrow5 hnil5 hat5; rw [TS.out i hlt] at hp5; obtain ⟨s5, c5, hv5, -⟩ := hp5.own.form; rw [TL.out (i + 1) (by omega)] at hv5; subst hv5; have HP5 := Lib.hid hp5; clear hp5)
      go_roundg (gk - 1)
      case measure => omega
      case rel => exact ⟨i + 1, s5, c5, by omega, by go_num, rfl, HP5.out⟩
    · have ei : i = 8 := by omega
      have hp2 : Own8 wo w.heap.size (.slice sv i cv) (le8 n) := by
        have := HP.out.own
        rw [show tk i = le8 n by rw [ei]; exact TE.out] at this
        exact this
      have HP2 := Lib.hid hp2
      clear ei hp2
      go_wp2_with fail
      go_ret
      exact ⟨_, rfl, HP2.out, HP.out.below⟩
end Go.Proofs.Ytdaaigodpglnnaa.Ae
