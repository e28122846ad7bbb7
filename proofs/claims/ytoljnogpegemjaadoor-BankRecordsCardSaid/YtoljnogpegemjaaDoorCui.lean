/- Cursor.Raw in one; Cursor.Int: what it answers. Condition: the cursor lies there. -/
import Derived.Test.YtoljnogpegemjaaDoorCur
namespace Go.Proofs.YtoljnogpegemjaaDoor
open Go.RowKit
set_option linter.unusedSimpArgs false
set_option linter.unusedVariables false

theorem craw_any (p q : Nat) (xs : List Int) (bad : Bool) (n : Int) (w : World) (h : IsCur w p q xs bad) (hl : xs.length ≤ 1099511627776) :
    Calls Tryd.prog 54 #[.pointer (some ⟨p, 0, none⟩), .int .i64 n] w fun e w' => ∃ v, e = .returned v ∧ Own8 w' w.heap.size v (rawV xs bad n) ∧ IsCur w' p q (rawS xs bad n) (!rawOk xs bad n) ∧ Kept (· = p) w w' := by
  cases bad with
  | true =>
    refine (craw_was p q xs n w h).mono ?_
    rintro e w' ⟨rfl, rfl⟩
    exact ⟨_, rfl, Own8.nil _ _, h, Kept.refl _ _⟩
  | false =>
    by_cases hn : n < 0 ∨ (0 ≤ n ∧ (xs.length : Int) < n)
    · have e : rawOk xs false n = false := by
        rw [← Bool.not_eq_true, rawOk_iff]
        omega
      refine (craw_no p q xs n w h hn).mono ?_
      rintro e' w' ⟨rfl, hc, hk, -⟩
      refine ⟨_, rfl, ?_, ?_, hk⟩
      · rw [rawV, e]; exact Own8.nil _ _
      · rw [rawS, e]; exact hc
    · obtain ⟨k, rfl⟩ := Int.eq_ofNat_of_zero_le (show 0 ≤ n by omega)
      have e : rawOk xs false (k : Int) = true := rawOk_iff.2 ⟨rfl, by omega, by omega⟩
      refine (craw_ok p q xs k w h (by omega) hl).mono ?_
      rintro e' w' ⟨v, rfl, ho, hc, hk⟩
      refine ⟨_, rfl, ?_, ?_, hk⟩
      · rw [rawV, e]; exact ho
      · rw [rawS, e]; exact hc

/-- Eight bytes as a number, the highest first. -/
def be64 (ys : List Int) : Int := ys.foldl (fun u x => bits .or .u64 (IntKind.u64.wrap (u * 256)) (IntKind.u64.wrap x)) 0
def intV (xs : List Int) (bad : Bool) : Int := wrap64 (be64 (rawV xs bad 8))
theorem be64_snoc (ys : List Int) (j : Nat) (hj : j < ys.length) : be64 (ys.take (j + 1)) = bits .or .u64 (IntKind.u64.wrap (be64 (ys.take j) * 256)) (IntKind.u64.wrap (ys.getD j 0)) := by
  rw [take_snoc ys j 0 hj, be64, List.foldl_append]
  rfl
theorem cint_any (p q : Nat) (xs : List Int) (bad : Bool) (w : World) (h : IsCur w p q xs bad) (hl : xs.length ≤ 1099511627776) :
    Calls Tryd.prog 55 #[.pointer (some ⟨p, 0, none⟩)] w fun e w' => e = .returned (.int .i64 (intV xs bad)) ∧ IsCur w' p q (rawS xs bad 8) (!rawOk xs bad 8) ∧ Kept (· = p) w w' := by
  have HR := Lib.hid (craw_any p q xs bad 8 w h hl)
  have HV : Hid (intV xs bad = wrap64 (be64 (rawV xs bad 8))) := Lib.hid rfl
  have h8 : (rawV xs bad 8).length ≤ 8 := by unfold rawV; split <;> simp <;> omega
  clear h hl
  generalize intV xs bad = iv at HV
  generalize rawV xs bad 8 = ys at HR HV h8
  go_enter Tryd.func55, Tryd.ntmps55
  go_upto_region 2 with fail
  go_wp2_with (go_at_call 54; refine HR.out.mono ?_; rintro e w1 ⟨v1, rfl, ho1, hc1, hk1⟩; have HC1 := Lib.hid (And.intro hc1 hk1); obtain ⟨s1, c1, rfl, hcc, hm1, hs1, -⟩ := ho1.form; have HS1 := Lib.hid hs1; clear hc1 hk1 ho1 hs1 hm1)
  generalize hln : ys.length = ln
  have HLN := Lib.hid hln
  rw [hln] at HS1
  rw [hln] at h8
  clear hln hcc
  go_loopw [3, 9] (fun u i wr => ∃ j : Nat, j ≤ ln ∧ i = .int .i64 j ∧ u = .int .u64 (be64 (ys.take j)) ∧ wr = w1) (fun _ i _ => ln - (intOf i).toNat)
  case atStart => exact ⟨0, Nat.zero_le _, rfl, rfl, rfl⟩
  case round =>
    obtain ⟨j, hj, rfl, rfl, rfl⟩ := hrel
    by_cases hlt : j < ln
    · obtain ⟨a, rfl, x0⟩ := HS1.out.cell j hlt
      have HB := Lib.hid (be64_snoc ys j (by rw [HLN.out]; exact hlt))
      generalize be64 (ys.take j) = u at HB
      generalize ys.getD j 0 = x at HB x0
      go_wp2_with fail
      go_roundw
      case rel => exact ⟨j + 1, by omega, by go_num, by rw [HB.out], trivial⟩
      case measure => simp [intOf]; omega
    · have e : ys.take j = ys := List.take_of_length_le (by rw [HLN.out]; omega)
      rw [e]
      have hv := HV.out
      generalize be64 ys = u at hv
      subst hv
      clear HV
      go_wp2_with fail
      go_ret
      exact ⟨rfl, HC1.out⟩
end Go.Proofs.YtoljnogpegemjaaDoor
