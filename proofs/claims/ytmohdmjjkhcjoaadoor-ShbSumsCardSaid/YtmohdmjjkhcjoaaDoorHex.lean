/- portcullisref1.Hex: each byte as two digits. Condition: the bytes lie there, at most 2^40. -/
import Derived.Test.YtmohdmjjkhcjoaaDoorSrcL
import Derived.Test.YtmohdmjjkhcjoaaDoorClone
import Derived.Deep.RegionLaw
namespace Go.Proofs.YtmohdmjjkhcjoaaDoor
open Go.RowKit

def hexDigits : List Int := [48, 49, 50, 51, 52, 53, 54, 55, 56, 57, 97, 98, 99, 100, 101, 102]
def hexL (xs : List Int) : List Int := xs.flatMap fun x => [hexDigits.getD (x / 16).toNat 0, hexDigits.getD (x % 16).toNat 0]
theorem hexL_snoc (xs : List Int) (x : Int) : hexL (xs ++ [x]) = hexL xs ++ [hexDigits.getD (x / 16).toNat 0, hexDigits.getD (x % 16).toNat 0] := by simp [hexL]
theorem hexL_len (xs : List Int) : (hexL xs).length = 2 * xs.length := by
  induction xs with
  | nil => rfl
  | cons x xs ih => simp [hexL] at ih ⊢; omega

theorem hex_index0 (w : World) : (Instr.index 9 (.string ⟨#[48, 49, 50, 51, 52, 53, 54, 55, 56, 57, 97, 98, 99, 100, 101, 102]⟩) (.int .u8 0)).run Tryd.prog w = .ok (.int .u8 48) w := by kernel_rfl
theorem hex_index1 (w : World) : (Instr.index 9 (.string ⟨#[48, 49, 50, 51, 52, 53, 54, 55, 56, 57, 97, 98, 99, 100, 101, 102]⟩) (.int .u8 1)).run Tryd.prog w = .ok (.int .u8 49) w := by kernel_rfl
theorem hex_index2 (w : World) : (Instr.index 9 (.string ⟨#[48, 49, 50, 51, 52, 53, 54, 55, 56, 57, 97, 98, 99, 100, 101, 102]⟩) (.int .u8 2)).run Tryd.prog w = .ok (.int .u8 50) w := by kernel_rfl
theorem hex_index3 (w : World) : (Instr.index 9 (.string ⟨#[48, 49, 50, 51, 52, 53, 54, 55, 56, 57, 97, 98, 99, 100, 101, 102]⟩) (.int .u8 3)).run Tryd.prog w = .ok (.int .u8 51) w := by kernel_rfl
theorem hex_index4 (w : World) : (Instr.index 9 (.string ⟨#[48, 49, 50, 51, 52, 53, 54, 55, 56, 57, 97, 98, 99, 100, 101, 102]⟩) (.int .u8 4)).run Tryd.prog w = .ok (.int .u8 52) w := by kernel_rfl
theorem hex_index5 (w : World) : (Instr.index 9 (.string ⟨#[48, 49, 50, 51, 52, 53, 54, 55, 56, 57, 97, 98, 99, 100, 101, 102]⟩) (.int .u8 5)).run Tryd.prog w = .ok (.int .u8 53) w := by kernel_rfl
theorem hex_index6 (w : World) : (Instr.index 9 (.string ⟨#[48, 49, 50, 51, 52, 53, 54, 55, 56, 57, 97, 98, 99, 100, 101, 102]⟩) (.int .u8 6)).run Tryd.prog w = .ok (.int .u8 54) w := by kernel_rfl
theorem hex_index7 (w : World) : (Instr.index 9 (.string ⟨#[48, 49, 50, 51, 52, 53, 54, 55, 56, 57, 97, 98, 99, 100, 101, 102]⟩) (.int .u8 7)).run Tryd.prog w = .ok (.int .u8 55) w := by kernel_rfl
theorem hex_index8 (w : World) : (Instr.index 9 (.string ⟨#[48, 49, 50, 51, 52, 53, 54, 55, 56, 57, 97, 98, 99, 100, 101, 102]⟩) (.int .u8 8)).run Tryd.prog w = .ok (.int .u8 56) w := by kernel_rfl
theorem hex_index9 (w : World) : (Instr.index 9 (.string ⟨#[48, 49, 50, 51, 52, 53, 54, 55, 56, 57, 97, 98, 99, 100, 101, 102]⟩) (.int .u8 9)).run Tryd.prog w = .ok (.int .u8 57) w := by kernel_rfl
theorem hex_index10 (w : World) : (Instr.index 9 (.string ⟨#[48, 49, 50, 51, 52, 53, 54, 55, 56, 57, 97, 98, 99, 100, 101, 102]⟩) (.int .u8 10)).run Tryd.prog w = .ok (.int .u8 97) w := by kernel_rfl
theorem hex_index11 (w : World) : (Instr.index 9 (.string ⟨#[48, 49, 50, 51, 52, 53, 54, 55, 56, 57, 97, 98, 99, 100, 101, 102]⟩) (.int .u8 11)).run Tryd.prog w = .ok (.int .u8 98) w := by kernel_rfl
theorem hex_index12 (w : World) : (Instr.index 9 (.string ⟨#[48, 49, 50, 51, 52, 53, 54, 55, 56, 57, 97, 98, 99, 100, 101, 102]⟩) (.int .u8 12)).run Tryd.prog w = .ok (.int .u8 99) w := by kernel_rfl
theorem hex_index13 (w : World) : (Instr.index 9 (.string ⟨#[48, 49, 50, 51, 52, 53, 54, 55, 56, 57, 97, 98, 99, 100, 101, 102]⟩) (.int .u8 13)).run Tryd.prog w = .ok (.int .u8 100) w := by kernel_rfl
theorem hex_index14 (w : World) : (Instr.index 9 (.string ⟨#[48, 49, 50, 51, 52, 53, 54, 55, 56, 57, 97, 98, 99, 100, 101, 102]⟩) (.int .u8 14)).run Tryd.prog w = .ok (.int .u8 101) w := by kernel_rfl
theorem hex_index15 (w : World) : (Instr.index 9 (.string ⟨#[48, 49, 50, 51, 52, 53, 54, 55, 56, 57, 97, 98, 99, 100, 101, 102]⟩) (.int .u8 15)).run Tryd.prog w = .ok (.int .u8 102) w := by kernel_rfl
theorem hex_index (k : Int) (h0 : 0 ≤ k) (h1 : k < 16) (w : World) : (Instr.index 9 (.string ⟨#[48, 49, 50, 51, 52, 53, 54, 55, 56, 57, 97, 98, 99, 100, 101, 102]⟩) (.int .u8 k)).run Tryd.prog w = .ok (.int .u8 (hexDigits.getD k.toNat 0)) w := by
  have : k = 0 ∨ k = 1 ∨ k = 2 ∨ k = 3 ∨ k = 4 ∨ k = 5 ∨ k = 6 ∨ k = 7 ∨ k = 8 ∨ k = 9 ∨ k = 10 ∨ k = 11 ∨ k = 12 ∨ k = 13 ∨ k = 14 ∨ k = 15 := by omega
  rcases this with rfl | rfl | rfl | rfl | rfl | rfl | rfl | rfl | rfl | rfl | rfl | rfl | rfl | rfl | rfl | rfl
  · exact hex_index0 w
  · exact hex_index1 w
  · exact hex_index2 w
  · exact hex_index3 w
  · exact hex_index4 w
  · exact hex_index5 w
  · exact hex_index6 w
  · exact hex_index7 w
  · exact hex_index8 w
  · exact hex_index9 w
  · exact hex_index10 w
  · exact hex_index11 w
  · exact hex_index12 w
  · exact hex_index13 w
  · exact hex_index14 w
  · exact hex_index15 w

theorem and15 (x : Int) (h0 : 0 ≤ x) (h1 : x ≤ 255) : bits .and .u8 x 15 = x % 16 := by
  obtain ⟨n, rfl⟩ := Int.eq_ofNat_of_zero_le h0
  have h2 : (BitVec.ofInt 8 (15 : Int)).toNat = 15 := by decide
  have e : ∀ x : Nat, x &&& 15 = x % 16 := fun x => Nat.and_two_pow_sub_one_eq_mod x 4
  show IntKind.u8.wrap ((BitVec.ofInt 8 (n : Int) &&& BitVec.ofInt 8 (15 : Int)).toNat : Int) = _
  rw [BitVec.toNat_and, h2, e, BitVec.ofInt_natCast, BitVec.toNat_ofNat, IntKind.wrap_u8]
  omega

theorem row8_two (x y : Int) : (#[Value.int .u8 x, .int .u8 y] : Array Value) = row8 [x, y] [] := rfl

set_option maxRecDepth 100000 in
set_option maxHeartbeats 1000000 in
theorem hex_any (sa : Option Addr) (n c : Nat) (xs : List Int) (w : World) (hs : Src w sa n xs) (hx : bytes xs) (hn : n ≤ 1099511627776) :
    Calls Tryd.prog 15 #[.slice sa n c] w fun e w' => e = .returned (.string (strOfNums (hexL xs))) ∧ Below w.heap.size w w' := by
  have hl := hs.len
  have HS := Lib.hid hs
  have HX := Lib.hid hx
  have HL := Lib.hid hl
  clear hs hl hx
  go_enter Tryd.func15, Tryd.ntmps15
  go_wp2_with fail
  go_loopw [3, 4] (fun v i wr => ∃ j : Nat, j ≤ n ∧ i = .int .i64 j ∧ Own8 wr w.heap.size v (hexL (xs.take j)) ∧ Below w.heap.size w wr) (fun _ i _ => n - (intOf i).toNat)
  case atStart => exact ⟨0, Nat.zero_le _, rfl, Own8.nil _ _, Below.refl _ _⟩
  case round =>
    obtain ⟨j, hj, rfl, hO, hB⟩ := hrel
    by_cases hlt : j < n
    · obtain ⟨a, rfl, hc⟩ := HS.out.cell j hlt
      have x0 := below_cell hB hc
      obtain ⟨b0, b1⟩ := bytes_at HX.out j
      have HTS := Lib.hid (take_snoc xs j 0 (by rw [HL.out]; exact hlt))
      have hi1 := hex_index (xs.getD j 0 / 16) (by omega) (by omega)
      have hi2 := hex_index (xs.getD j 0 % 16) (by omega) (by omega)
      have ha := and15 _ b0 b1
      have hw : ∀ x y : Int, hexL (xs.take (j + 1)) = hexL (xs.take j) ++ [hexDigits.getD (xs.getD j 0 / 16).toNat 0, hexDigits.getD (xs.getD j 0 % 16).toNat 0] := fun _ _ => by rw [HTS.out, hexL_snoc]
      have HW := Lib.hid (hw 0 0)
      clear hw hc HTS
      generalize hexDigits.getD (xs.getD j 0 / 16).toNat 0 = d1 at hi1 HW
      generalize hexDigits.getD (xs.getD j 0 % 16).toNat 0 = d2 at hi2 HW
      generalize xs.getD j 0 = x at x0 b0 b1 hi1 hi2 ha
      have hlen := hexL_len (xs.take j)
      rw [List.length_take, HL.out, Nat.min_eq_left hj] at hlen
      obtain ⟨va, vc, hv, -⟩ := hO.form
      rw [hlen] at hv
      subst hv
      have HO := Lib.hid hO
      have HB := Lib.hid hB
      have HLEN := Lib.hid hlen
      clear hO hB hlen
      go_wp2_with fail
      go_region_law (refine step_app8 rfl (.tmp 11) (.tmp 24) rfl w.heap.size (.slice va (2 * j) vc) (hexL (xs.take j)) rfl (HO.out.drew.alloc _) (some ⟨wr.heap.size, 0, none⟩) 2 2 [d1, d2] rfl (src_blk (blk_new wr.drew (.cells (row8 [d1, d2] []) 5))) (by rw [HLEN.out]; omega) (Nat.le_trans HB.out.size (by simp)) ?_; intro v6 w6 ho6 hg6 hn6 hb6; have HO6 := Lib.hid ho6; have HG6 := Lib.hid hg6; clear ho6 hg6 hn6 hb6)
      all_goals (
        go_wp2_with fail
        go_roundw
        case rel => exact ⟨j + 1, by omega, by go_num, by rw [HW.out]; exact HO6.out, app8_below (HO.out.drew.alloc _) HG6.out (HB.out.drew.alloc HB.out.size _) (Nat.le_trans HB.out.size (by simp))⟩
        case measure => simp [intOf]; omega)
    · have ej : xs.take j = xs := List.take_of_length_le (by rw [HL.out]; omega)
      rw [ej] at hO
      have hstr := hO.str
      have HB := Lib.hid hB
      clear hO hB ej
      go_wp2_with fail
      (try simp only [Exit.inBlock, Exit.then])
      go_ret
      exact ⟨rfl, HB.out⟩

end Go.Proofs.YtmohdmjjkhcjoaaDoor
