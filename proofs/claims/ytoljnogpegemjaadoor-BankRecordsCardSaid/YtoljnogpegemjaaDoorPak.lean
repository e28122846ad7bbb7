/- pack.Int: numbers behind bytes. Condition: the bytes and the numbers lie there. -/
import Derived.Test.YtoljnogpegemjaaDoorClone
import Derived.Test.YtoljnogpegemjaaDoorSrcA
namespace Go.Proofs.YtoljnogpegemjaaDoor
open Go.RowKit

/-- A number's eight bytes, the highest first. -/
def be8 (x : Int) : List Int := (List.range 8).map fun j => x / 2 ^ (8 * (7 - j)) % 256
theorem be8_len (x : Int) : (be8 x).length = 8 := by simp [be8]
theorem be8_take (x : Int) (j : Nat) (hj : j < 8) : (be8 x).take (j + 1) = (be8 x).take j ++ [x / 2 ^ (8 * (7 - j)) % 256] := by
  rw [take_snoc _ j 0 (by rw [be8_len]; exact hj)]
  simp [be8, List.getD, hj]
theorem be8_bytes (x : Int) : bytes (be8 x) := by
  intro y hy
  simp only [be8, List.mem_map, List.mem_range] at hy
  obtain ⟨j, _, rfl⟩ := hy
  omega
def packL (bs : List Int) (ns : List Int) : List Int := bs ++ ns.flatMap be8
theorem packL_snoc (bs ns : List Int) (i : Nat) (h : i < ns.length) : packL bs (ns.take (i + 1)) = packL bs (ns.take i) ++ be8 (ns.getD i 0) := by
  rw [take_snoc ns i 0 h]
  simp [packL]
theorem packL_len (bs ns : List Int) : (packL bs ns).length = bs.length + 8 * ns.length := by
  unfold packL
  rw [List.length_append]
  congr 1
  induction ns with
  | nil => rfl
  | cons n ns ih => rw [List.flatMap_cons, List.length_append, be8_len, ih, List.length_cons]; omega

/-- n integers lie behind the address sa. -/
structure SrcI (w : World) (sa : Option Addr) (n : Nat) (xs : List Int) : Prop where
  len : xs.length = n
  cell : ∀ i, i < n → ∃ a, sa = some a ∧ w.cell? (a.add i) = some (.int .i64 (xs.getD i 0))
theorem SrcI.below {w w' : World} {sa : Option Addr} {n : Nat} {xs : List Int} (h : SrcI w sa n xs) (k : Below w.heap.size w w') : SrcI w' sa n xs := by
  refine ⟨h.len, fun i hi => ?_⟩
  obtain ⟨a, e, hc⟩ := h.cell i hi
  exact ⟨a, e, below_cell k hc⟩
/-- One number in a block of its own. -/
theorem srcI_one (w : World) (x : Int) : SrcI (w.alloc (.cells #[.int .i64 x] 3)) (some ⟨w.heap.size, 0, none⟩) 1 [x] := by
  refine ⟨rfl, fun i hi => ⟨_, rfl, ?_⟩⟩
  obtain rfl : i = 0 := by omega
  rw [show (⟨w.heap.size, 0, none⟩ : Addr).add 0 = ⟨w.heap.size, 0, none⟩ from rfl, cell_blk (blk_new w _)]
  rfl

/-- bytes.Clone of whatever bytes, nil among them. -/
theorem clone_all (sa : Option Addr) (n c : Nat) (xs : List Int) (w : World) (hs : Src w sa n xs) (hn : n ≤ 1099511627776) :
    Calls Tryd.prog 82 #[.slice sa n c] w fun e w' => ∃ v, e = .returned v ∧ Own8 w' w.heap.size v xs ∧ Below w.heap.size w w' := by
  cases sa with
  | none =>
    have h0 : n = 0 := by
      rcases Nat.eq_zero_or_pos n with h0 | h0
      · exact h0
      · obtain ⟨_, he, _⟩ := hs.cell 0 h0
        cases he
    subst h0
    have hx : xs = [] := List.eq_nil_of_length_eq_zero hs.len
    subst hx
    exact (clone_nil c w).mono fun e w' ⟨he, hw⟩ => ⟨_, he, Own8.nil _ _, by subst hw; exact Below.refl _ _⟩
  | some ad => exact (clone_any ad n c xs w hs hn).mono fun e w' ⟨v, he, ho, hb⟩ => ⟨v, he, Own8.of_owns ho, hb⟩

theorem u64_byte (x : Int) (j : Nat) (hj : j < 8) : IntKind.u8.wrap (IntKind.u64.wrap x / 2 ^ (8 * (7 - j))) = x / 2 ^ (8 * (7 - j)) % 256 := by
  rw [IntKind.wrap_u8, IntKind.wrap_u64]
  have : j = 0 ∨ j = 1 ∨ j = 2 ∨ j = 3 ∨ j = 4 ∨ j = 5 ∨ j = 6 ∨ j = 7 := by omega
  rcases this with rfl | rfl | rfl | rfl | rfl | rfl | rfl | rfl
  all_goals (simp only [Nat.reduceSub, Nat.reduceMul, Int.reducePow, Nat.mul_zero, Int.pow_zero]; omega)

set_option maxRecDepth 100000 in
set_option maxHeartbeats 1000000 in
theorem pint_any (sa si : Option Addr) (nb cb n ci : Nat) (bs ns : List Int) (w : World) (hs : Src w sa nb bs) (hi : SrcI w si n ns) (hnb : nb ≤ 1099511627776) (hn : n ≤ 1048576) :
    Calls Tryd.prog 60 #[.slice sa nb cb, .slice si n ci] w fun e w' => ∃ v, e = .returned v ∧ Own8 w' w.heap.size v (packL bs ns) ∧ Below w.heap.size w w' := by
  have hlb := hs.len
  have hln := hi.len
  have HC := Lib.hid (clone_all sa nb cb bs w hs hnb)
  have HI := Lib.hid hi
  have HLB := Lib.hid hlb
  have HLN := Lib.hid hln
  clear hs hi hlb hln
  go_enter Tryd.func60, Tryd.ntmps60
  go_wp2_with (go_at_call 82; refine HC.out.mono ?_; rintro e w1 ⟨v1, rfl, ho1, hb1⟩; have HO1 := Lib.hid ho1; have HB1 := Lib.hid hb1; clear ho1 hb1)
  go_loopw [5, 14] (fun v i wr => ∃ j : Nat, j ≤ n ∧ i = .int .i64 j ∧ Own8 wr w.heap.size v (packL bs (ns.take j)) ∧ Below w.heap.size w wr) (fun _ i _ => n - (intOf i).toNat)
  case atStart => exact ⟨0, Nat.zero_le _, rfl, by simpa [packL] using HO1.out, HB1.out⟩
  case round =>
    obtain ⟨j, hj, rfl, hO, hB⟩ := hrel
    by_cases hlt : j < n
    · obtain ⟨a, rfl, hc⟩ := HI.out.cell j hlt
      have x0 := below_cell hB hc
      have HPS := Lib.hid (packL_snoc bs ns j (by rw [HLN.out]; exact hlt))
      have hTl := packL_len bs (ns.take j)
      rw [HLB.out, List.length_take, HLN.out, Nat.min_eq_left hj] at hTl
      obtain ⟨T, hT⟩ : ∃ T, T = packL bs (ns.take j) := ⟨_, rfl⟩
      rw [← hT] at hO hTl HPS
      have HTL := Lib.hid hTl
      have HO := Lib.hid hO
      have HB := Lib.hid hB
      clear hT hTl hO hB hc
      generalize ns.getD j 0 = x at x0 HPS
      obtain ⟨wo, rfl⟩ : ∃ wo : World, wo = wr := ⟨_, rfl⟩
      go_wp2_with fail
      go_loopw [5, 9] (fun v i wr => ∃ j5 : Nat, j5 ≤ 8 ∧ i = .int .i64 (7 - (j5 : Int)) ∧ Own8 wr w.heap.size v (T ++ (be8 x).take j5) ∧ Below w.heap.size w wr) (fun _ i _ => (1 + intOf i).toNat)
      case atStart => exact ⟨0, Nat.zero_le _, rfl, by simpa using HO.out, HB.out⟩
      case round =>
        obtain ⟨j5, hj5, rfl, hO, hB⟩ := hrel
        by_cases hlt5 : j5 < 8
        · obtain ⟨va, vc, hv, -⟩ := hO.form
          have hml : (T ++ (be8 x).take j5).length = nb + 8 * j + j5 := by rw [List.length_append, HTL.out, List.length_take, be8_len]; omega
          rw [hml] at hv
          subst hv
          have HML := Lib.hid hml
          have HO9 := Lib.hid hO
          have HB9 := Lib.hid hB
          have HBT := Lib.hid (be8_take x j5 hlt5)
          have HUB := Lib.hid (u64_byte x j5 hlt5)
          have e1 : (8 * (7 - (j5 : Int))).toNat = 8 * (7 - j5) := by omega
          have e2 : 0 ≤ 8 * (7 - (j5 : Int)) := by omega
          have e3 : 8 * (7 - (j5 : Int)) ≤ 56 := by omega
          clear hO hB hml
          go_wp2_with ((with_reducible show wpList _ _ _ (Oper.mk (some 31) _ _ _ _ _ :: _) _ _); refine wpList_app8 rfl (.tmp 24) (.tmp 30) rfl w.heap.size (.slice va (nb + 8 * j + j5) vc) (T ++ (be8 x).take j5) rfl (HO9.out.alloc _) (some ⟨wr.heap.size, 0, none⟩) 1 1 [x / 2 ^ (8 * (7 - j5)) % 256] rfl (by rw [← HUB.out]; exact src_one wr _) (by rw [HML.out]; omega) (Nat.le_trans HB9.out.size (by simp)) ?_; intro v6 w6 ho6 hg6 hn6 hb6; have HO6 := Lib.hid ho6; have HG6 := Lib.hid hg6; clear ho6 hg6 hn6 hb6)
          clear e1 e2 e3
          go_roundw
          case rel => exact ⟨j5 + 1, by omega, by go_num, by rw [HBT.out, ← List.append_assoc]; exact HO6.out, app8_below (HO9.out.alloc _) HG6.out (HB9.out.alloc HB9.out.size _) (Nat.le_trans HB9.out.size (by simp))⟩
          case measure => simp [intOf]; omega
        · have e8 : (be8 x).take j5 = be8 x := List.take_of_length_le (by rw [be8_len]; omega)
          rw [e8] at hO
          have HO9 := Lib.hid hO
          have HB9 := Lib.hid hB
          clear hO hB e8
          go_wp2_with fail
          go_roundw
          case rel => exact ⟨j + 1, by omega, by go_num, by rw [HPS.out]; exact HO9.out, HB9.out⟩
          case measure => simp [intOf]; omega
    · have ej : ns.take j = ns := List.take_of_length_le (by rw [HLN.out]; omega)
      rw [ej] at hO
      have HO := Lib.hid hO
      have HB := Lib.hid hB
      clear hO hB ej
      go_wp2_with fail
      (try simp only [Exit.inBlock, Exit.then])
      go_ret
      exact ⟨_, rfl, HO.out, HB.out⟩

end Go.Proofs.YtoljnogpegemjaaDoor
