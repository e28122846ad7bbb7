/- pack.Int: numbers behind bytes. Condition: the bytes and the numbers lie there. portcullisref1.Int, One: numbers behind bytes. Condition: the bytes and the numbers lie there. image.may, image.nonce, the document's small and nonce. Condition: what Go's integers allow. The document's nonce of a block. Condition: what Go's integers allow. -/
import Derived.Test.YtoljnogpegemjaaM1
import Derived.Test.YtoljnogpegemjaaAeH
import Derived.Laws.CopyOwn
namespace Go.Proofs.Ytoljnogpegemjaa
open Go.RowKit

/-- A number's eight bytes, the highest first. -/
def be8 (x : Int) : List Int := (List.range 8).map fun j => x / 2 ^ (8 * (7 - j)) % 256
theorem be8_len (x : Int) : (be8 x).length = 8 := by simp [be8]
theorem be8_take (x : Int) (j : Nat) (hj : j < 8) : (be8 x).take (j + 1) = (be8 x).take j ++ [x / 2 ^ (8 * (7 - j)) % 256] := by
  rw [take_snoc _ j 0 (by rw [be8_len]; exact hj)]
  simp [be8, List.getD, hj]
theorem be8_bytes (x : Int) : bytes (be8 x) := by
  intro y hy
  simp only [be8, List.mem_map, List.mem_range] at hy
  obtain ⟨j, _, rfl⟩ := hy
  omega
def packL (bs : List Int) (ns : List Int) : List Int := bs ++ ns.flatMap be8
theorem packL_snoc (bs ns : List Int) (i : Nat) (h : i < ns.length) : packL bs (ns.take (i + 1)) = packL bs (ns.take i) ++ be8 (ns.getD i 0) := by
  rw [take_snoc ns i 0 h]
  simp [packL]
theorem packL_len (bs ns : List Int) : (packL bs ns).length = bs.length + 8 * ns.length := by
  unfold packL
  rw [List.length_append]
  congr 1
  induction ns with
  | nil => rfl
  | cons n ns ih => rw [List.flatMap_cons, List.length_append, be8_len, ih, List.length_cons]; omega

/-- n integers lie behind the address sa. -/
structure SrcI (w : World) (sa : Option Addr) (n : Nat) (xs : List Int) : Prop where
  len : xs.length = n
  cell : ∀ i, i < n → ∃ a, sa = some a ∧ w.cell? (a.add i) = some (.int .i64 (xs.getD i 0))
theorem SrcI.below {w w' : World} {sa : Option Addr} {n : Nat} {xs : List Int} (h : SrcI w sa n xs) (k : Below w.heap.size w w') : SrcI w' sa n xs := by
  refine ⟨h.len, fun i hi => ?_⟩
  obtain ⟨a, e, hc⟩ := h.cell i hi
  exact ⟨a, e, below_cell k hc⟩
/-- One number in a block of its own. -/
theorem srcI_one (w : World) (x : Int) : SrcI (w.alloc (.cells #[.int .i64 x] 3)) (some ⟨w.heap.size, 0, none⟩) 1 [x] := by
  refine ⟨rfl, fun i hi => ⟨_, rfl, ?_⟩⟩
  obtain rfl : i = 0 := by omega
  rw [show (⟨w.heap.size, 0, none⟩ : Addr).add 0 = ⟨w.heap.size, 0, none⟩ from rfl, cell_blk (blk_new w _)]
  rfl

/-- bytes.Clone of whatever bytes, nil among them. -/
theorem clone_all (sa : Option Addr) (n c : Nat) (xs : List Int) (w : World) (hs : Src w sa n xs) (hn : n ≤ 1099511627776) :
    Calls Try.prog 33 #[.slice sa n c] w fun e w' => ∃ v, e = .returned v ∧ Own8 w' w.heap.size v xs ∧ Below w.heap.size w w' := by
  cases sa with
  | none =>
    have h0 : n = 0 := by
      rcases Nat.eq_zero_or_pos n with h0 | h0
      · exact h0
      · obtain ⟨_, he, _⟩ := hs.cell 0 h0
        cases he
    subst h0
    have hx : xs = [] := List.eq_nil_of_length_eq_zero hs.len
    subst hx
    exact (clone_nil c w).mono fun e w' ⟨he, hw⟩ => ⟨_, he, Own8.nil _ _, by subst hw; exact Below.refl _ _⟩
  | some ad => exact (clone_any ad n c xs w hs hn).mono fun e w' ⟨v, he, ho, hb⟩ => ⟨v, he, Own8.of_owns ho, hb⟩

theorem u64_byte (x : Int) (j : Nat) (hj : j < 8) : IntKind.u8.wrap (IntKind.u64.wrap x / 2 ^ (8 * (7 - j))) = x / 2 ^ (8 * (7 - j)) % 256 := by
  rw [IntKind.wrap_u8, IntKind.wrap_u64]
  have : j = 0 ∨ j = 1 ∨ j = 2 ∨ j = 3 ∨ j = 4 ∨ j = 5 ∨ j = 6 ∨ j = 7 := by omega
  rcases this with rfl | rfl | rfl | rfl | rfl | rfl | rfl | rfl
  all_goals (simp only [Nat.reduceSub, Nat.reduceMul, Int.reducePow, Nat.mul_zero, Int.pow_zero]; omega)

set_option maxRecDepth 100000 in
set_option maxHeartbeats 1000000 in
theorem pint_any (sa si : Option Addr) (nb cb n ci : Nat) (bs ns : List Int) (w : World) (hs : Src w sa nb bs) (hi : SrcI w si n ns) (hnb : nb ≤ 1099511627776) (hn : n ≤ 1048576) :
    Calls Try.prog 37 #[.slice sa nb cb, .slice si n ci] w fun e w' => ∃ v, e = .returned v ∧ Own8 w' w.heap.size v (packL bs ns) ∧ Below w.heap.size w w' := by
  have hlb := hs.len
  have hln := hi.len
  have HC := Lib.hid (clone_all sa nb cb bs w hs hnb)
  have HI := Lib.hid hi
  have HLB := Lib.hid hlb
  have HLN := Lib.hid hln
  clear hs hi hlb hln
  go_enter Try.func37, Try.ntmps37
  go_wp2_with (go_at_call 33; refine HC.out.mono ?_; rintro e w1 ⟨v1, rfl, ho1, hb1⟩; have HO1 := Lib.hid ho1; have HB1 := Lib.hid hb1; clear ho1 hb1)
  go_loopw [5, 14] (fun v i wr => ∃ j : Nat, j ≤ n ∧ i = .int .i64 j ∧ Own8 wr w.heap.size v (packL bs (ns.take j)) ∧ Below w.heap.size w wr) (fun _ i _ => n - (intOf i).toNat)
  case atStart => exact ⟨0, Nat.zero_le _, rfl, by simpa [packL] using HO1.out, HB1.out⟩
  case round =>
    obtain ⟨j, hj, rfl, hO, hB⟩ := hrel
    by_cases hlt : j < n
    · obtain ⟨a, rfl, hc⟩ := HI.out.cell j hlt
      have x0 := below_cell hB hc
      have HPS := Lib.hid (packL_snoc bs ns j (by rw [HLN.out]; exact hlt))
      have hTl := packL_len bs (ns.take j)
      rw [HLB.out, List.length_take, HLN.out, Nat.min_eq_left hj] at hTl
      obtain ⟨T, hT⟩ : ∃ T, T = packL bs (ns.take j) := ⟨_, rfl⟩
      rw [← hT] at hO hTl HPS
      have HTL := Lib.hid hTl
      have HO := Lib.hid hO
      have HB := Lib.hid hB
      clear hT hTl hO hB hc
      generalize ns.getD j 0 = x at x0 HPS
      obtain ⟨wo, rfl⟩ : ∃ wo : World, wo = wr := ⟨_, rfl⟩
      go_wp2_with fail
      go_loopw [5, 9] (fun v i wr => ∃ j5 : Nat, j5 ≤ 8 ∧ i = .int .i64 (7 - (j5 : Int)) ∧ Own8 wr w.heap.size v (T ++ (be8 x).take j5) ∧ Below w.heap.size w wr) (fun _ i _ => (1 + intOf i).toNat)
      case atStart => exact ⟨0, Nat.zero_le _, rfl, by simpa using HO.out, HB.out⟩
      case round =>
        obtain ⟨j5, hj5, rfl, hO, hB⟩ := hrel
        by_cases hlt5 : j5 < 8
        · obtain ⟨va, vc, hv, -⟩ := hO.form
          have hml : (T ++ (be8 x).take j5).length = nb + 8 * j + j5 := by rw [List.length_append, HTL.out, List.length_take, be8_len]; omega
          rw [hml] at hv
          subst hv
          have HML := Lib.hid hml
          have HO9 := Lib.hid hO
          have HB9 := Lib.hid hB
          have HBT := Lib.hid (be8_take x j5 hlt5)
          have HUB := Lib.hid (u64_byte x j5 hlt5)
          have e1 : (8 * (7 - (j5 : Int))).toNat = 8 * (7 - j5) := by omega
          have e2 : 0 ≤ 8 * (7 - (j5 : Int)) := by omega
          have e3 : 8 * (7 - (j5 : Int)) ≤ 56 := by omega
          clear hO hB hml
          go_wp2_with ((with_reducible show wpList _ _ _ (Oper.mk (some 31) _ _ _ _ _ :: _) _ _); refine wpList_app8 rfl (.tmp 24) (.tmp 30) rfl w.heap.size (.slice va (nb + 8 * j + j5) vc) (T ++ (be8 x).take j5) rfl (HO9.out.alloc _) (some ⟨wr.heap.size, 0, none⟩) 1 1 [x / 2 ^ (8 * (7 - j5)) % 256] rfl (by rw [← HUB.out]; exact src_one wr _) (by rw [HML.out]; omega) (Nat.le_trans HB9.out.size (by simp)) ?_; intro v6 w6 ho6 hg6 hn6 hb6; have HO6 := Lib.hid ho6; have HG6 := Lib.hid hg6; clear ho6 hg6 hn6 hb6)
          clear e1 e2 e3
          go_roundw
          case rel => exact ⟨j5 + 1, by omega, by go_num, by rw [HBT.out, ← List.append_assoc]; exact HO6.out, app8_below (HO9.out.alloc _) HG6.out (HB9.out.alloc HB9.out.size _) (Nat.le_trans HB9.out.size (by simp))⟩
          case measure => simp [intOf]; omega
        · have e8 : (be8 x).take j5 = be8 x := List.take_of_length_le (by rw [be8_len]; omega)
          rw [e8] at hO
          have HO9 := Lib.hid hO
          have HB9 := Lib.hid hB
          clear hO hB e8
          go_wp2_with fail
          go_roundw
          case rel => exact ⟨j + 1, by omega, by go_num, by rw [HPS.out]; exact HO9.out, HB9.out⟩
          case measure => simp [intOf]; omega
    · have ej : ns.take j = ns := List.take_of_length_le (by rw [HLN.out]; omega)
      rw [ej] at hO
      have HO := Lib.hid hO
      have HB := Lib.hid hB
      clear hO hB ej
      go_wp2_with fail
      (try simp only [Exit.inBlock, Exit.then])
      go_ret
      exact ⟨_, rfl, HO.out, HB.out⟩

end Go.Proofs.Ytoljnogpegemjaa
namespace Go.Proofs.Ytoljnogpegemjaa
open Go.RowKit

theorem and255i (y : Int) : IntKind.u8.wrap (bits .and .i64 y 255) = y % 256 := by
  have h2 : (BitVec.ofInt 64 (255 : Int)).toNat = 255 := by decide
  have e : ∀ x : Nat, x &&& 255 = x % 256 := fun x => Nat.and_two_pow_sub_one_eq_mod x 8
  show IntKind.u8.wrap (IntKind.i64.wrap ((BitVec.ofInt 64 y &&& BitVec.ofInt 64 (255 : Int)).toNat : Int)) = _
  rw [BitVec.toNat_and, h2, e, BitVec.toNat_ofInt, IntKind.wrap_u8]
  have hb : (((y % ((2 ^ 64 : Nat) : Int)).toNat % 256 : Nat) : Int) = y % 256 := by omega
  rw [hb, IntWalk.i64_in _ (by omega)]
  omega
theorem zero8b (w : World) : (zeroValue 78).run Try.prog w = .ok (.agg (arr .u8 (List.replicate 8 0))) w := by kernel_rfl
/-- The last j bytes are laid. -/
def lay8 (x : Int) (j : Nat) : List Int := List.replicate (8 - j) 0 ++ (be8 x).drop (8 - j)
theorem lay8_len (x : Int) (j : Nat) : (lay8 x j).length = 8 := by simp [lay8, be8_len]
theorem lay8_succ (x : Int) (j : Nat) (hj : j < 8) : (lay8 x j).set (7 - j) (x / 2 ^ (8 * j) % 256) = lay8 x (j + 1) := by
  have : j = 0 ∨ j = 1 ∨ j = 2 ∨ j = 3 ∨ j = 4 ∨ j = 5 ∨ j = 6 ∨ j = 7 := by omega
  rcases this with rfl | rfl | rfl | rfl | rfl | rfl | rfl | rfl <;> rfl
theorem lay8_all (x : Int) : lay8 x 8 = be8 x := by simp [lay8]
theorem down8 (x : Int) (j : Nat) (hj : j < 8) : x / 2 ^ (8 * j) / 256 = x / 2 ^ (8 * (j + 1)) := by
  have : j = 0 ∨ j = 1 ∨ j = 2 ∨ j = 3 ∨ j = 4 ∨ j = 5 ∨ j = 6 ∨ j = 7 := by omega
  rcases this with rfl | rfl | rfl | rfl | rfl | rfl | rfl | rfl
  all_goals (simp only [Nat.reduceMul, Nat.reduceAdd, Int.reducePow, Nat.mul_zero, Int.pow_zero]; omega)
theorem blk_arr8 {w : World} {g : Nat} {k : IntKind} {xs : List Int} {t : TypeId} (h : w.heap[g]? = some (.cells (arr k xs) t (0, 0))) (i : Nat) (hi : i < xs.length) : w.cell? ⟨g, i, none⟩ = some (.int k (xs.getD i 0)) := (cell_blk h i).trans (arr_get _ _ _ hi)
theorem blk_arr8_set {w : World} {g : Nat} {k : IntKind} {xs : List Int} {t : TypeId} (h : w.heap[g]? = some (.cells (arr k xs) t (0, 0))) (i : Nat) (x : Int) : (w.setCell ⟨g, i, none⟩ (.int k x)).heap[g]? = some (.cells (arr k (xs.set i x)) t (0, 0)) := by
  rw [blk_setCell h]
  congr 2
  simp [arr, List.map_set]

set_option maxRecDepth 100000 in
set_option maxHeartbeats 1000000 in
theorem rint_any (sa si : Option Addr) (nb cb n ci : Nat) (bs ns : List Int) (w : World) (hs : Src w sa nb bs) (hi : SrcI w si n ns) (hnb : nb ≤ 1099511627776) (hn : n ≤ 1048576) (hwf : ∀ x ∈ ns, -9223372036854775808 ≤ x ∧ x ≤ 9223372036854775807) :
    Calls Try.prog 28 #[.slice sa nb cb, .slice si n ci] w fun e w' => ∃ v, e = .returned v ∧ Own8 w' w.heap.size v (packL bs ns) ∧ Below w.heap.size w w' := by
  have hlb := hs.len
  have hln := hi.len
  have HSB := Lib.hid hs
  have HI := Lib.hid hi
  have HLB := Lib.hid hlb
  have HLN := Lib.hid hln
  have HWF := Lib.hid hwf
  have HN0 := Lib.hid (Own8.nil w w.heap.size)
  clear hs hi hlb hln hwf
  go_enter Try.func28, Try.ntmps28
  go_wp2_with ((with_reducible show wpList _ _ _ (Oper.mk (some 11) _ _ _ _ _ :: _) _ _); refine wpList_app8 rfl (.const (.slice none 0 0)) (.tmp 10) rfl w.heap.size (.slice none 0 0) [] rfl HN0.out sa nb cb bs rfl HSB.out (by simp; omega) (Nat.le_refl _) ?_; intro v1 w1 ho1 hg1 hn1 hb1; have HO1 := Lib.hid ho1; have HB1 := Lib.hid (app8_below HN0.out hg1 (Below.refl _ w) (Nat.le_refl _)); clear ho1 hg1 hn1 hb1)
  go_loopw [5, 6] (fun v i wr => ∃ j : Nat, j ≤ n ∧ i = .int .i64 j ∧ Own8 wr w.heap.size v (packL bs (ns.take j)) ∧ Below w.heap.size w wr) (fun _ i _ => n - (intOf i).toNat)
  case atStart => exact ⟨0, Nat.zero_le _, rfl, by simpa [packL] using HO1.out, HB1.out⟩
  case round =>
    obtain ⟨j, hj, rfl, hO, hB⟩ := hrel
    by_cases hlt : j < n
    · obtain ⟨a, rfl, hc⟩ := HI.out.cell j hlt
      have x0 := below_cell hB hc
      have HPS := Lib.hid (packL_snoc bs ns j (by rw [HLN.out]; exact hlt))
      have hwx := HWF.out (ns.getD j 0) (by
        have : j < ns.length := by rw [HLN.out]; exact hlt
        simp only [List.getD, List.getElem?_eq_getElem this, Option.getD_some]
        exact List.getElem_mem this)
      have hTl := packL_len bs (ns.take j)
      rw [HLB.out, List.length_take, HLN.out, Nat.min_eq_left hj] at hTl
      obtain ⟨va, vc, hv, -⟩ := hO.form
      obtain ⟨T, hT⟩ : ∃ T, T = packL bs (ns.take j) := ⟨_, rfl⟩
      rw [← hT] at hO hTl HPS hv
      rw [hTl] at hv
      subst hv
      have HTL := Lib.hid hTl
      have HO := Lib.hid hO
      have HB := Lib.hid hB
      clear hT hTl hO hB hc
      generalize ns.getD j 0 = x at x0 HPS hwx
      obtain ⟨wo, rfl⟩ : ∃ wo : World, wo = wr := ⟨_, rfl⟩
      have hb0 : (wo.alloc (.cells (arr .u8 (List.replicate 8 0)) 78)).heap[wo.heap.size]? = some (.cells (arr .u8 (lay8 x 0)) 78 (0, 0)) := by
        rw [show lay8 x 0 = List.replicate 8 0 from rfl]
        exact blk_new _ _
      have HB0 := Lib.hid hb0
      have HBA := Lib.hid ((Below.refl wo.heap.size wo).alloc (Nat.le_refl _) (.cells (arr .u8 (List.replicate 8 0)) 78))
      have HX0 := Lib.hid (show x = x / 2 ^ (8 * 0) by simp)
      clear hb0
      go_wp2_with ((with_reducible show wpList _ _ _ (Oper.mk (some 8) _ _ _ _ _ :: _) _ _); refine wpList_alloc_row rfl 78 rfl _ (zero8b _) ?_)
      go_loopw [7, 9] (fun u i wr => ∃ j5 : Nat, j5 ≤ 8 ∧ i = .int .i64 (7 - (j5 : Int)) ∧ u = .int .i64 (x / 2 ^ (8 * j5)) ∧ wr.heap[wo.heap.size]? = some (.cells (arr .u8 (lay8 x j5)) 78 (0, 0)) ∧ Below wo.heap.size wo wr) (fun _ i _ => (1 + intOf i).toNat)
      case atStart => exact ⟨0, Nat.zero_le _, rfl, by rw [← HX0.out], HB0.out, HBA.out⟩
      case round =>
        obtain ⟨j5, hj5, rfl, rfl, hb, hB5⟩ := hrel
        by_cases hlt5 : j5 < 8
        · have y0 := blk_arr8 hb (7 - j5) (by rw [lay8_len _ _]; omega)
          have y1 := free_blk hb (7 - j5)
          have h2 : ∀ u, u = x / 2 ^ (8 * j5) % 256 → (wr.setCell ⟨wo.heap.size, 7 - j5, none⟩ (.int .u8 u)).heap[wo.heap.size]? = some (.cells (arr .u8 (lay8 x (j5 + 1))) 78 (0, 0)) := by
            rintro u rfl
            rw [blk_arr8_set hb, lay8_succ x j5 hlt5]
          have H2 := Lib.hid h2
          have HB5 := Lib.hid (fun u => hB5.setCell (p := ⟨wo.heap.size, 7 - j5, none⟩) (Nat.le_refl _) (.int .u8 u))
          have HD := Lib.hid (down8 x j5 hlt5)
          have e1 : (7 - (j5 : Int)).toNat = 7 - j5 := by omega
          have e2 : 0 ≤ 7 - (j5 : Int) := by omega
          have e3 : 7 - (j5 : Int) < 8 := by omega
          clear hb hB5 h2
          generalize hy : x / 2 ^ (8 * j5) = y at H2 HD ⊢
          go_wp2_with fail
          clear e1 e2 e3
          go_roundw
          case rel => exact ⟨j5 + 1, by omega, by go_num, by rw [← HD.out], H2.out _ (and255i _), HB5.out _⟩
          case measure => simp [intOf]; omega
        · obtain rfl : j5 = 8 := by omega
          rw [lay8_all] at hb
          have hsr : Src wr (some ⟨wo.heap.size, 0, none⟩) 8 (be8 x) := src_row hb (by rw [Nat.mul_one, arr_toList, List.take_of_length_le (by simp)]) (be8_len x)
          have HSR := Lib.hid hsr
          have HO9 := Lib.hid (HO.out.below hB5)
          have HB9 := Lib.hid (HB.out.trans (hB5.mono HB.out.size))
          clear hb hB5 hsr
          go_wp2_with ((with_reducible show wpList _ _ _ (Oper.mk (some 35) _ _ _ _ _ :: _) _ _); refine wpList_app8 rfl (.tmp 33) (.tmp 34) rfl w.heap.size (.slice va (nb + 8 * j) vc) T rfl HO9.out (some ⟨wo.heap.size, 0, none⟩) 8 8 (be8 x) rfl HSR.out (by rw [HTL.out]; omega) HB9.out.size ?_; intro v6 w6 ho6 hg6 hn6 hb6; have HO6 := Lib.hid ho6; have HG6 := Lib.hid hg6; clear ho6 hg6 hn6 hb6)
          go_roundw
          case rel => exact ⟨j + 1, by omega, by go_num, by rw [HPS.out]; exact HO6.out, app8_below HO9.out HG6.out HB9.out HB9.out.size⟩
          case measure => simp [intOf]; omega
    · have ej : ns.take j = ns := List.take_of_length_le (by rw [HLN.out]; omega)
      rw [ej] at hO
      have HO := Lib.hid hO
      have HB := Lib.hid hB
      clear hO hB ej
      go_wp2_with fail
      (try simp only [Exit.inBlock, Exit.then])
      go_ret
      exact ⟨_, rfl, HO.out, HB.out⟩

set_option maxRecDepth 100000 in
theorem one_any (x : Int) (w : World) (hx : -9223372036854775808 ≤ x ∧ x ≤ 9223372036854775807) :
    Calls Try.prog 17 #[.int .i64 x] w fun e w' => ∃ v, e = .returned v ∧ Own8 w' w.heap.size v (be8 x) ∧ Below w.heap.size w w' := by
  have h := rint_any none (some ⟨w.heap.size, 0, none⟩) 0 0 1 1 [] [x] (w.alloc (.cells #[.int .i64 x] 3)) ⟨rfl, fun i hi => absurd hi (by omega)⟩ (srcI_one w x) (by omega) (by omega) (by intro y hy; simp at hy; subst hy; exact hx)
  rw [show packL [] [x] = be8 x by simp [packL]] at h
  have H := Lib.hid h
  have HB := Lib.hid ((Below.refl _ w).alloc (Nat.le_refl _) (.cells #[.int .i64 x] 3))
  clear h hx
  go_enter Try.func17, Try.ntmps17
  go_wp2_with (go_at_call 28; refine H.out.mono ?_; rintro e w1 ⟨v1, rfl, ho1, hb1⟩; have HO1 := Lib.hid (ho1.mono (B' := w.heap.size) (by simp)); have HB1 := Lib.hid (HB.out.trans (hb1.mono HB.out.size)); clear ho1 hb1)
  go_ret
  exact ⟨_, rfl, HO1.out, HB1.out⟩

end Go.Proofs.Ytoljnogpegemjaa
namespace Go.Proofs.Ytoljnogpegemjaa.Im
open Go.RowKit Lm Po Ch Ae

def mayB (v i : Int) : Bool := decide (0 ≤ v ∧ v ≤ 2147483647 ∧ 0 ≤ i ∧ i < 32)
def nonce12 (i : Int) : List Int := List.replicate 4 0 ++ be8 i
theorem nonce12_len (i : Int) : (nonce12 i).length = 12 := by rw [nonce12, List.length_append, List.length_replicate, be8_len]
theorem bytes_nonce12 (i : Int) : bytes (nonce12 i) := bytes_append (bytes_zeros 4) (be8_bytes i)

set_option maxRecDepth 100000 in
theorem may_any (v i : Int) (w : World) : Calls Try.prog 34 #[.int .i64 v, .int .i64 i] w fun e w' => e = .returned (.bool (mayB v i)) ∧ w = w' := by
  unfold mayB
  by_cases h1 : 0 ≤ v
  · by_cases h2 : v ≤ 2147483647
    · by_cases h3 : 0 ≤ i
      · by_cases h4 : i < 32
        · rw [decide_eq_true ⟨h1, h2, h3, h4⟩]
          go_enter Try.func34, Try.ntmps34
          go_wp2
          go_ret
          exact ⟨rfl, rfl⟩
        · rw [decide_eq_false (fun h => h4 h.2.2.2)]
          have h4' : 32 ≤ i := by omega
          go_enter Try.func34, Try.ntmps34
          go_wp2
          go_ret
          exact ⟨rfl, rfl⟩
      · rw [decide_eq_false (fun h => h3 h.2.2.1)]
        have h3' : i < 0 := by omega
        go_enter Try.func34, Try.ntmps34
        go_wp2
        go_ret
        exact ⟨rfl, rfl⟩
    · rw [decide_eq_false (fun h => h2 h.2.1)]
      have h2' : 2147483647 < v := by omega
      go_enter Try.func34, Try.ntmps34
      go_wp2
      go_ret
      exact ⟨rfl, rfl⟩
  · rw [decide_eq_false (fun h => h1 h.1)]
    have h1' : v < 0 := by omega
    go_enter Try.func34, Try.ntmps34
    go_wp2
    go_ret
    exact ⟨rfl, rfl⟩
def smallB (v : Int) : Bool := decide (0 ≤ v ∧ v ≤ 2147483647)
set_option maxRecDepth 100000 in
theorem small_any (v : Int) (w : World) : Calls Try.prog 14 #[.int .i64 v] w fun e w' => e = .returned (.bool (smallB v)) ∧ w = w' := by
  unfold smallB
  by_cases h1 : 0 ≤ v
  · by_cases h2 : v ≤ 2147483647
    · rw [decide_eq_true ⟨h1, h2⟩]
      go_enter Try.func14, Try.ntmps14
      go_wp2
      go_ret
      exact ⟨rfl, rfl⟩
    · rw [decide_eq_false (fun h => h2 h.2)]
      have h2' : 2147483647 < v := by omega
      go_enter Try.func14, Try.ntmps14
      go_wp2
      go_ret
      exact ⟨rfl, rfl⟩
  · rw [decide_eq_false (fun h => h1 h.1)]
    have h1' : v < 0 := by omega
    go_enter Try.func14, Try.ntmps14
    go_wp2
    go_ret
    exact ⟨rfl, rfl⟩

theorem zero12 (w : World) : (zeroValue 46).run Try.prog w = .ok (.agg (arr .u8 (List.replicate 12 0))) w := by kernel_rfl
theorem arrNonce (xs : List Int) (hl : xs.length = 12) : (Try.prog.info? 46).map (·.size) = some (arr .u8 xs).size := by rw [arr_size, hl]; exact size12

set_option maxRecDepth 100000 in
set_option maxHeartbeats 1000000 in
theorem nonce_any (i : Int) (w : World) : Calls Try.prog 36 #[.int .i64 i] w fun e w' => e = .returned (.agg (arr .u8 (nonce12 i))) ∧ Below w.heap.size w w' := by
  obtain ⟨zs, hzs⟩ : ∃ zs : List Int, zs = List.replicate 12 0 := ⟨_, rfl⟩
  have hz : ∀ w, (zeroValue 46).run Try.prog w = .ok (.agg (arr .u8 zs)) w := by intro w; rw [hzs]; exact zero12 w
  have hzl : zs.length = 12 := by rw [hzs]; rfl
  obtain ⟨z4, hz4⟩ : ∃ zs : List Int, zs = zeros 4 := ⟨_, rfl⟩
  obtain ⟨w1, hw1⟩ : ∃ x, x = w.alloc (.cells (arr .u8 zs) 46) := ⟨_, rfl⟩
  have hmk : ∀ w : World, (Instr.makeSlice 24 (.int .i64 4) (.int .i64 4)).run Try.prog w = .ok (.slice (some ⟨w.heap.size, 0, none⟩) 4 4) (w.alloc (.cells (row8 z4 []) 5)) := by rw [hz4]; exact mk8 4 (by decide)
  have hs4 : Src (w1.alloc (.cells (row8 z4 []) 5)) (some ⟨w1.heap.size, 0, none⟩) 4 z4 := by
    have := src_blk (xs := z4) (sp := []) (blk_new w1 (.cells (row8 z4 []) 5))
    rwa [show z4.length = 4 by rw [hz4]; simp [zeros]] at this
  have hp := pint_any (some ⟨w1.heap.size, 0, none⟩) (some ⟨(w1.alloc (.cells (row8 z4 []) 5)).heap.size, 0, none⟩) 4 4 1 1 z4 [i] ((w1.alloc (.cells (row8 z4 []) 5)).alloc (.cells #[.int .i64 i] 3)) (hs4.below ((Below.refl _ _).alloc (Nat.le_refl _) _)) (srcI_one _ i) (by omega) (by omega)
  have hpk : packL z4 [i] = nonce12 i := by rw [hz4]; simp [packL, nonce12, zeros]
  rw [hpk, World.size_alloc] at hp
  obtain ⟨nn, hnn⟩ : ∃ x, x = nonce12 i := ⟨_, rfl⟩
  have hnl : nn.length = 12 := by rw [hnn, nonce12_len]
  rw [← hnn] at hp ⊢
  have hb1 : Below w.heap.size w ((w1.alloc (.cells (row8 z4 []) 5)).alloc (.cells #[.int .i64 i] 3)) := by
    rw [hw1]; exact (((Below.refl _ w).alloc (Nat.le_refl _) _).alloc (by simp) _).alloc (by simp; omega) _
  have hr1 : ((w1.alloc (.cells (row8 z4 []) 5)).alloc (.cells #[.int .i64 i] 3)).heap[w.heap.size]? = some (.cells (arr .u8 zs) 46 (0, 0)) := blk_alloc (blk_alloc (by rw [hw1]; exact blk_new w _) _) _
  have hat : ∀ (g c : Nat) (w : World), (Instr.arrayAt 46 (.slice (some ⟨g, 0, none⟩) 12 c)).run Try.prog w = .ok (.pointer (some ⟨g, 0, none⟩)) w := fun g c w => run_arrayAt (P := Try.prog) (w := w) 46 5 12 (some ⟨g, 0, none⟩) 12 c Try.underlying46 (Nat.le_refl _)
  have HZ := Lib.hid hz
  have HZL := Lib.hid hzl
  have HW1 := Lib.hid hw1.symm
  have HMK := Lib.hid hmk
  have HP := Lib.hid hp
  have HNL := Lib.hid hnl
  have HB1 := Lib.hid hb1
  have HR1 := Lib.hid hr1
  have HAT := Lib.hid hat
  clear hz hzl hw1 hmk hp hnl hb1 hr1 hat hs4 hpk hnn hz4 hzs
  have hmk := HMK.out w1
  go_enter Try.func36, Try.ntmps36
  go_wp2_with (first | ((with_reducible show wpList _ _ _ (Oper.mk (some 2) _ _ _ _ _ :: _) _ _); refine wpList_alloc_row rfl 46 rfl _ (HZ.out _) ?_; rw [HW1.out]) | ((with_reducible show Calls _ _ _ _ _); go_at_call 37; refine HP.out.mono ?_; rintro e w2 ⟨v2, rfl, ho2, hb2⟩; obtain ⟨s2, c2, hv2, -⟩ := ho2.form; rw [HNL.out] at hv2; subst hv2; obtain ⟨g, sp, rfl, hBg, hbk, -⟩ := Own8.row ho2 (by rw [HNL.out]; omega); have HB2 := Lib.hid (HB1.out.trans (hb2.mono HB1.out.size)); have HR2 := Lib.hid (Below.blk hb2 HR1.out (blk_lt HR1.out)); have HG2 := Lib.hid hbk; have hat := HAT.out g c2; clear ho2 hb2 hBg hbk) | ((with_reducible show wpList _ _ _ (Oper.mk (some 8) _ _ _ _ _ :: _) _ _); refine wpList_load_part rfl 46 _ rfl g 0 _ 5 (0, 0) _ HG2.out rfl .u8 nn (by unfold row8; rw [List.drop_zero, List.take_left' (by rw [List.length_map])]) Try.underlying46 rfl (by rw [HNL.out]; exact size12) ?_) | ((with_reducible show wpList _ _ _ (Oper.mk none _ _ _ _ _ :: _) _ _); refine wpList_store_whole rfl 46 _ _ rfl w.heap.size _ _ 46 HR2.out rfl rfl (by rw [arr_size, arr_size, HNL.out, HZL.out]) (arrNonce nn HNL.out) (all_arr _ _) ?_; intro w3 hb3 hk3 hz3; have HR3 := Lib.hid hb3; have HB3 := Lib.hid (HB2.out.trans (hk3.toBelow HB2.out.size (by rintro i rfl; exact Nat.le_refl _))); clear hb3 hk3 hz3))
  (try simp only [Exit.inBlock, Exit.then])
  refine bodyPost_ret (results_cell_row rfl _ _ w.heap.size 46 _ (0, 0) _ rfl HR3.out Try.underlying46 rfl (arrNonce nn HNL.out)) rfl ?_
  exact ⟨rfl, HB3.out⟩
end Go.Proofs.Ytoljnogpegemjaa.Im
namespace Go.Proofs.Ytoljnogpegemjaa.Im
open Go.RowKit Lm Po Ch Ae

theorem src_cells {w : World} {sa : Option Addr} {n : Nat} {xs : List Int} (h : Src w sa n xs) (hp : 0 < n) : ∃ ad, sa = some ad ∧ ∀ j v, (xs.map (Value.int .u8))[j]? = some v → w.cell? (ad.add j) = some v := by
  obtain ⟨ad, rfl, -⟩ := h.cell 0 hp
  refine ⟨ad, rfl, fun j v hv => ?_⟩
  have hj : j < xs.length := by
    by_cases h : j < xs.length
    · exact h
    · rw [List.getElem?_map, List.getElem?_eq_none (by omega)] at hv; cases hv
  obtain ⟨a, ha, hc⟩ := h.cell j (by have := h.len; omega)
  injection ha with ha
  subst ha
  rw [hc]
  rw [List.getElem?_map, List.getElem?_eq_getElem hj] at hv
  simp [List.getD, hj] at hv ⊢
  exact hv

theorem _root_.Go.Proofs.Ytoljnogpegemjaa.Kept.spl {G : Nat} {a b c : World} (h : Kept (fun x => x = G) a b) (k : Below G b c) (hs : a.heap.size = G + 1) : Kept (fun x => x = G) a c :=
  ⟨k.os.trans h.os, k.tape.trans h.tape, k.output.trans h.output, Nat.le_trans h.size k.size, fun i hi ht => (k.block i (by have : i ≠ G := ht; omega)).trans (h.block i hi ht)⟩

theorem splice_be (x : Int) : (splice ((List.replicate 12 (0 : Int)).map (Value.int .u8)) 4 ((be8 x).map (Value.int .u8))).toArray = arr .u8 (nonce12 x) := by
  rfl

set_option maxRecDepth 100000 in
set_option maxHeartbeats 2000000 in
theorem rnonce_any (i : Int) (w : World) (hi : -9223372036854775808 ≤ i ∧ i ≤ 9223372036854775807) : Calls Try.prog 16 #[.int .i64 i] w fun e w' => e = .returned (.agg (arr .u8 (nonce12 i))) ∧ Below w.heap.size w w' := by
  obtain ⟨zs, hzs⟩ : ∃ zs : List Int, zs = List.replicate 12 0 := ⟨_, rfl⟩
  have hz : ∀ w, (zeroValue 46).run Try.prog w = .ok (.agg (arr .u8 zs)) w := by intro w; rw [hzs]; exact zero12 w
  have hzl : zs.length = 12 := by rw [hzs]; rfl
  have M := fun w => one_any i w hi
  have hsp := splice_be i
  rw [← hzs] at hsp
  have hbl := be8_len i
  obtain ⟨b8, hb8⟩ : ∃ x, x = be8 i := ⟨_, rfl⟩
  rw [← hb8] at hsp hbl M
  obtain ⟨nn, hnn⟩ : ∃ x, x = nonce12 i := ⟨_, rfl⟩
  have hnl : nn.length = 12 := by rw [hnn, nonce12_len]
  rw [← hnn] at hsp ⊢
  have hco : ∀ v ∈ b8.map (Value.int .u8), v.oneCell' = true := by
    intro v hv
    obtain ⟨x, -, rfl⟩ := List.mem_map.1 hv
    rfl
  have hr0 : ((w.alloc (.cells (arr .u8 zs) 46)).alloc (.cells (arr .u8 zs) 46)).heap[w.heap.size]? = some (.cells (arr .u8 zs) 46 (0, 0)) := blk_alloc (blk_new w _) _
  have hr1 : ((w.alloc (.cells (arr .u8 zs) 46)).alloc (.cells (arr .u8 zs) 46)).heap[w.heap.size + 1]? = some (.cells (arr .u8 zs) 46 (0, 0)) := by have := blk_new (w.alloc (.cells (arr .u8 zs) 46)) (.cells (arr .u8 zs) 46); rwa [World.size_alloc] at this
  have hb0 : Below w.heap.size w ((w.alloc (.cells (arr .u8 zs) 46)).alloc (.cells (arr .u8 zs) 46)) := ((Below.refl _ w).alloc (Nat.le_refl _) _).alloc (by simp) _
  have hsz : ((w.alloc (.cells (arr .u8 zs) 46)).alloc (.cells (arr .u8 zs) 46)).heap.size = w.heap.size + 1 + 1 := by rw [World.size_alloc, World.size_alloc]
  have HSZ := Lib.hid hsz
  have HZ := Lib.hid hz
  have HZL := Lib.hid hzl
  have HM := Lib.hid M
  have HSP := Lib.hid hsp
  have HBL := Lib.hid hbl
  have HNL := Lib.hid hnl
  have HCO := Lib.hid hco
  have HR0 := Lib.hid hr0
  have HR1 := Lib.hid hr1
  have HW := Lib.hid hb0
  clear hz hzl M hsp hbl hnl hco hr0 hr1 hb0 hzs hb8 hnn hi hsz
  go_enter Try.func16, Try.ntmps16
  go_upto_region 2 with (first | ((with_reducible show wpList _ _ _ (Oper.mk (some 2) _ _ _ _ _ :: _) _ _); refine wpList_alloc_row rfl 46 rfl _ (HZ.out _) ?_) | ((with_reducible show wpList _ _ _ (Oper.mk (some 3) _ _ _ _ _ :: _) _ _); refine wpList_alloc_row rfl 46 rfl _ (HZ.out _) ?_; go_simp))
  (try simp only [World.size_alloc])
  generalize ((w.alloc (.cells (arr .u8 zs) 46)).alloc (.cells (arr .u8 zs) 46)) = wq at HR0 HR1 HW HSZ ⊢
  have HB0 := Lib.hid ((Kept.refl (fun x => x = w.heap.size + 1) wq).drew)
  refine wp_region_held_drew (S := (fun w' => Kept (fun x => x = w.heap.size + 1) wq w')) (by kernel_rfl) (HB0.out) (fun hHeld => ?_)
  refine wpAnyH_take (i := 0) (oi := ({ dst := some 4, op := Op.slice 46 (Operand.tmp 3) (some (Operand.const (Value.int IntKind.i64 4))) none none, type := 24, pos := "makers.go:187", after := #[], guard := none } : Oper)) (v := ?v1) rfl (by kernel_rfl) (by kernel_rfl) (by kernel_rfl) (fun _ _ _ h => h) (Or.inl ⟨by rfl, ?hy1⟩) (by assumption) ?rest1
  case hy1 => (intro w hSw; (try dsimp only at hSw); go_simp; try (with_reducible rfl))
  (try simp only [Act.put, List.setIfInBounds_toArray, List.set_cons_zero, List.set_cons_succ])
  refine wpAnyH_take (i := 1) (oi := ({ dst := some 5, op := Op.move (Operand.tmp 0), type := 3, pos := "makers.go:187", after := #[], guard := none } : Oper)) (v := ?v2) rfl (by kernel_rfl) (by kernel_rfl) (by kernel_rfl) (fun _ _ _ h => h) (Or.inl ⟨by rfl, ?hy2⟩) (by assumption) ?rest2
  case hy2 => (intro w hSw; (try dsimp only at hSw); go_simp; try (with_reducible rfl))
  (try simp only [Act.put, List.setIfInBounds_toArray, List.set_cons_zero, List.set_cons_succ])
  refine wpAnyH_ready (rs := [2]) (by kernel_rfl) (by simp) ?_
  refine AllReadyH.cons (o := ({ dst := some 6, op := Op.call { callee := Callee.value (Operand.func 17), args := #[Operand.tmp 5], argTypes := #[3] }, type := 24, pos := "makers.go:187", after := #[{ on := 1, ground := Ground.data }], guard := none } : Oper)) rfl (fun K hK => ?_) AllReadyH.nil
  go_simp
  go_at_call 17
  refine (HM.out _).mono ?_
  rintro e w3 ⟨v2, rfl, ho2, hb3⟩
  have HB3 := Lib.hid (HB0.out.trans (Kept.of_below hb3))
  obtain ⟨s2, c2, hv2, -, -, hs2, -⟩ := ho2.form
  rw [HBL.out] at hv2 hs2
  subst hv2
  have HS2 := Lib.hid hs2
  clear ho2 hs2
  have HR0 := Lib.hid (Below.blk hb3 HR0.out (blk_lt HR0.out))
  have HR1 := Lib.hid (Below.blk hb3 HR1.out (blk_lt HR1.out))
  clear hb3
  (try dsimp only)
  refine hK.out _ _ (HB3.out) (fun hHeld => ?_)
  clear hK K
  (try simp only [Act.put, List.setIfInBounds_toArray, List.set_cons_zero, List.set_cons_succ])
  refine wpAnyH_ready (rs := [3]) (by kernel_rfl) (by simp) ?_
  refine AllReadyH.cons (o := ({ dst := some 7, op := Op.call { callee := Callee.builtin Builtin.copy, args := #[Operand.tmp 4, Operand.tmp 6], argTypes := #[24, 24] }, type := 3, pos := "makers.go:187", after := #[{ on := 0, ground := Ground.data }, { on := 2, ground := Ground.data }, { on := 2, ground := Ground.chain }], guard := none } : Oper)) rfl (fun K hK => ?_) AllReadyH.nil
  obtain ⟨ad, rfl, had⟩ := src_cells HS2.out (by decide)
  refine step_copy_splice rfl (.tmp 4) (.tmp 6) 24 24 rfl 5 Try.underlying24 size_u8 (some ⟨w.heap.size + 1, 4, none⟩) (some ad) 8 8 8 c2 ?ch1 ?ch2 (w.heap.size + 1) 4 (zs.map (Value.int .u8)) 46 HR1.out (b8.map (Value.int .u8)) (by rw [List.length_map, HBL.out]; rfl) (fun _ => ⟨rfl, ad, rfl, had⟩) (by rw [List.length_map, List.length_map, HBL.out, HZL.out]; omega) HCO.out (w.heap.size + 1) _ (Below.refl _ _) (Nat.le_refl _) ?_
  case ch1 => go_simp
  case ch2 => go_simp
  intro w4 hb4 hk4
  have HLAST := Lib.hid (HB3.out.spl hk4 HSZ.out)
  have HB4 := HLAST
  have hb' := hb4.out
  rw [HSP.out] at hb'
  have HFIN := Lib.hid hb'
  have HRZ := Lib.hid (Below.blk hk4 HR0.out (by omega))
  clear hb4 hk4 hb' had
  refine hK.out _ _ (HB4.out) (fun hHeld => ?_)
  clear hK K
  (try simp only [Act.put])
  refine wpAnyH_done (by kernel_rfl) ?_ _
  (try simp only [Exit.then])
  go_wp2_with (first | ((with_reducible show wpList _ _ _ (Oper.mk (some 8) _ _ _ _ _ :: _) _ _); refine wpList_load_part rfl 46 _ rfl (w.heap.size + 1) 0 _ 46 (0, 0) _ HFIN.out rfl .u8 nn (arr_part _ _) Try.underlying46 rfl (by rw [HNL.out]; exact size12) ?_) | ((with_reducible show wpList _ _ _ (Oper.mk none _ _ _ _ _ :: _) _ _); refine wpList_store_whole rfl 46 _ _ rfl w.heap.size _ _ 46 HRZ.out rfl rfl (by rw [arr_size, arr_size, HNL.out, HZL.out]) (arrNonce nn HNL.out) (all_arr _ _) ?_; intro w3 hb3 hk3 hz3; have HR3 := Lib.hid hb3; have HB3 := Lib.hid ((HW.out.trans (HLAST.out.toBelow HW.out.size (by rintro i rfl; omega))).trans (hk3.toBelow (Nat.le_trans HW.out.size (HLAST.out.size)) (by rintro i rfl; exact Nat.le_refl _))); clear hb3 hk3 hz3))
  (try simp only [Exit.inBlock, Exit.then])
  refine bodyPost_ret (results_cell_row rfl _ _ w.heap.size 46 _ (0, 0) _ rfl HR3.out Try.underlying46 rfl (arrNonce nn HNL.out)) rfl ?_
  exact ⟨rfl, HB3.out⟩
end Go.Proofs.Ytoljnogpegemjaa.Im
