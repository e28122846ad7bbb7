/- portcullislaw5.Big, portcullisref1.Join, portcullisref1.Hex: what they answer. Condition: the lists lie there. -/
import Derived.Test.YtmohdmjjkhcjoaaDoorSrcL
import Derived.Test.YtmohdmjjkhcjoaaDoorClone
import Derived.StillTailTactics
namespace Go.Proofs.YtmohdmjjkhcjoaaDoor
open Go.RowKit

def bigL (L : List (List Int)) : Bool := decide (30 < L.length) || L.any (fun l => decide (1000 < l.length))

set_option maxRecDepth 100000 in
theorem big_any (sa : Option Addr) (n c : Nat) (L : List (List Int)) (w : World) (hs : SrcL w sa n L) :
    Calls Tryd.prog 8 #[.slice sa n c] w fun e w' => e = .returned (.bool (bigL L)) ∧ w' = w := by
  have hl := hs.len
  by_cases h30 : 30 < n
  · have hb : bigL L = true := by unfold bigL; rw [hl]; simp [h30]
    go_enter Tryd.func8, Tryd.ntmps8
    go_wp2
    go_ret
    rw [hb]
    exact ⟨rfl, rfl⟩
  · have HS := Lib.hid hs
    have HL := Lib.hid hl
    clear hs hl
    go_enter Tryd.func8, Tryd.ntmps8
    go_wp2_with fail
    go_loopw [3] (fun i wr => ∃ j : Nat, j ≤ n ∧ i = .int .i64 j ∧ (∀ k, k < j → (L.getD k []).length ≤ 1000) ∧ wr = w) (fun i _ => n - (intOf i).toNat)
    case atStart => exact ⟨0, Nat.zero_le _, rfl, fun k h => absurd h (by omega), rfl⟩
    case round =>
      obtain ⟨j, hj, rfl, hall, rfl⟩ := hrel
      by_cases hlt : j < n
      · obtain ⟨a, si, ci, rfl, x0, hci, hsi⟩ := HS.out.cell j hlt
        have hin : L.getD j [] ∈ L := by
          have : j < L.length := by rw [HL.out]; exact hlt
          simp only [List.getD, List.getElem?_eq_getElem this, Option.getD_some]
          exact List.getElem_mem this
        have HSI := Lib.hid hsi
        have HIN := Lib.hid hin
        have HALL := Lib.hid hall
        clear hsi hin hall
        by_cases hbig : 1000 < (L.getD j []).length
        · have hb : bigL L = true := by
            unfold bigL
            rw [Bool.or_eq_true]
            right
            rw [List.any_eq_true]
            exact ⟨_, HIN.out, by simpa using hbig⟩
          generalize (L.getD j []).length = m at x0 hbig hci
          go_wp2_with fail
          (try simp only [Exit.inBlock, Exit.then])
          go_ret
          rw [hb]
          exact ⟨rfl, rfl⟩
        · have hle : (L.getD j []).length ≤ 1000 := by omega
          have HLE := Lib.hid hle
          generalize (L.getD j []).length = m at x0 hbig hci hle
          go_wp2_with fail
          go_roundw
          case rel =>
            refine ⟨j + 1, by omega, by go_num, fun k hk => ?_, by first | rfl | trivial⟩
            rcases Nat.lt_or_ge k j with h | h
            · exact HALL.out k h
            · obtain rfl : k = j := by omega
              exact HLE.out
          case measure => simp [intOf]; omega
      · have hb : bigL L = false := by
          unfold bigL
          rw [Bool.or_eq_false_iff]
          refine ⟨by rw [HL.out]; simpa using h30, ?_⟩
          rw [List.any_eq_false]
          intro l hm
          obtain ⟨k, hk, rfl⟩ := List.getElem_of_mem hm
          have := hall k (by rw [HL.out] at hk; omega)
          simp only [List.getD, List.getElem?_eq_getElem hk, Option.getD_some] at this
          simp
          omega
        have HB := Lib.hid hb
        clear hall hb
        go_wp2_with fail
        (try simp only [Exit.inBlock, Exit.then])
        go_ret
        rw [HB.out]
        exact ⟨rfl, rfl⟩

set_option maxRecDepth 100000 in
set_option maxHeartbeats 1000000 in
theorem join_any (sa : Option Addr) (n c : Nat) (L : List (List Int)) (w : World) (hs : SrcL w sa n L) (hN : L.flatten.length ≤ 1099511627776) (hn : n ≤ 1099511627776) :
    Calls Tryd.prog 9 #[.slice sa n c] w fun e w' => ∃ v, e = .returned v ∧ Own8 w' w.heap.size v L.flatten ∧ Below w.heap.size w w' := by
  have hl := hs.len
  have HS := Lib.hid hs
  have HL := Lib.hid hl
  clear hs hl
  go_enter Tryd.func9, Tryd.ntmps9
  go_wp2_with fail
  go_loopw [3, 4] (fun v i wr => ∃ j : Nat, j ≤ n ∧ i = .int .i64 j ∧ Own8 wr w.heap.size v (L.take j).flatten ∧ Below w.heap.size w wr) (fun _ i _ => n - (intOf i).toNat)
  case atStart => exact ⟨0, Nat.zero_le _, rfl, Own8.nil _ _, Below.refl _ _⟩
  case round =>
    obtain ⟨j, hj, rfl, hO, hB⟩ := hrel
    by_cases hlt : j < n
    · obtain ⟨a, si, ci, rfl, hc, hci, hsi⟩ := HS.out.cell j hlt
      have x0 := below_cell hB hc
      have hsi' := hsi.below hB
      have hfl := flat_le L j (by rw [HL.out]; exact hlt)
      have HFS := Lib.hid (flat_snoc L j (by rw [HL.out]; exact hlt))
      obtain ⟨va, vc, hv, -⟩ := hO.form
      obtain ⟨T, hT⟩ : ∃ T, T = (L.take j).flatten := ⟨_, rfl⟩
      obtain ⟨l, hlj⟩ : ∃ l, l = L.getD j [] := ⟨_, rfl⟩
      rw [← hlj] at x0 hci hsi' hfl HFS
      rw [← hT] at hO hv hfl HFS
      subst hv
      obtain ⟨m, hm⟩ : ∃ m, m = l.length := ⟨_, rfl⟩
      obtain ⟨t, ht⟩ : ∃ t, t = T.length := ⟨_, rfl⟩
      rw [← hm] at x0 hci hsi' hfl
      rw [← ht] at hO hfl ⊢
      have HTL := Lib.hid ht.symm
      have HO := Lib.hid hO
      have HSI := Lib.hid hsi'
      have HB := Lib.hid hB
      clear hO hsi hsi' hB hc hT hlj hm ht
      go_wp2_with ((with_reducible show wpList _ _ _ (Oper.mk (some 16) _ _ _ _ _ :: _) _ _); refine wpList_app8 rfl (.tmp 11) (.tmp 15) rfl w.heap.size (.slice va t vc) T rfl HO.out si m ci l rfl HSI.out (by rw [HTL.out]; omega) HB.out.size ?_; intro v6 w6 ho6 hg6 hn6 hb6; have HO6 := Lib.hid ho6; have HG6 := Lib.hid hg6; clear ho6 hg6 hn6 hb6)
      go_roundw
      case rel => exact ⟨j + 1, by omega, by go_num, by rw [HFS.out]; exact HO6.out, app8_below HO.out HG6.out HB.out HB.out.size⟩
      case measure => simp [intOf]; omega
    · have ej : L.take j = L := List.take_of_length_le (by rw [HL.out]; omega)
      rw [ej] at hO
      have HO := Lib.hid hO
      have HB := Lib.hid hB
      clear hO hB ej
      go_wp2_with fail
      (try simp only [Exit.inBlock, Exit.then])
      go_ret
      exact ⟨_, rfl, HO.out, HB.out⟩

end Go.Proofs.YtmohdmjjkhcjoaaDoor
