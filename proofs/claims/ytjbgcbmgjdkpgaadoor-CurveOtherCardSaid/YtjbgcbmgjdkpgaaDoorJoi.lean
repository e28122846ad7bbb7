/- portcullisref1.Join: what it answers. Condition: the lists lie there. -/
import Derived.Test.YtjbgcbmgjdkpgaaDoorMa
import Derived.StillTailTactics
namespace Go.Proofs.YtjbgcbmgjdkpgaaDoor
open Go.RowKit

set_option maxRecDepth 100000 in
set_option maxHeartbeats 1000000 in
theorem join_any (sa : Option Addr) (n c : Nat) (L : List (List Int)) (w : World) (hs : SrcL w sa n L) (hN : L.flatten.length ≤ 1099511627776) (hn : n ≤ 1099511627776) :
    Calls Tryd.prog 79 #[.slice sa n c] w fun e w' => ∃ v, e = .returned v ∧ Own8 w' w.heap.size v L.flatten ∧ Below w.heap.size w w' := by
  have hl := hs.len
  have HS := Lib.hid hs
  have HL := Lib.hid hl
  clear hs hl
  go_enter Tryd.func79, Tryd.ntmps79
  go_wp2_with fail
  go_loopw [3, 4] (fun v i wr => ∃ j : Nat, j ≤ n ∧ i = .int .i64 j ∧ Own8 wr w.heap.size v (L.take j).flatten ∧ Below w.heap.size w wr) (fun _ i _ => n - (intOf i).toNat)
  case atStart => exact ⟨0, Nat.zero_le _, rfl, Own8.nil _ _, Below.refl _ _⟩
  case round =>
    obtain ⟨j, hj, rfl, hO, hB⟩ := hrel
    by_cases hlt : j < n
    · obtain ⟨a, si, ci, rfl, hc, hci, hsi⟩ := HS.out.cell j hlt
      have x0 := below_cell hB hc
      have hsi' := hsi.below hB
      have hfl := flat_le L j (by rw [HL.out]; exact hlt)
      have HFS := Lib.hid (flat_snoc L j (by rw [HL.out]; exact hlt))
      obtain ⟨va, vc, hv, -⟩ := hO.form
      obtain ⟨T, hT⟩ : ∃ T, T = (L.take j).flatten := ⟨_, rfl⟩
      obtain ⟨l, hlj⟩ : ∃ l, l = L.getD j [] := ⟨_, rfl⟩
      rw [← hlj] at x0 hci hsi' hfl HFS
      rw [← hT] at hO hv hfl HFS
      subst hv
      obtain ⟨m, hm⟩ : ∃ m, m = l.length := ⟨_, rfl⟩
      obtain ⟨t, ht⟩ : ∃ t, t = T.length := ⟨_, rfl⟩
      rw [← hm] at x0 hci hsi' hfl
      rw [← ht] at hO hfl ⊢
      have HTL := Lib.hid ht.symm
      have HO := Lib.hid hO
      have HSI := Lib.hid hsi'
      have HB := Lib.hid hB
      clear hO hsi hsi' hB hc hT hlj hm ht
      go_wp2_with ((with_reducible refine aS 16 ?_); refine wpList_app8 rfl (.tmp 11) (.tmp 15) rfl w.heap.size (.slice va t vc) T rfl HO.out si m ci l rfl HSI.out (by rw [HTL.out]; omega) HB.out.size ?_; intro v6 w6 ho6 hg6 hn6 hb6; have HO6 := Lib.hid ho6; have HG6 := Lib.hid hg6; clear ho6 hg6 hn6 hb6)
      go_roundw
      case rel => exact ⟨j + 1, by omega, by go_num, by rw [HFS.out]; exact HO6.out, app8_below HO.out HG6.out HB.out HB.out.size⟩
      case measure => simp [intOf]; omega
    · have ej : L.take j = L := List.take_of_length_le (by rw [HL.out]; omega)
      rw [ej] at hO
      have HO := Lib.hid hO
      have HB := Lib.hid hB
      clear hO hB ej
      go_wp2_with fail
      (try simp only [Exit.inBlock, Exit.then])
      go_ret
      exact ⟨_, rfl, HO.out, HB.out⟩

end Go.Proofs.YtjbgcbmgjdkpgaaDoor
