/- bytes.Clone: what it answers: new memory that holds the bytes. No condition. -/
import Derived.Test.YtoljnogpegemjaaDoorByt
namespace Go.Proofs.YtoljnogpegemjaaDoor
open Go.RowKit

theorem clone_nil (c : Nat) (w : World) :
    Calls Tryd.prog 82 #[.slice none 0 c] w fun e w' => e = .returned (.slice none 0 0) ∧ w = w' := by
  have q := fun (w : World) (a : Option Addr) (n c n' c' : Nat) => Lib.run_eql_slice_nil (P := Tryd.prog) w 24 5 a n c n' c' Tryd.underlying24
  go_enter Tryd.func82, Tryd.ntmps82
  go_wp2
  go_ret
  exact ⟨rfl, rfl⟩

set_option maxHeartbeats 400000 in
theorem clone_any (ad : Addr) (n c : Nat) (xs : List Int) (w : World) (hsrc : Src w (some ad) n xs) (hn : n ≤ 1099511627776) :
    Calls Tryd.prog 82 #[.slice (some ad) n c] w fun e w' => ∃ v, e = .returned v ∧ Owns w' w.heap.size v xs ∧ Below w.heap.size w w' := by
  have q := fun (w : World) (a : Option Addr) (n c n' c' : Nat) => Lib.run_eql_slice_nil (P := Tryd.prog) w 24 5 a n c n' c' Tryd.underlying24
  obtain ⟨i0, hi, hz0, hz1, hz2⟩ := info_parts info_u8
  have hxl := hsrc.len
  have hcs : (xs.map (Value.int .u8)).length = n * 1 := by simp [hxl]
  have hsr : ∀ o, ∀ j v, (xs.map (Value.int .u8))[j]? = some v → (w.alloc o).cell? (ad.add j) = some v := by
    intro o j v hj
    rw [List.getElem?_map] at hj
    have hjl : j < xs.length := by
      rcases Nat.lt_or_ge j xs.length with q | q
      · exact q
      · rw [List.getElem?_eq_none q] at hj; cases hj
    obtain ⟨a', he, hc⟩ := hsrc.cell j (by omega)
    cases he
    refine ((Kept.refl (fun _ => False) w).alloc o).cellX (v := v) ?_ id
    rw [hc]
    simp [hjl] at hj
    simp [List.getD, hjl, hj]
  have hone : ∀ v ∈ xs.map (Value.int .u8), v.oneCell' = true := by
    intro v hv
    obtain ⟨x, _, rfl⟩ := List.mem_map.1 hv
    rfl
  have hown0 : (w.alloc (.cells #[] 5)).ownsRow w.heap.size 5 1 (.slice (some ⟨w.heap.size, 0, none⟩) 0 0) 0 [] := World.ownsRow_made w #[] 0 (Nat.le_refl _) (by decide) rfl
  have HCS := Lib.hid hcs
  have HSR := Lib.hid hsr
  have HONE := Lib.hid hone
  have HOWN := Lib.hid hown0
  have HXL := Lib.hid hxl
  clear hcs hsr hone hown0 hxl
  go_enter Tryd.func82, Tryd.ntmps82
  go_wp2_with (at_builtin; refine wpList_append_own _ rfl _ _ 24 rfl w.heap.size 5 i0 (.int .u8 0) 1 1 Tryd.underlying24 hi hz0 hz1 hz2 rfl (by decide) _ _ _ rfl HOWN.out ad n _ (xs.map (Value.int .u8)) rfl HCS.out (HSR.out _) HONE.out ?_ ?_ ?_ ?_; rotate_right; intro v' w1 hown' hgrow hnil)
  · go_ret
    refine ⟨v', rfl, Owns.of_row ?_ ?_, ?_⟩
    · rw [HXL.out]; simpa using hown'
    · intro e
      have := (hnil.1 e).1
      cases this
    · exact ((Below.refl _ w).alloc (Nat.le_refl _) _).grown hgrow (by simp) (fun k e => by cases e; exact Nat.le_refl _)
  · unfold maxLen; omega
  · omega
  · simp

end Go.Proofs.YtoljnogpegemjaaDoor
