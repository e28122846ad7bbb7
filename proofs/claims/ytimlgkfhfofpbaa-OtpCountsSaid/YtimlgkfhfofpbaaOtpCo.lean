/- OtpCounts: what the loop holds; the ways that end early. No condition. -/
import Derived.Test.YtimlgkfhfofpbaaRfB
import Derived.Test.YtimlgkfhfofpbaaOtpAq
import Derived.Deep.RegionHeld3
namespace Go.Proofs.Ytimlgkfhfofpbaa
open Go.RowKit

/-- Both flashes, both counters, the boxes of root and secret. -/
structure OcR (w wr : World) (x y p g q pr gr qr : Nat) (s : Fl) (c M : Nat) (r sx : List Int) : Prop where
  fl : IsFl wr p g s
  o : IsOtp wr q (.pointer (some ⟨p, 0, none⟩)) r sx c M
  rf : IsRf wr pr gr s
  ro : IsRo wr qr pr c M
  b1 : wr.heap[x]? = some (.cells (arr .u8 r) 31 (0, 0))
  b2 : wr.heap[y]? = some (.cells (arr .u8 sx) 31 (0, 0))
  below : Below w.heap.size w wr

/-- Which blocks they are. -/
structure OcB (B x y p g q pr gr qr : Nat) : Prop where
  x0 : B ≤ x
  y0 : x < y
  p0 : y < p ∧ y < g ∧ y < q ∧ y < pr ∧ y < gr ∧ y < qr
  pg : p ≠ g ∧ p ≠ q ∧ p ≠ pr ∧ p ≠ gr ∧ p ≠ qr ∧ g ≠ q ∧ g ≠ pr ∧ g ≠ gr ∧ g ≠ qr ∧ q ≠ pr ∧ q ≠ gr ∧ q ≠ qr ∧ pr ≠ gr ∧ pr ≠ qr ∧ gr ≠ qr

/-- The own side turns. -/
theorem OcR.own {w wr w' : World} {x y p g q pr gr qr : Nat} {s s' : Fl} {c c' M : Nat} {r sx : List Int} (h : OcR w wr x y p g q pr gr qr s c M r sx) (hb : OcB w.heap.size x y p g q pr gr qr)
    (hk : Kept (fun y => y = p ∨ y = q) wr w') (hf : IsFl w' p g s') (ho : IsOtp w' q (.pointer (some ⟨p, 0, none⟩)) r sx c' M) :
    IsRf w' pr gr s ∧ IsRo w' qr pr c M ∧ w'.heap[x]? = some (.cells (arr .u8 r) 31 (0, 0)) ∧ w'.heap[y]? = some (.cells (arr .u8 sx) 31 (0, 0)) ∧ Below w.heap.size w w' := by
  obtain ⟨x0, y0, p0, pg⟩ := hb
  refine ⟨h.rf.kept hk (by omega) (by omega), h.ro.kept hk (by omega), hk.blk h.b1 (by omega), hk.blk h.b2 (by omega), h.below.trans (hk.toBelow h.below.size (by rintro i (rfl | rfl) <;> omega))⟩
/-- Both have turned. -/
theorem OcR.both {w w1 w2 : World} {x y p g q pr gr qr : Nat} {s' : Fl} {c' M : Nat} {r sx : List Int} (hb : OcB w.heap.size x y p g q pr gr qr)
    (hf : IsFl w1 p g s') (ho : IsOtp w1 q (.pointer (some ⟨p, 0, none⟩)) r sx c' M) (hx : w1.heap[x]? = some (.cells (arr .u8 r) 31 (0, 0)) ∧ w1.heap[y]? = some (.cells (arr .u8 sx) 31 (0, 0)) ∧ Below w.heap.size w w1)
    (hk : Kept (fun y => y = pr ∨ y = qr) w1 w2) (hrf : IsRf w2 pr gr s') (hro : IsRo w2 qr pr c' M) : OcR w w2 x y p g q pr gr qr s' c' M r sx := by
  obtain ⟨x0, y0, p0, pg⟩ := hb
  obtain ⟨h1, h2, h3⟩ := hx
  exact ⟨hf.kept hk (by omega) (by omega), ho.kept hk (by omega), hrf, hro, hk.blk h1 (by omega), hk.blk h2 (by omega), h3.trans (hk.toBelow h3.size (by rintro i (rfl | rfl) <;> omega))⟩
theorem OcR.drewN {w wr : World} {x y p g q pr gr qr : Nat} {s : Fl} {c M : Nat} {r sx : List Int} (h : OcR w wr x y p g q pr gr qr s c M r sx) (n : Nat) : OcR w (wr.drewN n) x y p g q pr gr qr s c M r sx :=
  ⟨h.fl.drewN n, h.o.drewN n, h.rf.drewN n, h.ro.drewN n, h.b1, h.b2, Below.drewN h.below n⟩
theorem OcR.belowR {w wr w' : World} {x y p g q pr gr qr : Nat} {s : Fl} {c M : Nat} {r sx : List Int} (h : OcR w wr x y p g q pr gr qr s c M r sx) (hb : Below wr.heap.size wr w') : OcR w w' x y p g q pr gr qr s c M r sx :=
  ⟨h.fl.below hb, h.o.below hb, h.rf.below hb, h.ro.below hb, Below.blk hb h.b1 (blk_lt h.b1), Below.blk hb h.b2 (blk_lt h.b2), h.below.trans (hb.mono h.below.size)⟩

theorem OcR.drew {w wr : World} {x y p g q pr gr qr : Nat} {s : Fl} {c M : Nat} {r sx : List Int} (h : OcR w wr x y p g q pr gr qr s c M r sx) : OcR w wr.drew x y p g q pr gr qr s c M r sx :=
  ⟨h.fl.drewN 1, h.o.drewN 1, h.rf.drewN 1, h.ro.drewN 1, h.b1, h.b2, Below.drewN h.below 1⟩
theorem OcR.S {w wr : World} {x y p g q pr gr qr : Nat} {s : Fl} {c M : Nat} {r sx : List Int} (h : OcR w wr x y p g q pr gr qr s c M r sx) (rc sc : List Value) (hr : rc = r.map (Value.int .u8)) (hs : sc = sx.map (Value.int .u8)) :
    wr.cell? ⟨qr, 1, none⟩ = some (.int .i64 c) ∧ wr.cell? ⟨qr, 2, none⟩ = some (.int .i64 M) ∧ wr.rangeAt x 0 rc ∧ wr.rangeAt (y) 0 sc := by
  subst hr
  subst hs
  refine ⟨h.ro.cs.2.1, h.ro.cs.2.2, fun j v hj => ?_, fun j v hj => ?_⟩
  · rw [cell_blk h.b1, Nat.zero_add, ← hj]; simp [arr]
  · rw [cell_blk h.b2, Nat.zero_add, ← hj]; simp [arr]
theorem eq_num (r : List Int) (hr : r.length = 32) (w : World) : (Op.equalIn 10000 31 (.agg (r.map (Value.int .u8)).toArray) (.agg (r.map (Value.int .u8)).toArray)).run Try.prog w = .ok true w := by
  have := run_equalIn_arr (P := Try.prog) w 9998 31 5 32 .u8 .u8 Try.underlying31 Try.underlying5 size_one r r hr hr
  simpa [arr] using this
theorem OcR.ld {w wr : World} {x y p g q pr gr qr : Nat} {s : Fl} {c M : Nat} {r sx : List Int} (h : OcR w wr x y p g q pr gr qr s c M r sx) (rc sc : List Value) (hr : rc = r.map (Value.int .u8)) (hs : sc = sx.map (Value.int .u8)) (lr : r.length = 32) (ls : sx.length = 32) :
    wr.cell? ⟨qr, 1, none⟩ = some (.int .i64 c) ∧ wr.cell? ⟨qr, 2, none⟩ = some (.int .i64 M) ∧
    (Instr.loadAt 31 (.pointer (some ⟨x, 0, none⟩))).run Try.prog wr = .ok (.agg rc.toArray) wr ∧ (Instr.loadAt 31 (.pointer (some ⟨y, 0, none⟩))).run Try.prog wr = .ok (.agg sc.toArray) wr := by
  obtain ⟨h1, h2, h3, h4⟩ := h.S rc sc hr hs
  have e1 : rc.length = 32 := by rw [hr, List.length_map, lr]
  have e2 : sc.length = 32 := by rw [hs, List.length_map, ls]
  exact ⟨h1, h2, run_loadAt_mid _ _ _ _ _ _ h3 Try.underlying31 rfl (by rw [e1]; exact size_num), run_loadAt_mid _ _ _ _ _ _ h4 Try.underlying31 rfl (by rw [e2]; exact size_num)⟩
/-- What each call of the comparison answers. -/
theorem OcR.calls {w : World} {x y p g q pr gr qr : Nat} {s : Fl} {c M : Nat} {r sx : List Int} (rc sc : List Value) (hr : rc = r.map (Value.int .u8)) (hs : sc = sx.map (Value.int .u8)) :
    (∀ wr, OcR w wr x y p g q pr gr qr s c M r sx → Calls Try.prog 19 #[.pointer (some ⟨q, 0, none⟩)] wr fun e w' => e = .returned (.int .i64 c) ∧ wr = w') ∧
    (∀ wr, OcR w wr x y p g q pr gr qr s c M r sx → Calls Try.prog 26 #[.pointer (some ⟨q, 0, none⟩)] wr fun e w' => e = .returned (.int .i64 M) ∧ wr = w') ∧
    (∀ wr, OcR w wr x y p g q pr gr qr s c M r sx → Calls Try.prog 20 #[.pointer (some ⟨q, 0, none⟩)] wr fun e w' => e = .returned (.agg rc.toArray) ∧ OcR w w' x y p g q pr gr qr s c M r sx) ∧
    (∀ wr, OcR w wr x y p g q pr gr qr s c M r sx → Calls Try.prog 21 #[.pointer (some ⟨q, 0, none⟩)] wr fun e w' => e = .returned (.agg sc.toArray) ∧ OcR w w' x y p g q pr gr qr s c M r sx) := by
  subst hr
  subst hs
  refine ⟨fun wr h => ocount_any q _ _ _ _ _ _ h.o, fun wr h => omost_any q _ _ _ _ _ _ h.o, fun wr h => (oroot_any q _ _ _ _ _ _ h.o).mono ?_, fun wr h => (osecret_any q _ _ _ _ _ _ h.o).mono ?_⟩
  · rintro e w' ⟨rfl, hb⟩; exact ⟨rfl, h.belowR hb⟩
  · rintro e w' ⟨rfl, hb⟩; exact ⟨rfl, h.belowR hb⟩

set_option maxRecDepth 100000 in
set_option maxHeartbeats 2000000 in
theorem oc_early (mo n : Int) (r sx : List Int) (pa : Option Addr) (lp cp : Nat) (w : World) (h : n < 0 ∨ 60 < n ∨ (0 ≤ n ∧ n ≤ 60 ∧ 60 < lp)) :
    Calls Try.prog 4 #[.int .i64 mo, .agg (arr .u8 r), .agg (arr .u8 sx), .slice pa lp cp, .int .i64 n] w fun e w' => e = .returned (.bool true) ∧ Below w.heap.size w w' := by
  have h0 := fun w => alive20_any w
  have H0 := Lib.hid h0
  clear h0
  rcases h with h1 | h1 | ⟨h1, h2, h3⟩
  all_goals
    go_enter Try.func4, Try.ntmps4
    go_wp2_with (go_at_call 13; refine (H0.out _).mono ?_; rintro e w' ⟨rfl, hb⟩)
    go_ret
    exact ⟨rfl, (((Below.refl _ w).alloc (Nat.le_refl _) _).alloc (by simp) _).trans (hb.mono (by simp; omega))⟩

end Go.Proofs.Ytimlgkfhfofpbaa
