/- chacha.quarter, word and the document's quarter, little: what they do. Condition of quarter: sixteen words lie there. -/
import Derived.Test.YtoljnogpegemjaaChP
import Derived.StillTailTactics
namespace Go.Proofs.Ytoljnogpegemjaa.Ch
open Go.RowKit
theorem rl_16 (x : Int) (w : World) : Calls Try.prog 69 #[.int .u32 x, .int .i64 16] w fun e w' => e = .returned (.int .u32 (rotl x 65536 65536)) ∧ w = w' := by
  have hb : bits .and .u64 (IntKind.u64.wrap 16) 31 = 16 := by decide +kernel
  have hb2 : bits .and .u64 16 31 = 16 := by decide +kernel
  go_enter Try.func69, Try.ntmps69
  go_wp2
  go_ret
  exact ⟨rfl, rfl⟩
theorem rol_16 (x : Int) (w : World) : Calls Try.prog 55 #[.int .u32 x, .int .u64 16] w fun e w' => e = .returned (.int .u32 (rotl x 65536 65536)) ∧ w = w' := by
  go_enter Try.func55, Try.ntmps55
  go_wp2
  go_ret
  exact ⟨rfl, rfl⟩
theorem rl_12 (x : Int) (w : World) : Calls Try.prog 69 #[.int .u32 x, .int .i64 12] w fun e w' => e = .returned (.int .u32 (rotl x 4096 1048576)) ∧ w = w' := by
  have hb : bits .and .u64 (IntKind.u64.wrap 12) 31 = 12 := by decide +kernel
  have hb2 : bits .and .u64 12 31 = 12 := by decide +kernel
  go_enter Try.func69, Try.ntmps69
  go_wp2
  go_ret
  exact ⟨rfl, rfl⟩
theorem rol_12 (x : Int) (w : World) : Calls Try.prog 55 #[.int .u32 x, .int .u64 12] w fun e w' => e = .returned (.int .u32 (rotl x 4096 1048576)) ∧ w = w' := by
  go_enter Try.func55, Try.ntmps55
  go_wp2
  go_ret
  exact ⟨rfl, rfl⟩
theorem rl_8 (x : Int) (w : World) : Calls Try.prog 69 #[.int .u32 x, .int .i64 8] w fun e w' => e = .returned (.int .u32 (rotl x 256 16777216)) ∧ w = w' := by
  have hb : bits .and .u64 (IntKind.u64.wrap 8) 31 = 8 := by decide +kernel
  have hb2 : bits .and .u64 8 31 = 8 := by decide +kernel
  go_enter Try.func69, Try.ntmps69
  go_wp2
  go_ret
  exact ⟨rfl, rfl⟩
theorem rol_8 (x : Int) (w : World) : Calls Try.prog 55 #[.int .u32 x, .int .u64 8] w fun e w' => e = .returned (.int .u32 (rotl x 256 16777216)) ∧ w = w' := by
  go_enter Try.func55, Try.ntmps55
  go_wp2
  go_ret
  exact ⟨rfl, rfl⟩
theorem rl_7 (x : Int) (w : World) : Calls Try.prog 69 #[.int .u32 x, .int .i64 7] w fun e w' => e = .returned (.int .u32 (rotl x 128 33554432)) ∧ w = w' := by
  have hb : bits .and .u64 (IntKind.u64.wrap 7) 31 = 7 := by decide +kernel
  have hb2 : bits .and .u64 7 31 = 7 := by decide +kernel
  go_enter Try.func69, Try.ntmps69
  go_wp2
  go_ret
  exact ⟨rfl, rfl⟩
theorem rol_7 (x : Int) (w : World) : Calls Try.prog 55 #[.int .u32 x, .int .u64 7] w fun e w' => e = .returned (.int .u32 (rotl x 128 33554432)) ∧ w = w' := by
  go_enter Try.func55, Try.ntmps55
  go_wp2
  go_ret
  exact ⟨rfl, rfl⟩
theorem sti {P : Program} {f : FuncId} {args : Array Value} {w : World} {v : Value} (h : Calls P f args w fun e w' => e = .returned v ∧ w = w') : Calls P f args w fun e w'' => e = .returned v ∧ w'' = w := h.mono fun _ _ h => ⟨h.1, h.2.symm⟩
theorem wr8 (a : Int) (h : 0 ≤ a) (h2 : a ≤ 255) : IntKind.u32.wrap (a * 256) = a * 256 := by rw [IntKind.wrap_u32]; omega

set_option maxRecDepth 100000 in
theorem word_any (p q m c : Nat) (b : List Int) (o : Nat) (w : World) (hb : bytes b) (hm : 4 ≤ m) (h0 : w.cell? ⟨p, q, none⟩ = some (.int .u8 (b.getD o 0))) (h1 : w.cell? ⟨p, q + 1, none⟩ = some (.int .u8 (b.getD (o + 1) 0))) (h2 : w.cell? ⟨p, q + 2, none⟩ = some (.int .u8 (b.getD (o + 2) 0))) (h3 : w.cell? ⟨p, q + 3, none⟩ = some (.int .u8 (b.getD (o + 3) 0))) :
    Calls Try.prog 68 #[.slice (some ⟨p, q, none⟩) m c] w fun e w' => e = .returned (.int .u32 (word b o)) ∧ ∃ k, w' = w.drewN k := by
  obtain ⟨b00, b01⟩ := bytes_at hb o
  obtain ⟨b10, b11⟩ := bytes_at hb (o + 1)
  obtain ⟨b20, b21⟩ := bytes_at hb (o + 2)
  obtain ⟨b30, b31⟩ := bytes_at hb (o + 3)
  have hw : word b o = bits .or .u32 (bits .or .u32 (bits .or .u32 (b.getD o 0) (b.getD (o + 1) 0 * 256)) (b.getD (o + 2) 0 * 65536)) (b.getD (o + 3) 0 * 16777216) := rfl
  have HW := Lib.hid hw
  have m0 : (0 : Int) < m := by omega
  have m1 : (1 : Int) < m := by omega
  have m2 : (2 : Int) < m := by omega
  have m3 : (3 : Int) < m := by omega
  clear hw hb
  generalize b.getD o 0 = x0 at h0 b00 b01 HW
  generalize b.getD (o + 1) 0 = x1 at h1 b10 b11 HW
  generalize b.getD (o + 2) 0 = x2 at h2 b20 b21 HW
  generalize b.getD (o + 3) 0 = x3 at h3 b30 b31 HW
  go_enter Try.func68, Try.ntmps68
  go_wp2_with fail
  go_quiet (fail)
  go_wp2_with fail
  go_ret
  exact ⟨by rw [HW.out]; rfl, _, rfl⟩

set_option maxRecDepth 100000 in
theorem little_any (p q m c : Nat) (b : List Int) (o : Nat) (w : World) (hb : bytes b) (hm : 4 ≤ m) (h0 : w.cell? ⟨p, q, none⟩ = some (.int .u8 (b.getD o 0))) (h1 : w.cell? ⟨p, q + 1, none⟩ = some (.int .u8 (b.getD (o + 1) 0))) (h2 : w.cell? ⟨p, q + 2, none⟩ = some (.int .u8 (b.getD (o + 2) 0))) (h3 : w.cell? ⟨p, q + 3, none⟩ = some (.int .u8 (b.getD (o + 3) 0))) :
    Calls Try.prog 47 #[.slice (some ⟨p, q, none⟩) m c] w fun e w' => e = .returned (.int .u32 (word b o)) ∧ ∃ k, w' = w.drewN k := by
  obtain ⟨b00, b01⟩ := bytes_at hb o
  obtain ⟨b10, b11⟩ := bytes_at hb (o + 1)
  obtain ⟨b20, b21⟩ := bytes_at hb (o + 2)
  obtain ⟨b30, b31⟩ := bytes_at hb (o + 3)
  have hw : word b o = bits .or .u32 (bits .or .u32 (bits .or .u32 (b.getD o 0) (b.getD (o + 1) 0 * 256)) (b.getD (o + 2) 0 * 65536)) (b.getD (o + 3) 0 * 16777216) := rfl
  have HW := Lib.hid hw
  have m0 : (0 : Int) < m := by omega
  have m1 : (1 : Int) < m := by omega
  have m2 : (2 : Int) < m := by omega
  have m3 : (3 : Int) < m := by omega
  clear hw hb
  generalize b.getD o 0 = x0 at h0 b00 b01 HW
  generalize b.getD (o + 1) 0 = x1 at h1 b10 b11 HW
  generalize b.getD (o + 2) 0 = x2 at h2 b20 b21 HW
  generalize b.getD (o + 3) 0 = x3 at h3 b30 b31 HW
  go_enter Try.func47, Try.ntmps47
  go_wp2_with fail
  go_quiet (fail)
  go_wp2_with fail
  go_ret
  exact ⟨by rw [HW.out]; rfl, _, rfl⟩

end Go.Proofs.Ytoljnogpegemjaa.Ch
