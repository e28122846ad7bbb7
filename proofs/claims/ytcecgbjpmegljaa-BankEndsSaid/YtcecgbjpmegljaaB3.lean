/- portcullisref19.Flash: op, Turn, Plan, Start, New: what each answers, in the words of Fl. Condition: the flash lies there whole (IsRf). portcullisref19.New, NewOTP, OTP.Step: what each answers, in the words of Fl. Condition: the counter and its flash lie there whole. portcullislaw21.Begin: both flashes, both counters, new. No condition. BankEnds: the walk. Condition: the argument lies there, bytes. BankEnds: the walk, the rounds. Condition: the argument lies there, bytes. BankEnds: the argument as it comes in. No condition. -/
import Derived.Test.YtcecgbjpmegljaaF1
import Derived.Test.YtcecgbjpmegljaaB1
import Derived.Test.YtcecgbjpmegljaaB2
import Derived.Test.YtcecgbjpmegljaaOpen
import Derived.Test.YtcecgbjpmegljaaLig
namespace Go.Proofs.Ytcecgbjpmegljaa
open Go.RowKit

def rfCells (g : Nat) (s : Fl) (pl : Bool) (o c : Int) : Array Value :=
  #[.slice (some ⟨g, 0, none⟩) s.b.length s.b.length, .bool pl, .int .i64 o, .int .i64 c, .bool s.dead, .int .i64 s.er, .int .i64 s.pr]
/-- Block p is the document's flash with the state s, whose bytes lie at the head of block g. -/
structure IsRf (w : World) (p g : Nat) (s : Fl) : Prop where
  st : ∃ pl o c, w.heap[p]? = some (.cells (rfCells g s pl o c) 76 (0, 0)) ∧ ((pl = false ∧ s.op = -1) ∨ (pl = true ∧ s.op ≠ -1 ∧ o = s.op ∧ c = s.cut))
  row : ∃ sp, w.heap[g]? = some (.cells (row8 s.b sp) 5 (0, 0))
  ne : p ≠ g
  ok : s.Ok

theorem rfCs {w : World} {p g : Nat} {s : Fl} {pl : Bool} {o c : Int} (h : w.heap[p]? = some (.cells (rfCells g s pl o c) 76 (0, 0))) :
    w.cell? ⟨p, 0, none⟩ = some (.slice (some ⟨g, 0, none⟩) s.b.length s.b.length) ∧ w.cell? ⟨p, 1, none⟩ = some (.bool pl) ∧ w.cell? ⟨p, 2, none⟩ = some (.int .i64 o) ∧ w.cell? ⟨p, 3, none⟩ = some (.int .i64 c) ∧
      w.cell? ⟨p, 4, none⟩ = some (.bool s.dead) ∧ w.cell? ⟨p, 5, none⟩ = some (.int .i64 s.er) ∧ w.cell? ⟨p, 6, none⟩ = some (.int .i64 s.pr) :=
  ⟨cell_blk h 0, cell_blk h 1, cell_blk h 2, cell_blk h 3, cell_blk h 4, cell_blk h 5, cell_blk h 6⟩
theorem IsRf.c0 {w : World} {p g : Nat} {s : Fl} (h : IsRf w p g s) : w.cell? ⟨p, 0, none⟩ = some (.slice (some ⟨g, 0, none⟩) s.b.length s.b.length) := by
  obtain ⟨_, _, _, h, _⟩ := h.st; exact (rfCs h).1
theorem IsRf.c4 {w : World} {p g : Nat} {s : Fl} (h : IsRf w p g s) : w.cell? ⟨p, 4, none⟩ = some (.bool s.dead) := by
  obtain ⟨_, _, _, h, _⟩ := h.st; exact (rfCs h).2.2.2.2.1
theorem IsRf.fr {w : World} {p g : Nat} {s : Fl} (h : IsRf w p g s) (o : Nat) : w.frozen? ⟨p, o, none⟩ = false := by
  obtain ⟨_, _, _, h, _⟩ := h.st; exact free_blk h o
theorem IsRf.kept {T : Nat → Prop} {w w' : World} {p g : Nat} {s : Fl} (h : IsRf w p g s) (k : Kept T w w') (hp : ¬ T p) (hg : ¬ T g) : IsRf w' p g s :=
  ⟨let ⟨pl, o, c, h1, h2⟩ := h.st; ⟨pl, o, c, k.blk h1 hp, h2⟩, let ⟨sp, hs⟩ := h.row; ⟨sp, k.blk hs hg⟩, h.ne, h.ok⟩
theorem IsRf.below {w w' : World} {p g : Nat} {s : Fl} (h : IsRf w p g s) (k : Below w.heap.size w w') : IsRf w' p g s :=
  h.kept (T := fun _ => False) (Kept.of_below k) id id
theorem IsRf.drewN {w : World} {p g : Nat} {s : Fl} (h : IsRf w p g s) (n : Nat) : IsRf (w.drewN n) p g s := ⟨h.st, h.row, h.ne, h.ok⟩
theorem IsRf.lt {w : World} {p g : Nat} {s : Fl} (h : IsRf w p g s) : p < w.heap.size ∧ g < w.heap.size :=
  ⟨let ⟨_, _, _, h, _⟩ := h.st; blk_lt h, let ⟨_, hs⟩ := h.row; blk_lt hs⟩

end Go.Proofs.Ytcecgbjpmegljaa
namespace Go.Proofs.Ytcecgbjpmegljaa
open Go.RowKit

/-- The document's flash while its bytes are set: the first j are. -/
structure RfMid (w wr : World) (p g N j : Nat) : Prop where
  st : wr.heap[p]? = some (.cells (rfCells g ⟨List.replicate N 255, -1, 0, false, 0, 0⟩ false 0 0) 76 (0, 0))
  row : wr.heap[g]? = some (.cells (row8 (List.replicate j 255 ++ List.replicate (N - j) 0) []) 5 (0, 0))
  below : Below w.heap.size w wr

theorem RfMid.set {w wr : World} {p g N j : Nat} (h : RfMid w wr p g N j) (hj : j < N) (hne : p ≠ g) (hg : w.heap.size ≤ g) : RfMid w (wr.setCell ⟨g, j, none⟩ (.int .u8 255)) p g N (j + 1) := by
  refine ⟨blk_setCell_ne h.st _ hne, ?_, h.below.trans (((Kept.refl (fun x => x = g) wr).at j _).toBelow h.below.size (by rintro i rfl; exact hg))⟩
  rw [blk_setCell h.row, row8_set _ _ _ (by simp; omega)]
  congr 3
  rw [List.set_append_right _ _ (by simp), List.length_replicate, Nat.sub_self]
  rw [show N - j = (N - (j + 1)) + 1 by omega, List.replicate_succ, List.set_cons_zero, List.replicate_succ', List.append_assoc]
  rfl

theorem Fl.Ok.new' (k : Nat) (h : k ≤ 1024) : (⟨List.replicate (256 * k) 255, -1, 0, false, 0, 0⟩ : Fl).Ok := by
  have := Fl.Ok.new k
  have e : Fl.new k = ⟨List.replicate (256 * k) 255, -1, 0, false, 0, 0⟩ := by
    unfold Fl.new
    rw [show (min (max 0 (k : Int)) 1024).toNat = k by omega]
  rwa [e] at this

set_option maxRecDepth 100000 in
set_option maxHeartbeats 1600000 in
theorem rnew_cap (n : Int) (k : Nat) (hk : min (max 0 n) 1024 = (k : Int)) (w : World) :
    Calls Try.prog 26 #[.int .i64 n] w fun e w' =>
      ∃ p g, e = .returned (.pointer (some ⟨p, 0, none⟩)) ∧ IsRf w' p g (Fl.new n) ∧ w.heap.size ≤ p ∧ w.heap.size ≤ g ∧ Below w.heap.size w w' := by
  have hk2 : k ≤ 1024 := by omega
  obtain ⟨N, hN⟩ : ∃ N, N = 256 * k := ⟨_, rfl⟩
  have hmk := fun w => mk8 N (by omega) w
  have hnew : Fl.new n = ⟨List.replicate N 255, -1, 0, false, 0, 0⟩ := by
    unfold Fl.new; rw [hk, hN]; rfl
  have hfin : ∀ wr, RfMid w wr (w.heap.size + 1) w.heap.size N N → IsRf wr (w.heap.size + 1) w.heap.size (Fl.new n) ∧ Below w.heap.size w wr := by
    intro wr h
    rw [hnew]
    refine ⟨⟨⟨false, 0, 0, h.st, .inl ⟨rfl, rfl⟩⟩, ⟨[], ?_⟩, by omega, by rw [hN]; exact Fl.Ok.new' k hk2⟩, h.below⟩
    have := h.row
    rw [Nat.sub_self, List.replicate_zero, List.append_nil] at this
    exact this
  have hstart : RfMid w ((w.alloc (.cells (row8 (zeros N) []) 5)).alloc (.cells #[.slice (some ⟨w.heap.size, 0, none⟩) N N, .bool false, .int .i64 0, .int .i64 0, .bool false, .int .i64 0, .int .i64 0] 76)) (w.heap.size + 1) w.heap.size N 0 := by
    refine ⟨?_, ?_, ((Below.refl _ w).alloc (Nat.le_refl _) _).alloc (by simp) _⟩
    · have := blk_new (w.alloc (.cells (row8 (zeros N) []) 5)) (.cells (rfCells w.heap.size ⟨List.replicate N 255, -1, 0, false, 0, 0⟩ false 0 0) 76)
      rw [show (w.alloc (.cells (row8 (zeros N) []) 5)).heap.size = w.heap.size + 1 by simp] at this
      simp only [rfCells, List.length_replicate] at this ⊢
      exact this
    · have := blk_alloc (blk_new w (.cells (row8 (zeros N) []) 5)) (.cells #[.slice (some ⟨w.heap.size, 0, none⟩) N N, .bool false, .int .i64 0, .int .i64 0, .bool false, .int .i64 0, .int .i64 0] 76)
      simpa [zeros] using this
  have hNle : N ≤ 262144 := by omega
  have hloop : ∀ wr j, RfMid w wr (w.heap.size + 1) w.heap.size N j → wr.cell? ⟨w.heap.size + 1, 0, none⟩ = some (.slice (some ⟨w.heap.size, 0, none⟩) N N) ∧ (j < N → ∃ v, wr.cell? ⟨w.heap.size, j, none⟩ = some v) ∧ wr.frozen? ⟨w.heap.size, j, none⟩ = false := by
    intro wr j h
    refine ⟨by rw [cell_blk h.st]; simp [rfCells], fun hj => ?_, free_blk h.row _⟩
    rw [cell_blk h.row, row8_get _ _ _ (by simp; omega)]
    exact ⟨_, rfl⟩
  have HFIN := Lib.hid hfin
  have HST := Lib.hid hstart
  have HLOOP := Lib.hid hloop
  clear hnew hfin hstart hloop
  rcases (show n < 0 ∨ (0 ≤ n ∧ n ≤ 1024) ∨ 1024 < n by omega) with h0 | ⟨h0, h1⟩ | h0
  · obtain rfl : k = 0 := by omega
    have hN2 : (N : Int) = 0 := by omega
    rw [hN2] at hmk
    clear hN hk
    go_enter Try.func26, Try.ntmps26
    go_wp2
    go_loopw [4] (fun i wr => ∃ j : Nat, j ≤ N ∧ i = .int .i64 j ∧ RfMid w wr (w.heap.size + 1) w.heap.size N j) (fun i _ => N - (intOf i).toNat)
    case atStart => exact ⟨0, Nat.zero_le _, rfl, HST.out⟩
    case round =>
      obtain ⟨j, hj, rfl, hm⟩ := hrel
      obtain ⟨x0, x1, x2⟩ := HLOOP.out _ _ hm
      by_cases hlt : j < N
      · exact absurd hlt (by omega)
      · obtain rfl : j = N := by omega
        have HM := Lib.hid (HFIN.out _ hm)
        clear hm x1 x2
        go_wp2
        go_ret
        exact ⟨_, _, rfl, HM.out.1, by omega, by omega, HM.out.2⟩
  · obtain rfl : n = (k : Int) := by omega
    have hN2 : (N : Int) = 256 * (k : Int) := by omega
    rw [hN2] at hmk
    clear hN hk
    go_enter Try.func26, Try.ntmps26
    go_wp2
    go_loopw [4] (fun i wr => ∃ j : Nat, j ≤ N ∧ i = .int .i64 j ∧ RfMid w wr (w.heap.size + 1) w.heap.size N j) (fun i _ => N - (intOf i).toNat)
    case atStart => exact ⟨0, Nat.zero_le _, rfl, HST.out⟩
    case round =>
      obtain ⟨j, hj, rfl, hm⟩ := hrel
      obtain ⟨x0, x1, x2⟩ := HLOOP.out _ _ hm
      by_cases hlt : j < N
      · obtain ⟨v, x1⟩ := x1 hlt
        have HM := Lib.hid (hm.set hlt (by omega) (Nat.le_refl _))
        clear hm
        go_wp2
        go_roundw
        case rel => exact ⟨j + 1, by omega, by go_num, HM.out⟩
        case measure => simp [intOf]; omega
      · obtain rfl : j = N := by omega
        have HM := Lib.hid (HFIN.out _ hm)
        clear hm x1 x2
        go_wp2
        go_ret
        exact ⟨_, _, rfl, HM.out.1, by omega, by omega, HM.out.2⟩
  · obtain rfl : k = 1024 := by omega
    have hN2 : (N : Int) = 262144 := by omega
    rw [hN2] at hmk
    clear hN hk hN2 hk2
    go_enter Try.func26, Try.ntmps26
    go_wp2
    go_loopw [4] (fun i wr => ∃ j : Nat, j ≤ N ∧ i = .int .i64 j ∧ RfMid w wr (w.heap.size + 1) w.heap.size N j) (fun i _ => N - (intOf i).toNat)
    case atStart => exact ⟨0, Nat.zero_le _, rfl, HST.out⟩
    case round =>
      obtain ⟨j, hj, rfl, hm⟩ := hrel
      obtain ⟨x0, x1, x2⟩ := HLOOP.out _ _ hm
      by_cases hlt : j < N
      · obtain ⟨v, x1⟩ := x1 hlt
        have HM := Lib.hid (hm.set hlt (by omega) (Nat.le_refl _))
        clear hm
        go_wp2
        go_roundw
        case rel => exact ⟨j + 1, by omega, by go_num, HM.out⟩
        case measure => simp [intOf]; omega
      · obtain rfl : j = N := by omega
        have HM := Lib.hid (HFIN.out _ hm)
        clear hm x1 x2
        go_wp2
        go_ret
        exact ⟨_, _, rfl, HM.out.1, by omega, by omega, HM.out.2⟩

theorem rnew_any (n : Int) (w : World) :
    Calls Try.prog 26 #[.int .i64 n] w fun e w' =>
      ∃ p g, e = .returned (.pointer (some ⟨p, 0, none⟩)) ∧ IsRf w' p g (Fl.new n) ∧ w.heap.size ≤ p ∧ w.heap.size ≤ g ∧ Below w.heap.size w w' :=
  rnew_cap n (min (max 0 n) 1024).toNat (by omega) w

/-- Block q is the document's counter. -/
def IsRo (w : World) (q p : Nat) (c m : Int) : Prop := w.heap[q]? = some (.cells #[.pointer (some ⟨p, 0, none⟩), .int .i64 c, .int .i64 m] 78 (0, 0))
theorem IsRo.cs {w : World} {q p : Nat} {c m : Int} (h : IsRo w q p c m) :
    w.cell? ⟨q, 0, none⟩ = some (.pointer (some ⟨p, 0, none⟩)) ∧ w.cell? ⟨q, 1, none⟩ = some (.int .i64 c) ∧ w.cell? ⟨q, 2, none⟩ = some (.int .i64 m) :=
  ⟨cell_blk h 0, cell_blk h 1, cell_blk h 2⟩
theorem IsRo.kept {T : Nat → Prop} {w w' : World} {q p : Nat} {c m : Int} (h : IsRo w q p c m) (k : Kept T w w') (hq : ¬ T q) : IsRo w' q p c m := k.blk h hq
theorem IsRo.below {w w' : World} {q p : Nat} {c m : Int} (h : IsRo w q p c m) (k : Below w.heap.size w w') : IsRo w' q p c m := Below.blk k h (blk_lt h)
theorem IsRo.drewN {w : World} {q p : Nat} {c m : Int} (h : IsRo w q p c m) (n : Nat) : IsRo (w.drewN n) q p c m := h

theorem ronew_any (p : Nat) (m : Int) (w : World) :
    Calls Try.prog 27 #[.pointer (some ⟨p, 0, none⟩), .int .i64 m] w fun e w' =>
      ∃ q, e = .returned (.pointer (some ⟨q, 0, none⟩)) ∧ IsRo w' q p 0 (min (max 0 m) 1048576) ∧ w.heap.size ≤ q ∧ Below w.heap.size w w' := by
  have fin : ∀ y, y = min (max 0 m) 1048576 → IsRo (w.alloc (.cells #[.pointer (some ⟨p, 0, none⟩), .int .i64 0, .int .i64 y] 78)) w.heap.size p 0 (min (max 0 m) 1048576) := by
    rintro y rfl
    exact blk_new w _
  have FIN := Lib.hid fin
  clear fin
  rcases (show m < 0 ∨ (0 ≤ m ∧ m ≤ 1048576) ∨ 1048576 < m by omega) with h0 | ⟨h0, h1⟩ | h0
  all_goals
    go_enter Try.func27, Try.ntmps27
    go_wp2
    go_ret
    exact ⟨_, rfl, FIN.out _ (by omega), Nat.le_refl _, (Below.refl _ w).alloc (Nat.le_refl _) _⟩

end Go.Proofs.Ytcecgbjpmegljaa
namespace Go.Proofs.Ytcecgbjpmegljaa.Bk
open Go.RowKit Wr Sl Sm
set_option linter.unusedSimpArgs false
set_option linter.unusedVariables false

theorem zero_pair (w : World) : (zeroValue 42).run Try.prog w = .ok (.agg #[.pointer none, .pointer none, .pointer none, .pointer none]) w := by kernel_rfl
theorem pair_i (a b c d : Option Addr) : (Try.prog.info? 42).map (·.size) = some (#[Value.pointer a, .pointer b, .pointer c, .pointer d] : Array Value).size := by kernel_rfl
/-- Both flashes, both counters. -/
structure Both (w : World) (p g o pr gr qr : Nat) (r s : List Int) (f : Fl) (c m : Int) : Prop where
  fl : IsFl w p g f
  ot : IsOtp w o (.pointer (some ⟨p, 0, none⟩)) r s c m
  rf : IsRf w pr gr f
  ro : IsRo w qr pr c m
structure Six (B p g o pr gr qr : Nat) : Prop where
  low : B ≤ p ∧ B ≤ g ∧ B ≤ o ∧ B ≤ pr ∧ B ≤ gr ∧ B ≤ qr
  ne : p ≠ g ∧ p ≠ o ∧ p ≠ pr ∧ p ≠ gr ∧ p ≠ qr ∧ g ≠ o ∧ g ≠ pr ∧ g ≠ gr ∧ g ≠ qr ∧ o ≠ pr ∧ o ≠ gr ∧ o ≠ qr ∧ pr ≠ gr ∧ pr ≠ qr ∧ gr ≠ qr
set_option maxRecDepth 100000 in
set_option maxHeartbeats 2000000 in
theorem begins_any (n m : Int) (r s : List Int) (hrl : r.length = 32) (hsl : s.length = 32) (w : World) :
    Calls Try.prog 13 #[.int .i64 n, .int .i64 m, .agg (arr .u8 r), .agg (arr .u8 s)] w fun e w' => ∃ p g o pr gr qr,
      e = .returned (.agg #[.pointer (some ⟨p, 0, none⟩), .pointer (some ⟨o, 0, none⟩), .pointer (some ⟨pr, 0, none⟩), .pointer (some ⟨qr, 0, none⟩)]) ∧
      Both w' p g o pr gr qr r s (Fl.new n) 0 (min (max 0 m) 1048576) ∧ Six w.heap.size p g o pr gr qr ∧ Below w.heap.size w w' := by
  have hnew := fun w => new_any n w
  have hrnew := fun w => rnew_any n w
  have hno := fun (a : Option Addr) w => onew_any a r s hrl hsl m w
  have hro := fun (a : Nat) w => ronew_any a m w
  obtain ⟨f0, hf0⟩ : ∃ f, f = Fl.new n := ⟨_, rfl⟩
  rw [← hf0] at hnew hrnew ⊢
  obtain ⟨M, hM⟩ : ∃ M, M = min (max 0 m) 1048576 := ⟨_, rfl⟩
  rw [← hM] at hno hro ⊢
  have HNEW := Lib.hid hnew
  have HRNEW := Lib.hid hrnew
  have HNO := Lib.hid hno
  have HRO := Lib.hid hro
  have HRL := Lib.hid hrl
  have HSL := Lib.hid hsl
  have HZ := Lib.hid zero_pair
  have HB0 := Lib.hid (Blk.three w (arr .u8 r) (arr .u8 s) #[.pointer none, .pointer none, .pointer none, .pointer none] 37 37 42)
  clear hnew hrnew hno hro hf0 hM hrl hsl
  go_enter Try.func13, Try.ntmps13
  go_upto_region 1 with ((with_reducible show wpList _ _ _ (Oper.mk (some 8) _ _ _ _ _ :: _) _ _); refine wpList_alloc_row rfl 42 rfl _ (HZ.out _) ?_)
  (try simp only [World.size_alloc, Act.put, List.setIfInBounds_toArray, List.set_cons_zero, List.set_cons_succ])
  generalize (((w.alloc (.cells (arr .u8 r) 37)).alloc (.cells (arr .u8 s) 37)).alloc (.cells #[.pointer none, .pointer none, .pointer none, .pointer none] 42)) = wb at HB0 ⊢
  go_upto_region 2 with (go_at_call 6; refine (HNEW.out _).mono ?_; rintro e w1 ⟨p, g, rfl, hf1, hp, hg, hb1⟩; have HF1 := Lib.hid hf1; have HPG := Lib.hid (And.intro hp hg); have HB1 := Lib.hid (HB0.out.kept hb1); clear hf1 hp hg hb1)
  go_upto_region 3 with (go_at_call 26; refine (HRNEW.out _).mono ?_; rintro e w2 ⟨pr, gr, rfl, hf2, hp, hg, hb2⟩; have HF2 := Lib.hid hf2; have HPR := Lib.hid (And.intro hp hg); have HG1 := Lib.hid (HF1.out.below hb2); have HB2 := Lib.hid (HB1.out.kept hb2); have HZ2 := Lib.hid hb2.size; clear hf2 hp hg hb2)
  go_wp2_with (first | ((with_reducible show wpList _ _ _ (Oper.mk (some 17) _ _ _ _ _ :: _) _ _); refine wpList_load_part rfl 37 _ rfl (w.heap.size) 0 _ 37 (0, 0) _ (HB2.out.get 0 rfl) rfl .u8 r (arr_part _ _) Try.underlying37 rfl (num_i HRL.out) ?_) | ((with_reducible show wpList _ _ _ (Oper.mk (some 18) _ _ _ _ _ :: _) _ _); refine wpList_load_part rfl 37 _ rfl (w.heap.size + 1) 0 _ 37 (0, 0) _ (HB2.out.get 1 rfl) rfl .u8 s (arr_part _ _) Try.underlying37 rfl (num_i HSL.out) ?_) | (go_at_call 25; refine (HNO.out _ _).mono ?_; rintro e w3 ⟨o, rfl, ho3, hq3, hb3⟩; have HO3 := Lib.hid ho3; have HG2 := Lib.hid (HG1.out.below hb3); have HR2 := Lib.hid (HF2.out.below hb3); have HB3 := Lib.hid (HB2.out.kept hb3); have HQ3 := Lib.hid hq3; have HZ3 := Lib.hid hb3.size; clear ho3 hq3 hb3) | (go_at_call 27; refine (HRO.out _ _).mono ?_; rintro e w4 ⟨qr, rfl, ho4, hq4, hb4⟩; have HRO4 := Lib.hid ho4; have HG3 := Lib.hid (HG2.out.below hb4); have HR3 := Lib.hid (HR2.out.below hb4); have HO4 := Lib.hid (HO3.out.below hb4); have HB4 := Lib.hid (HB3.out.kept hb4); have HQ4 := Lib.hid hq4; clear ho4 hq4 hb4) | ((with_reducible show wpList _ _ _ (Oper.mk none _ _ _ _ _ :: _) _ _); refine wpList_store_whole rfl 42 _ _ rfl (w.heap.size + 1 + 1) _ _ 42 (HB4.out.get 2 rfl) rfl rfl rfl (pair_i _ _ _ _) (by simp [Value.oneCell', Value.cells]) ?_; intro w5 hb5 hk5 hz5; have HB5 := Lib.hid (HB4.out.put 2 rfl hk5 hb5); have HK5 := Lib.hid hk5; clear hb5 hk5 hz5))
  (try simp only [Exit.then])
  have hlow := HB0.out.lt 2 rfl
  have h1 := HG1.out.lt
  have h2 := HF2.out.lt
  have h3 := HF1.out.lt
  have h4 := HF1.out.ne
  have h5 := HF2.out.ne
  have h6 := HPG.out
  have h7 := HPR.out
  have h8 := HQ3.out
  have h9 := HQ4.out
  have h10 := blk_lt HO3.out.1
  have h11 := HZ2.out
  have h12 := HZ3.out
  refine bodyPost_ret (results_cell_row rfl _ _ (w.heap.size + 1 + 1) 42 _ (0, 0) _ rfl (HB5.out.get 2 rfl) Try.underlying42 rfl (pair_i _ _ _ _)) rfl ?_
  refine ⟨p, g, o, pr, gr, qr, rfl, ⟨HG3.out.kept HK5.out (by omega) (by omega), HO4.out.kept HK5.out (by omega), HR3.out.kept HK5.out (by omega) (by omega), HRO4.out.kept HK5.out (by omega)⟩, ⟨by omega, by omega⟩, HB5.out.below⟩
end Go.Proofs.Ytcecgbjpmegljaa.Bk
namespace Go.Proofs.Ytcecgbjpmegljaa.Bk
open Go.RowKit Wr Sl Sm
set_option linter.unusedSimpArgs false
set_option linter.unusedVariables false

set_option maxRecDepth 100000 in
set_option maxHeartbeats 800000 in
theorem ends_early (m : Int) (s : List Int) (sx : Option Addr) (n cx : Nat) (w : World) (h : m < 0 ∨ (0 ≤ m ∧ 12 < m) ∨ (0 ≤ m ∧ m ≤ 12 ∧ 5000 < n)) :
    Calls Try.prog 4 #[.agg (arr .u8 s), .int .i64 m, .slice sx n cx] w fun e w' => e = .returned (.bool true) ∧ Below w.heap.size w w' := by
  have HW1 := Lib.hid ((Below.refl w.heap.size w).alloc (Nat.le_refl _) (.cells (arr .u8 s) 37))
  rcases h with h1 | ⟨h1, h2⟩ | ⟨h1, h2, h3⟩
  all_goals
    go_enter Try.func4, Try.ntmps4
    go_wp2_with (go_at_call 12; refine (alive21_any _).mono ?_; rintro e w' ⟨rfl, hb⟩; have HB := Lib.hid (HW1.out.trans (hb.mono HW1.out.size)); clear hb)
    go_ret
    exact ⟨rfl, HB.out⟩

theorem own8_lit (w : World) (x : Int) : Own8 (w.alloc (.cells #[.int .u8 x] 5)) w.heap.size (.slice (some ⟨w.heap.size, 0, none⟩) 1 1) [x] := by
  have := World.ownsRow_lit (base := w.heap.size) (e := 5) (size := 1) w #[.int .u8 x] 1 (Nat.le_refl _) (by unfold maxLen; omega) rfl
  exact this
/-- Where the two stand in a round. -/
structure Rd (w wr : World) (p g o q pb : Nat) (pr qr : Value) (r s : List Int) (c m : Nat) (x : List Int) : Prop where
  st : ∃ f k, St wr p g o q r s f c m x k
  pair : wr.heap[pb]? = some (.cells #[.pointer (some ⟨p, 0, none⟩), .pointer (some ⟨o, 0, none⟩), pr, qr] 42 (0, 0))
  below : Below w.heap.size w wr
theorem Rd.keep {w wr w' : World} {p g o q pb : Nat} {pr qr : Value} {r s : List Int} {c m : Nat} {x : List Int} (h : Rd w wr p g o q pb pr qr r s c m x) (b : Below wr.heap.size wr w') : Rd w w' p g o q pb pr qr r s c m x := by
  obtain ⟨⟨f, k, h1⟩, h2, h3⟩ := h
  exact ⟨⟨f, k, h1.below b⟩, Below.blk b h2 (blk_lt h2), h3.trans (b.mono h3.size)⟩
theorem Rd.drewN {w wr : World} {p g o q pb : Nat} {pr qr : Value} {r s : List Int} {c m : Nat} {x : List Int} (h : Rd w wr p g o q pb pr qr r s c m x) (n : Nat) : Rd w (wr.drewN n) p g o q pb pr qr r s c m x := by
  obtain ⟨⟨f, k, h1⟩, h2, h3⟩ := h
  exact ⟨⟨f, k, h1.drewN n⟩, h2, Go.Proofs.Ytcecgbjpmegljaa.Below.drewN h3 n⟩
structure Lw (w : World) (p g o q pb : Nat) : Prop where
  low : w.heap.size ≤ p ∧ w.heap.size ≤ g ∧ w.heap.size ≤ o ∧ w.heap.size ≤ q
  ne : pb ≠ p ∧ pb ≠ g ∧ pb ≠ o ∧ pb ≠ q
theorem Rd.saved {w wr w' : World} {p g o q pb : Nat} {pr qr : Value} {r s : List Int} {c m : Nat} {x : List Int} (h : Rd w wr p g o q pb pr qr r s c m x) (l : Lw w p g o q pb) {f : Fl} {k c' : Nat} {y : List Int} (hs : St w' p g o q r s f c' m y k) (hk : Kept (All4 p g o q) wr w') : Rd w w' p g o q pb pr qr r s c' m y := by
  obtain ⟨h0, h2, h3⟩ := h
  obtain ⟨l1, l2⟩ := l
  exact ⟨⟨f, k, hs⟩, hk.blk h2 (by rintro (e | e | e | e) <;> omega), h3.trans (hk.toBelow h3.size (by rintro i (rfl | rfl | rfl | rfl) <;> omega))⟩
theorem rd_save_full {w wr : World} {p g o q pb : Nat} {pr qr : Value} {r s : List Int} {m : Nat} {x : List Int} (h : Rd w wr p g o q pb pr qr r s m m x) (sy : Option Addr) (n cy : Nat) (hn : n ≤ 4096) :
    Calls Try.prog 16 #[.pointer (some ⟨q, 0, none⟩), .slice sy n cy] wr fun e w' => e = .returned (.int .i64 19) ∧ Rd w w' p g o q pb pr qr r s m m x ∧ Below wr.heap.size wr w' := by
  obtain ⟨f, k, h1⟩ := h.st
  refine (save_full p g o q r s f m m x _ sy n cy wr h1.sys hn h1.calm.dead rfl).mono ?_
  rintro e w' ⟨rfl, n, rfl⟩
  exact ⟨rfl, h.drewN n, Go.Proofs.Ytcecgbjpmegljaa.Below.drewN (Below.refl _ _) n⟩
theorem rd_save {w wr : World} {p g o q pb : Nat} {pr qr : Value} {r s : List Int} {c m : Nat} {x : List Int} (h : Rd w wr p g o q pb pr qr r s c m x) (l : Lw w p g o q pb) (hc : c < m) (B : Nat) (sy : Option Addr) (n cy : Nat) (y : List Int) (hB : B ≤ wr.heap.size) (hp : p < B ∧ g < B ∧ o < B ∧ q < B) (hn : n ≤ 4096) (hnc : n ≤ cy) (hy : Src wr sy n y) (hyf : ∀ b, sy = some b → n = 0 ∨ B ≤ b.block) (hyb : bytes y) :
    Calls Try.prog 16 #[.pointer (some ⟨q, 0, none⟩), .slice sy n cy] wr fun e w' => e = .returned (.int .i64 0) ∧ Rd w w' p g o q pb pr qr r s (c + 1) m y ∧ Kept (All4 p g o q) wr w' := by
  obtain ⟨f, k, h1⟩ := h.st
  refine (save_st p g o q r s f c m k x sy n cy y wr h1 hc hy (fun b e => ?_) hyb hn hnc).mono ?_
  · rcases hyf b e with h0 | h0
    · exact .inl h0
    · exact .inr (by omega)
  rintro e w' ⟨rfl, ⟨f', h2⟩, h3⟩
  exact ⟨rfl, h.saved l h2 h3, h3⟩
theorem rd_load {w wr : World} {p g o q pb : Nat} {pr qr : Value} {r s : List Int} {c m : Nat} {x : List Int} (h : Rd w wr p g o q pb pr qr r s c m x) :
    Calls Try.prog 18 #[.pointer (some ⟨q, 0, none⟩)] wr fun e w' => ∃ v, e = .returned v ∧ (convert 26 9 v).run Try.prog w' = .ok (.string (strOfNums x)) w' ∧ Rd w w' p g o q pb pr qr r s c m x ∧ Below wr.heap.size wr w' := by
  obtain ⟨f, k, h1⟩ := h.st
  refine (load_any p g o q r s f c m x _ false wr h1.sys).mono ?_
  rintro e w' ⟨v, rfl, h2, h3⟩
  exact ⟨v, rfl, h2.str, h.keep h3, h3⟩
theorem rd_count {w wr : World} {p g o q pb : Nat} {pr qr : Value} {r s : List Int} {c m : Nat} {x : List Int} (h : Rd w wr p g o q pb pr qr r s c m x) :
    Calls Try.prog 17 #[.pointer (some ⟨o, 0, none⟩)] wr fun e w' => e = .returned (.int .i64 c) ∧ wr = w' := by
  obtain ⟨f, k, h1⟩ := h.st
  exact ocount_any o _ r s _ _ wr h1.sys.ot
theorem rd_open {w wr : World} {p g o q pb : Nat} {pr qr : Value} {r s : List Int} {c m : Nat} {x : List Int} (h : Rd w wr p g o q pb pr qr r s c m x) (l : Lw w p g o q pb) :
    Calls Try.prog 14 #[.pointer (some ⟨p, 0, none⟩), .pointer (some ⟨o, 0, none⟩)] wr fun e w' => ∃ q', e = .returned (.tuple #[.pointer (some ⟨q', 0, none⟩), .int .i64 0]) ∧
      Rd w w' p g o q' pb pr qr r s (sel (decide (c = m)) c (c + 1)) m x := by
  obtain ⟨⟨f, k, h1⟩, h2, h3⟩ := h
  have ha := h1.ap.ne
  refine (open_st p g o r s f c m k x wr h1.sys.fl h1.sys.ot (by omega) h1.sb h1.calm h1.gd h1.cm.2 h1.cm.1).mono ?_
  rintro e w' ⟨q', f', k', rfl, h4, h5, h6⟩
  have l1 := l.low
  have l2 := l.ne
  exact ⟨q', rfl, ⟨f', k', h4⟩, h6.blk h2 (by rintro (e | e | e) <;> omega), h3.trans (h6.toBelow h3.size (by rintro i (rfl | rfl | rfl) <;> omega))⟩
end Go.Proofs.Ytcecgbjpmegljaa.Bk
namespace Go.Proofs.Ytcecgbjpmegljaa.Bk
open Go.RowKit Wr Sl Sm
set_option linter.unusedSimpArgs false
set_option linter.unusedVariables false

theorem str_self (b : ByteArray) : (b.toList == b.toList) = true := by simp
set_option pp.deepTerms true in
set_option pp.maxSteps 1000000 in
set_option maxRecDepth 100000 in
set_option maxHeartbeats 4000000 in
theorem ends_any (m : Nat) (s x : List Int) (sx : Option Addr) (n cx : Nat) (w : World) (hm : m ≤ 12) (hn : n ≤ 5000) (hsl : s.length = 32) (hsb : bytes s) (hx : Src w sx n x) (hxb : bytes x) :
    Calls Try.prog 4 #[.agg (arr .u8 s), .int .i64 m, .slice sx n cx] w fun e w' => e = .returned (.bool true) ∧ Below w.heap.size w w' := by
  have hxl := hx.len
  have hnew := fun w => begins_any 64 (m : Int) (List.replicate 32 0) s (by simp) hsl w
  have hmm : min (max 0 (m : Int)) 1048576 = (m : Int) := by omega
  rw [hmm] at hnew
  have hgd := new_gd s
  have hcm0 := new_calm
  obtain ⟨f0, hf0⟩ : ∃ f, f = Fl.new 64 := ⟨_, rfl⟩
  obtain ⟨r, hr⟩ : ∃ r, r = List.replicate 32 (0 : Int) := ⟨_, rfl⟩
  have hb0 := fun w => build_no w
  have hrl : r.length = 32 := by rw [hr]; simp
  rw [← hf0, ← hr] at hnew
  rw [← hf0] at hgd hcm0
  rw [← hr] at hb0
  have HNEW := Lib.hid hnew
  have HB0 := Lib.hid hb0
  have HGD := Lib.hid hgd
  have HC0 := Lib.hid hcm0
  have HSL := Lib.hid hsl
  have HSB := Lib.hid hsb
  have HX := Lib.hid hx
  have HXB := Lib.hid hxb
  have HXL := Lib.hid hxl
  obtain ⟨N, hN⟩ : ∃ N, N = n + 1 := ⟨_, rfl⟩
  have HN := Lib.hid hN
  clear hnew hb0 hgd hcm0 hsl hsb hx hxb hxl hmm hf0 hr hN
  have HW0 := Lib.hid ((Below.refl w.heap.size w).alloc (Nat.le_refl _) (.cells (arr .u8 s) 37))
  have HS0 : Hid ((w.alloc (.cells (arr .u8 s) 37)).heap[w.heap.size]? = some (.cells (arr .u8 s) 37 (0, 0))) := Lib.hid (blk_new _ _)
  go_enter Try.func4, Try.ntmps4
  go_upto_region 4 with (go_at_call 12; refine (alive21_any _).mono ?_; rintro e w1 ⟨rfl, hb⟩; have HS1 := Lib.hid (Below.blk hb HS0.out (blk_lt HS0.out)); have HW1 := Lib.hid (HW0.out.trans (hb.mono HW0.out.size)); clear hb)
  clear HS0 HW0
  go_upto_region 5 with (first | ((with_reducible show wpList _ _ _ (Oper.mk (some 37) _ _ _ _ _ :: _) _ _); refine wpList_build (by rfl) 37 _ rfl #[] rfl _ (HB0.out _) ?_) | ((with_reducible show wpList _ _ _ (Oper.mk (some 38) _ _ _ _ _ :: _) _ _); refine wpList_load_part rfl 37 _ rfl (w.heap.size) 0 _ 37 (0, 0) _ HS1.out rfl .u8 s (arr_part _ _) Try.underlying37 rfl (num_i HSL.out) ?_) | (go_at_call 13; refine (HNEW.out _).mono ?_; rintro e w2 ⟨p, g, o, pr, gr, qr, rfl, h2, h3, h4⟩; have HB2 := Lib.hid h2; have HX2 := Lib.hid h3; have HW2 := Lib.hid (HW1.out.trans (h4.mono HW1.out.size)); have HZ2 : Hid (w.heap.size ≤ w1.heap.size) := Lib.hid HW1.out.size; clear h2 h3 h4))
  have HB3 : Hid (Below w2.heap.size w2 (w2.alloc (.cells #[.pointer (some ⟨p, 0, none⟩), .pointer (some ⟨o, 0, none⟩), .pointer (some ⟨pr, 0, none⟩), .pointer (some ⟨qr, 0, none⟩)] 42))) := Lib.hid ((Below.refl _ w2).alloc (Nat.le_refl _) _)
  have HP3 : Hid ((w2.alloc (.cells #[.pointer (some ⟨p, 0, none⟩), .pointer (some ⟨o, 0, none⟩), .pointer (some ⟨pr, 0, none⟩), .pointer (some ⟨qr, 0, none⟩)] 42)).heap[w2.heap.size]? = some (.cells #[.pointer (some ⟨p, 0, none⟩), .pointer (some ⟨o, 0, none⟩), .pointer (some ⟨pr, 0, none⟩), .pointer (some ⟨qr, 0, none⟩)] 42 (0, 0))) := Lib.hid (blk_new _ _)
  have HLT : Hid (p < w2.heap.size ∧ g < w2.heap.size ∧ o < w2.heap.size) := Lib.hid (by have h1 := HB2.out.fl.lt; have h2 := blk_lt HB2.out.ot.1; omega)
  have HF3 := Lib.hid (HB2.out.fl.below HB3.out)
  have HO3 := Lib.hid (HB2.out.ot.below HB3.out)
  have HW3 := Lib.hid (HW2.out.trans (HB3.out.mono HW2.out.size))
  have HZ3 : Hid (w2.heap.size < (w2.alloc (.cells #[.pointer (some ⟨p, 0, none⟩), .pointer (some ⟨o, 0, none⟩), .pointer (some ⟨pr, 0, none⟩), .pointer (some ⟨qr, 0, none⟩)] 42)).heap.size) := Lib.hid (by rw [World.size_alloc]; omega)
  generalize w2.alloc (.cells #[.pointer (some ⟨p, 0, none⟩), .pointer (some ⟨o, 0, none⟩), .pointer (some ⟨pr, 0, none⟩), .pointer (some ⟨qr, 0, none⟩)] 42) = w3 at HB3 HP3 HF3 HO3 HW3 HZ3 ⊢
  clear HB3 HB2 HW2 HS1 HW1 HB0 HNEW
  generalize w2.heap.size = pb at HP3 HLT HZ3 ⊢
  have x0 := cell_blk HP3.out 0
  have x1 := cell_blk HP3.out 1
  go_upto_region 6 with (go_at_call 14; refine (open_st p g o r s f0 0 m 1 [] w3 HF3.out HO3.out (by have := HX2.out.ne; omega) HSB.out HC0.out HGD.out (by omega) (by omega)).mono ?_; rintro e w4 ⟨q, f1, k1, rfl, h4, h5, h6⟩; have HR4 : Hid (Rd w w4 p g o q pb (.pointer (some ⟨pr, 0, none⟩)) (.pointer (some ⟨qr, 0, none⟩)) r s (sel (decide (0 = m)) 0 (0 + 1)) m []) := Lib.hid ⟨⟨f1, k1, h4⟩, h6.blk HP3.out (by have := HLT.out; rintro (e | e | e) <;> omega), HW3.out.trans (h6.toBelow HW3.out.size (by have := HX2.out.low; have := HZ2.out; rintro i (rfl | rfl | rfl) <;> omega))⟩; have HQ4 : Hid (w3.heap.size ≤ q) := Lib.hid h5; clear h4 h5 h6)
  have HLW : Hid (Lw w p g o q pb) := Lib.hid (by
    have h1 := HX2.out.low
    have h2 := HLT.out
    have h3 := HZ2.out
    have h4 := HQ4.out
    have h5 := HW3.out.size
    have h6 := HZ3.out
    exact ⟨by omega, by omega⟩)
  clear HP3 HF3 HO3 HC0 HGD HQ4 HX2 HLT HZ2 HZ3 HW3
  go_upto_region 8 with (go_at_call 15; refine (num21_any _ _).mono ?_; rintro e w' ⟨rfl, rfl⟩)
  clear x0 x1
  rcases Nat.eq_zero_or_pos m with h0 | h0
  · have hz : ¬ (0 : Int) < (m : Int) := by omega
    have hrd : Rd w w4 p g o q pb (.pointer (some ⟨pr, 0, none⟩)) (.pointer (some ⟨qr, 0, none⟩)) r s 0 m [] := by have := HR4.out; rw [show sel (decide (0 = m)) 0 (0 + 1) = 0 from by rw [decide_eq_true h0.symm]; rfl] at this; exact this
    have HR5 := Lib.hid hrd
    have HM0 := Lib.hid h0
    clear HR4 hrd h0
    go_wp2_with fail
    clear hz
    (try generalize decide ((0 : Int) < (m : Int)) = bz)
    (try generalize decide (0 < m) = bz2)
    go_loopw [11, 12, 13, 14, 15, 16] (fun v11 v12 i _ _ _ wr => ∃ (j c : Nat) (y : List Int), j ≤ 15 ∧ i = .int .i64 j ∧ v12 = .int .i64 c ∧ v11 = .string (strOfNums y) ∧ Rd w wr p g o q pb (.pointer (some ⟨pr, 0, none⟩)) (.pointer (some ⟨qr, 0, none⟩)) r s c m y) (fun _ _ i _ _ _ _ => 15 - (intOf i).toNat)
    case atStart => exact ⟨0, 0, [], by omega, rfl, rfl, rfl, HR5.out⟩
    case round =>
      obtain ⟨j, c, y, hj, rfl, rfl, rfl, hR⟩ := hrel
      obtain ⟨S, hS⟩ : ∃ S, S = strOfNums y := ⟨_, rfl⟩
      rw [← hS]
      have HST := Lib.hid hS.symm
      have HXR := Lib.hid (HX.out.below hR.below)
      have HCM : Hid (c ≤ m) := Lib.hid (by obtain ⟨f, k, h1⟩ := hR.st; exact h1.cm.1)
      have HR := Lib.hid hR
      clear hR hS HR5
      by_cases hlt : j < 15
      · skip
        have eN : ([(j : Int)] ++ x).length = N := by rw [List.length_append, HXL.out, HN.out]; simp only [List.length_cons, List.length_nil]; omega
        have HYB : Hid (bytes ([(j : Int)] ++ x)) := Lib.hid (by intro z hz; rcases List.mem_append.1 hz with h | h; (· simp only [List.mem_cons, List.not_mem_nil, or_false] at h; omega); exact HXB.out z h)
        have HEN := Lib.hid eN
        clear eN
        go_upto_region 16 with ((with_reducible show wpList _ _ _ (Oper.mk (some 61) _ _ _ _ _ :: _) _ _); refine wpList_app8 rfl (.tmp 59) (.tmp 60) rfl wr.heap.size (.slice (some ⟨wr.heap.size, 0, none⟩) 1 1) [(j : Int)] rfl (own8_lit wr j) sx n cx x rfl (HXR.out.below ((Below.refl _ wr).alloc (Nat.le_refl _) _)) (by show 1 + n ≤ _; omega) (by rw [World.size_alloc]; omega) ?_; intro v' wa ho hg _ _; obtain ⟨sy, cy, ev, hNC, -, hsy, hfy⟩ := ho.form; rw [HEN.out] at ev hNC hsy; subst ev; have HOA := Lib.hid ho; have HSY := Lib.hid hsy; have HFY := Lib.hid hfy; have hba := app8_below (own8_lit wr j) hg ((Below.refl _ wr).alloc (Nat.le_refl _) _) (by rw [World.size_alloc]; omega); have HBZ : Hid (wr.heap.size ≤ wa.heap.size) := Lib.hid hba.size; have HRA := Lib.hid (HR.out.keep hba); have HNC := Lib.hid hNC; clear ho hg hsy hfy hNC hba)
        generalize [(j : Int)] ++ x = Y at HYB HOA HSY HFY HEN
        have HLZ : Hid (p < wr.heap.size ∧ g < wr.heap.size ∧ o < wr.heap.size ∧ q < wr.heap.size) := Lib.hid (by obtain ⟨f, k, h1⟩ := HR.out.st; have := h1.sys.fl.lt; have := blk_lt h1.sys.ot.1; have := h1.sys.lt; omega)
        clear HR HXR
        by_cases hlong : 4096 < N
        · go_upto_region 17 with (go_at_call 16; refine (save_long q sy N cy wa hlong).mono ?_; rintro e w' ⟨rfl, rfl⟩)
          have HRC := HRA
          have x1 := cell_blk HRC.out.pair 1
          have hxx := str_self S
          go_wp2_with (first | (go_at_call 15; refine (num21_any _ _).mono ?_; rintro e w' ⟨rfl, rfl⟩) | (go_at_call 17; have hct := rd_count HRC.out; refine hct.mono ?_; rintro e w' ⟨rfl, rfl⟩; clear hct) | (go_at_call 18; refine (rd_load HRC.out).mono ?_; rintro e w7 ⟨v7, rfl, c7, h7, -⟩; rw [HST.out] at c7; have HRF := Lib.hid h7; clear h7))
          go_roundw
          case rel => exact ⟨j + 1, c, y, by omega, by go_num, rfl, by rw [HST.out], HRF.out⟩
          case measure => simp [intOf]; omega
        · by_cases hcm : m = c
          · subst hcm
            go_upto_region 17 with (go_at_call 16; refine (rd_save_full HRA.out sy N cy (by omega)).mono ?_; rintro e w' ⟨rfl, h6, -⟩; have HRC := Lib.hid h6; clear h6)
            have x1 := cell_blk HRC.out.pair 1
            have hxx := str_self S
            go_wp2_with (first | (go_at_call 15; refine (num21_any _ _).mono ?_; rintro e w' ⟨rfl, rfl⟩) | (go_at_call 17; have hct := rd_count HRC.out; refine hct.mono ?_; rintro e w' ⟨rfl, rfl⟩; clear hct) | (go_at_call 18; refine (rd_load HRC.out).mono ?_; rintro e w7 ⟨v7, rfl, c7, h7, -⟩; rw [HST.out] at c7; have HRF := Lib.hid h7; clear h7))
            go_roundw
            case rel => exact ⟨j + 1, m, y, by omega, by go_num, rfl, by rw [HST.out], HRF.out⟩
            case measure => simp [intOf]; omega
          · have hm0 := HM0.out
            have hc0 := HCM.out
            omega
      · have hj15 : ¬ (j : Int) < 15 := by omega
        clear hlt
        go_upto_region 26 with fail
        have x0 := cell_blk HR.out.pair 0
        have x1 := cell_blk HR.out.pair 1
        go_upto_region 27 with (go_at_call 14; refine (rd_open HR.out HLW.out).mono ?_; rintro e w5 ⟨q2, rfl, h5⟩; have HRO := Lib.hid h5; clear h5)
        clear HR x0 x1
        have x1 := cell_blk HRO.out.pair 1
        have hxx := str_self S
        by_cases hcm : c < m
        · have hm0 := HM0.out
          omega
        · have hrc : Rd w w5 p g o q2 pb (.pointer (some ⟨pr, 0, none⟩)) (.pointer (some ⟨qr, 0, none⟩)) r s c m y := by have := HRO.out; rw [show sel (decide (c = m)) c (c + 1) = c from by rw [decide_eq_true (by have := HCM.out; omega)]; rfl] at this; exact this
          have hcl : ¬ (c : Int) < (m : Int) := by omega
          have HRC := Lib.hid hrc
          clear hrc HRO hcm
          go_wp2_with (first | (go_at_call 15; refine (num21_any _ _).mono ?_; rintro e w' ⟨rfl, rfl⟩) | (go_at_call 17; have hct := rd_count HRF.out; refine hct.mono ?_; rintro e w' ⟨rfl, rfl⟩; clear hct) | (go_at_call 18; refine (rd_load HRC.out).mono ?_; rintro e w7 ⟨v7, rfl, c7, h7, -⟩; rw [HST.out] at c7; have HRF := Lib.hid h7; have x2 := cell_blk HRF.out.pair 1; clear h7))
          go_ret
          exact ⟨rfl, HRF.out.below⟩
  · have hz : (0 : Int) < (m : Int) := by omega
    have hrd : Rd w w4 p g o q pb (.pointer (some ⟨pr, 0, none⟩)) (.pointer (some ⟨qr, 0, none⟩)) r s 1 m [] := by have := HR4.out; rw [show sel (decide (0 = m)) 0 (0 + 1) = 1 from by rw [decide_eq_false (by omega)]; rfl] at this; exact this
    have HR5 := Lib.hid hrd
    have HM0 := Lib.hid h0
    clear HR4 hrd h0
    go_wp2_with fail
    clear hz
    (try generalize decide ((0 : Int) < (m : Int)) = bz)
    (try generalize decide (0 < m) = bz2)
    go_loopw [11, 12, 13, 14, 15, 16] (fun v11 v12 i _ _ _ wr => ∃ (j c : Nat) (y : List Int), j ≤ 15 ∧ i = .int .i64 j ∧ v12 = .int .i64 c ∧ v11 = .string (strOfNums y) ∧ Rd w wr p g o q pb (.pointer (some ⟨pr, 0, none⟩)) (.pointer (some ⟨qr, 0, none⟩)) r s c m y) (fun _ _ i _ _ _ _ => 15 - (intOf i).toNat)
    case atStart => exact ⟨0, 1, [], by omega, rfl, rfl, rfl, HR5.out⟩
    case round =>
      obtain ⟨j, c, y, hj, rfl, rfl, rfl, hR⟩ := hrel
      obtain ⟨S, hS⟩ : ∃ S, S = strOfNums y := ⟨_, rfl⟩
      rw [← hS]
      have HST := Lib.hid hS.symm
      have HXR := Lib.hid (HX.out.below hR.below)
      have HCM : Hid (c ≤ m) := Lib.hid (by obtain ⟨f, k, h1⟩ := hR.st; exact h1.cm.1)
      have HR := Lib.hid hR
      clear hR hS HR5
      by_cases hlt : j < 15
      · skip
        have eN : ([(j : Int)] ++ x).length = N := by rw [List.length_append, HXL.out, HN.out]; simp only [List.length_cons, List.length_nil]; omega
        have HYB : Hid (bytes ([(j : Int)] ++ x)) := Lib.hid (by intro z hz; rcases List.mem_append.1 hz with h | h; (· simp only [List.mem_cons, List.not_mem_nil, or_false] at h; omega); exact HXB.out z h)
        have HEN := Lib.hid eN
        clear eN
        go_upto_region 16 with ((with_reducible show wpList _ _ _ (Oper.mk (some 61) _ _ _ _ _ :: _) _ _); refine wpList_app8 rfl (.tmp 59) (.tmp 60) rfl wr.heap.size (.slice (some ⟨wr.heap.size, 0, none⟩) 1 1) [(j : Int)] rfl (own8_lit wr j) sx n cx x rfl (HXR.out.below ((Below.refl _ wr).alloc (Nat.le_refl _) _)) (by show 1 + n ≤ _; omega) (by rw [World.size_alloc]; omega) ?_; intro v' wa ho hg _ _; obtain ⟨sy, cy, ev, hNC, -, hsy, hfy⟩ := ho.form; rw [HEN.out] at ev hNC hsy; subst ev; have HOA := Lib.hid ho; have HSY := Lib.hid hsy; have HFY := Lib.hid hfy; have hba := app8_below (own8_lit wr j) hg ((Below.refl _ wr).alloc (Nat.le_refl _) _) (by rw [World.size_alloc]; omega); have HBZ : Hid (wr.heap.size ≤ wa.heap.size) := Lib.hid hba.size; have HRA := Lib.hid (HR.out.keep hba); have HNC := Lib.hid hNC; clear ho hg hsy hfy hNC hba)
        generalize [(j : Int)] ++ x = Y at HYB HOA HSY HFY HEN
        have HLZ : Hid (p < wr.heap.size ∧ g < wr.heap.size ∧ o < wr.heap.size ∧ q < wr.heap.size) := Lib.hid (by obtain ⟨f, k, h1⟩ := HR.out.st; have := h1.sys.fl.lt; have := blk_lt h1.sys.ot.1; have := h1.sys.lt; omega)
        clear HR HXR
        by_cases hlong : 4096 < N
        · go_upto_region 17 with (go_at_call 16; refine (save_long q sy N cy wa hlong).mono ?_; rintro e w' ⟨rfl, rfl⟩)
          have HRC := HRA
          have x1 := cell_blk HRC.out.pair 1
          have hxx := str_self S
          go_wp2_with (first | (go_at_call 15; refine (num21_any _ _).mono ?_; rintro e w' ⟨rfl, rfl⟩) | (go_at_call 17; have hct := rd_count HRC.out; refine hct.mono ?_; rintro e w' ⟨rfl, rfl⟩; clear hct) | (go_at_call 18; refine (rd_load HRC.out).mono ?_; rintro e w7 ⟨v7, rfl, c7, h7, -⟩; rw [HST.out] at c7; have HRF := Lib.hid h7; clear h7))
          go_roundw
          case rel => exact ⟨j + 1, c, y, by omega, by go_num, rfl, by rw [HST.out], HRF.out⟩
          case measure => simp [intOf]; omega
        · by_cases hcm : m = c
          · subst hcm
            go_upto_region 17 with (go_at_call 16; refine (rd_save_full HRA.out sy N cy (by omega)).mono ?_; rintro e w' ⟨rfl, h6, -⟩; have HRC := Lib.hid h6; clear h6)
            have x1 := cell_blk HRC.out.pair 1
            have hxx := str_self S
            go_wp2_with (first | (go_at_call 15; refine (num21_any _ _).mono ?_; rintro e w' ⟨rfl, rfl⟩) | (go_at_call 17; have hct := rd_count HRC.out; refine hct.mono ?_; rintro e w' ⟨rfl, rfl⟩; clear hct) | (go_at_call 18; refine (rd_load HRC.out).mono ?_; rintro e w7 ⟨v7, rfl, c7, h7, -⟩; rw [HST.out] at c7; have HRF := Lib.hid h7; clear h7))
            go_roundw
            case rel => exact ⟨j + 1, m, y, by omega, by go_num, rfl, by rw [HST.out], HRF.out⟩
            case measure => simp [intOf]; omega
          · have hne : ¬ (c : Int) = (m : Int) := by omega
            have hcl : c < m := by have := HCM.out; omega
            go_upto_region 17 with (go_at_call 16; refine (rd_save HRA.out HLW.out hcl wr.heap.size sy N cy Y HBZ.out HLZ.out (by omega) HNC.out HSY.out (by intro b e; rcases HFY.out with ⟨h1, -⟩ | ⟨g', h1, h2, -⟩; (· rw [h1] at e; cases e); rw [h1] at e; cases e; exact .inr h2) HYB.out).mono ?_; rintro e w' ⟨rfl, h6, h7⟩; have HRC := Lib.hid h6; have cy8 := (HOA.out.kept h7 (fun g' e t => by have h8 := (HOA.out.lt g' e).1; have h9 := HLZ.out; rcases t with h | h | h | h <;> omega)).str; clear h6 h7)
            obtain ⟨S2, hS2⟩ : ∃ S, S = strOfNums Y := ⟨_, rfl⟩
            rw [← hS2] at cy8
            have HST2 := Lib.hid hS2.symm
            clear hS2
            have hc12 : (c : Int) < 12 := by omega
            have x1 := cell_blk HRC.out.pair 1
            have hxx := str_self S2
            go_wp2_with (first | (go_at_call 15; refine (num21_any _ _).mono ?_; rintro e w' ⟨rfl, rfl⟩) | (go_at_call 17; have hct := rd_count HRC.out; rw [show ((c + 1 : Nat) : Int) = (c : Int) + 1 by omega] at hct; refine hct.mono ?_; rintro e w' ⟨rfl, rfl⟩; clear hct) | (go_at_call 18; refine (rd_load HRC.out).mono ?_; rintro e w7 ⟨v7, rfl, c7, h7, -⟩; rw [HST2.out] at c7; have HRF := Lib.hid h7; clear h7))
            go_roundw
            case rel => exact ⟨j + 1, (c + 1), Y, by omega, by go_num, by go_num, by rw [HST2.out], HRF.out⟩
            case measure => simp [intOf]; omega
      · have hj15 : ¬ (j : Int) < 15 := by omega
        clear hlt
        go_upto_region 26 with fail
        have x0 := cell_blk HR.out.pair 0
        have x1 := cell_blk HR.out.pair 1
        go_upto_region 27 with (go_at_call 14; refine (rd_open HR.out HLW.out).mono ?_; rintro e w5 ⟨q2, rfl, h5⟩; have HRO := Lib.hid h5; clear h5)
        clear HR x0 x1
        have x1 := cell_blk HRO.out.pair 1
        have hxx := str_self S
        by_cases hcm : c < m
        · have hrc : Rd w w5 p g o q2 pb (.pointer (some ⟨pr, 0, none⟩)) (.pointer (some ⟨qr, 0, none⟩)) r s (c + 1) m y := by have := HRO.out; rw [show sel (decide (c = m)) c (c + 1) = c + 1 from by rw [decide_eq_false (by omega)]; rfl] at this; exact this
          have hcl : (c : Int) < (m : Int) := by omega
          have hc12 : (c : Int) < 12 := by omega
          have HRC := Lib.hid hrc
          clear hrc HRO hcm
          go_wp2_with (first | (go_at_call 15; refine (num21_any _ _).mono ?_; rintro e w' ⟨rfl, rfl⟩) | (go_at_call 17; have hct := rd_count HRF.out; rw [show ((c + 1 : Nat) : Int) = (c : Int) + 1 by omega] at hct; refine hct.mono ?_; rintro e w' ⟨rfl, rfl⟩; clear hct) | (go_at_call 18; refine (rd_load HRC.out).mono ?_; rintro e w7 ⟨v7, rfl, c7, h7, -⟩; rw [HST.out] at c7; have HRF := Lib.hid h7; have x2 := cell_blk HRF.out.pair 1; clear h7))
          go_ret
          exact ⟨rfl, HRF.out.below⟩
        · have hrc : Rd w w5 p g o q2 pb (.pointer (some ⟨pr, 0, none⟩)) (.pointer (some ⟨qr, 0, none⟩)) r s c m y := by have := HRO.out; rw [show sel (decide (c = m)) c (c + 1) = c from by rw [decide_eq_true (by have := HCM.out; omega)]; rfl] at this; exact this
          have hcl : ¬ (c : Int) < (m : Int) := by omega
          have HRC := Lib.hid hrc
          clear hrc HRO hcm
          go_wp2_with (first | (go_at_call 15; refine (num21_any _ _).mono ?_; rintro e w' ⟨rfl, rfl⟩) | (go_at_call 17; have hct := rd_count HRF.out; refine hct.mono ?_; rintro e w' ⟨rfl, rfl⟩; clear hct) | (go_at_call 18; refine (rd_load HRC.out).mono ?_; rintro e w7 ⟨v7, rfl, c7, h7, -⟩; rw [HST.out] at c7; have HRF := Lib.hid h7; have x2 := cell_blk HRF.out.pair 1; clear h7))
          go_ret
          exact ⟨rfl, HRF.out.below⟩

theorem bankEnds_any (m : Int) (s x : List Int) (sx : Option Addr) (n cx : Nat) (w : World) (hsl : s.length = 32) (hsb : bytes s) (hx : Src w sx n x) (hxb : bytes x) :
    Calls Try.prog 4 #[.agg (arr .u8 s), .int .i64 m, .slice sx n cx] w fun e w' => e = .returned (.bool true) ∧ Below w.heap.size w w' := by
  by_cases h : 0 ≤ m ∧ m ≤ 12 ∧ n ≤ 5000
  · obtain ⟨k, rfl⟩ := Int.eq_ofNat_of_zero_le h.1
    exact ends_any k s x sx n cx w (by omega) h.2.2 hsl hsb hx hxb
  · exact ends_early m s sx n cx w (by omega)
end Go.Proofs.Ytcecgbjpmegljaa.Bk
namespace Go.Proofs.Ytcecgbjpmegljaa.Bk
open Go.RowKit Wr Sl Sm

theorem rowI_src {w : World} {a : Option Addr} {len cap : Nat} {zs : List Int} (h : RowI .u8 w a len cap zs) : Src w a len (zs.take len) ∧ bytes (zs.take len) ∧ len ≤ cap := by
  rcases h with ⟨rfl, rfl, rfl, rfl⟩ | ⟨x, rfl, hl, hm, hz, hc, hw⟩
  · exact ⟨⟨rfl, fun i hi => absurd hi (by omega)⟩, fun x hx => by simp at hx, Nat.le_refl _⟩
  · refine ⟨⟨by simp; omega, fun i hi => ⟨x, rfl, ?_⟩⟩, fun y hy => wf_u8 (hw y (List.mem_of_mem_take hy)), hl⟩
    rw [hc i (by omega)]
    simp [List.getD, hi]
end Go.Proofs.Ytcecgbjpmegljaa.Bk
