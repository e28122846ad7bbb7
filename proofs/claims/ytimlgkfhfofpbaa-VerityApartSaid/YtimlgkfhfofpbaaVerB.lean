/- What writes leave in a calm flash, byte by byte; the document's example of an area (alive of portcullislaw25). No condition. -/
import Derived.Test.YtimlgkfhfofpbaaVerA
namespace Go.Proofs.Ytimlgkfhfofpbaa
open Go.RowKit

theorem Calm.erase_get {s : Fl} {L : Nat} (h : Calm s L) (k : Nat) (hk : 256 * k + 256 ≤ L) (i : Nat) (hi : i < L) :
    (s.erase k).b.getD i 0 = if 256 * k ≤ i ∧ i < 256 * k + 256 then 255 else s.b.getD i 0 := by
  have he : s.eraseIn k = true := by simp [Fl.eraseIn, h.dead, h.len]; omega
  have hN : s.opN 256 = 256 := by simp [Fl.opN, h.op]
  unfold Fl.erase
  rw [if_pos he]
  show (upd s.b (256 * (k : Int).toNat) (s.opN 256).toNat (fun _ _ => 255)).getD i 0 = _
  rw [upd_getD _ _ _ _ _ (by rw [h.len]; exact hi), hN]
  simp

theorem Calm.prog_get {s : Fl} {L : Nat} (h : Calm s L) (a : Nat) (xs : List Int) (ha : a + xs.length ≤ L) (i : Nat) (hi : i < L) :
    (s.prog a xs).b.getD i 0 = if a ≤ i ∧ i < a + xs.length then bits .and .u8 (s.b.getD i 0) (xs.getD (i - a) 0) else s.b.getD i 0 := by
  have hb : inB s.b.length (a : Int) xs.length = true := by rw [h.len]; exact inB_iff.2 (by omega)
  have he : s.progIn a xs.length = true := by simp [Fl.progIn, h.dead, hb]
  have hN : s.opN xs.length = xs.length := by simp [Fl.opN, h.op]
  unfold Fl.prog
  rw [if_pos he]
  show (upd s.b (a : Int).toNat (s.opN xs.length).toNat (andB xs)).getD i 0 = _
  rw [upd_getD _ _ _ _ _ (by rw [h.len]; exact hi), hN]
  simp [andB]

theorem and_255 : ∀ x : Int, 0 ≤ x → x ≤ 255 → bits .and .u8 255 x = x := by
  intro x h0 h1
  obtain ⟨n, rfl⟩ := Int.eq_ofNat_of_zero_le h0
  have hn : n < 256 := by omega
  have : ∀ m : Fin 256, bits .and .u8 255 ((m.1 : Nat) : Int) = ((m.1 : Nat) : Int) := by decide +kernel
  exact this ⟨n, hn⟩

/-- A block is written in place k of a calm flash: what stands where, behind it. -/
theorem Calm.write_get {s : Fl} {L : Nat} (h : Calm s L) (k : Nat) (xs : List Int) (hx : xs.length = 80) (hm : ∀ x ∈ xs, 0 ≤ x ∧ x ≤ 255) (hk : 256 * k + 256 ≤ L) (i : Nat) (hi : i < L) :
    ((s.erase k).prog ((k * 256 : Nat) : Int) xs).b.getD i 0 = if 256 * k ≤ i ∧ i < 256 * k + 80 then xs.getD (i - 256 * k) 0 else if 256 * k ≤ i ∧ i < 256 * k + 256 then 255 else s.b.getD i 0 := by
  rw [(h.erase k).prog_get (k * 256) xs (by omega) i hi, h.erase_get k hk i hi, hx]
  by_cases c : 256 * k ≤ i ∧ i < 256 * k + 80
  · rw [if_pos (by omega), if_pos c, if_pos (by omega)]
    have hj : i - k * 256 < xs.length := by omega
    have hmem := hm (xs.getD (i - k * 256) 0) (by simp [List.getD, hj])
    rw [and_255 _ hmem.1 hmem.2, Nat.mul_comm k]
  · rw [if_neg (by omega), if_neg c]

theorem read_len {s : Fl} {L : Nat} (h : s.b.length = L) (a n : Nat) (hn : a + n ≤ L) : (s.read a n).length = n := by
  simp only [Fl.read, List.length_take, List.length_drop, Int.toNat_natCast, h]; omega
theorem read_get {s : Fl} (a n i : Nat) (hi : i < n) : (s.read a n).getD i 0 = s.b.getD (a + i) 0 := by
  simp [Fl.read, List.getD, hi]
theorem read_eq {s : Fl} {L : Nat} (h : s.b.length = L) (a n : Nat) (hn : a + n ≤ L) (xs : List Int) (hx : xs.length = n) (hg : ∀ i, i < n → s.b.getD (a + i) 0 = xs.getD i 0) : s.read a n = xs := by
  apply List.ext_getElem
  · rw [read_len h a n hn, hx]
  · intro i h1 h2
    rw [read_len h a n hn] at h1
    have e := read_get (s := s) a n i h1
    rw [hg i h1] at e
    simpa [List.getD, h2, read_len h a n hn, h1] using e

/-- Raw, where it is there: the very bytes. -/
theorem raw_bytes (q p g : Nat) (s : Fl) (L k : Nat) (first i : Int) (xs : List Int) (w : World) (h : IsFl w p g s) (hc : Calm s L) (ha : IsAr w q p first) (h0 : 0 ≤ i) (h1 : i < 32) (hf0 : 0 ≤ first) (hf1 : first ≤ 1000)
    (hk : first + i = (k : Int)) (hL : 256 * k + 80 ≤ L) (hx : xs.length = 80) (hg : ∀ j, j < 80 → s.b.getD (256 * k + j) 0 = xs.getD j 0) :
    Calls Try.prog 42 #[.pointer (some ⟨q, 0, none⟩), .int .i64 i] w fun e w' =>
      ∃ v, e = .returned (.tuple #[v, .bool true]) ∧ Owns w' w.heap.size v xs ∧ Below w.heap.size w w' := by
  have hr : s.readOk ((first + i) * 256) 80 = true := by rw [hc.readOk]; exact inB_iff.2 (by omega)
  have hq : s.read ((first + i) * 256) 80 = xs := by
    have e : (first + i) * 256 = ((256 * k : Nat) : Int) := by omega
    rw [e]
    exact read_eq hc.len (256 * k) 80 (by omega) xs hx hg
  refine (raw_in q p g s first i w h ha h0 h1 hf0 hf1).mono ?_
  rintro e w' ⟨v, he, ho, -, hb⟩
  rw [hr] at he ho
  rw [hq] at ho
  exact ⟨v, he, ho rfl, hb⟩

/-- A new flash, and what a first write leaves in it. -/
theorem Fl.new_get (n : Int) (L : Nat) (h : 256 * (min (max 0 n) 1024).toNat = L) (i : Nat) (hi : i < L) : (Fl.new n).b.getD i 0 = 255 := by
  simp [Fl.new, List.getD, h, hi]

def ffs : List Int := List.replicate 80 255
theorem ffs_get (i : Nat) (h : i < 80) : ffs.getD i 0 = 255 := by
  simp only [ffs, List.getD, List.getElem?_replicate, if_pos h]
  rfl
theorem ffs_len : ffs.length = 80 := by simp [ffs]

theorem owns_cell {w : World} {B : Nat} {v : Value} {xs : List Int} (h : Owns w B v xs) : ∃ b cap, v = .slice (some ⟨b, 0, none⟩) xs.length cap ∧ B ≤ b ∧ b < w.heap.size ∧ (∀ i, i < xs.length → w.cell? ⟨b, i, none⟩ = some (.int .u8 (xs.getD i 0))) := by
  obtain ⟨b, cap, sp, hv, hB, hg, _, _⟩ := h
  exact ⟨b, cap, hv, hB, blk_lt hg, fun i hi => by rw [cell_blk hg, row8_get _ _ _ hi]⟩

theorem num25_any (n : Int) (w : World) : Calls Try.prog 40 #[.int .i64 n] w fun e w' => e = .returned (.int .i64 n) ∧ w = w' := by
  go_enter Try.func40, Try.ntmps40
  go_wp2
  go_ret
  exact ⟨rfl, rfl⟩

set_option maxRecDepth 100000 in
set_option maxHeartbeats 1000000 in
theorem alive25_any (w : World) :
    Calls Try.prog 38 #[] w fun e w' => e = .returned (.bool true) ∧ Below w.heap.size w w' := by
  have hnew := fun w => new_any 128 w
  have hget : ∀ i, i < 32768 → (Fl.new 128).b.getD i 0 = 255 := fun i hi => Fl.new_get 128 32768 rfl i hi
  obtain ⟨s0, e0⟩ : ∃ s, s = Fl.new 128 := ⟨_, rfl⟩
  have hk0 : Calm s0 32768 := by rw [e0]; exact Calm.new 128 32768 rfl
  rw [← e0] at hnew hget
  have hv := fun w p g (h : IsFl w p g s0) => vnew_yes p g s0 0 w h (by rw [hk0.len]; decide) (by omega) (by omega)
  have hr := fun w q p g (h : IsFl w p g s0) (ha : IsAr w q p 64) => raw_bytes q p g s0 32768 64 64 0 ffs w h hk0 ha (by omega) (by omega) (by omega) (by omega) (by omega) (by omega) ffs_len (fun j hj => by rw [hget _ (by omega), ffs_get j hj])
  obtain ⟨s1, e1⟩ : ∃ s, s = (s0.erase ((64 : Nat) : Int)).prog ((64 * 256 : Nat) : Int) (zeros 80) := ⟨_, rfl⟩
  have hk1 : Calm s1 32768 := by rw [e1]; exact (hk0.erase 64).prog _ _
  have hw := fun w q p g b (h : IsFl w p g s0) (ha : IsAr w q p 64) (hb : w.heap[b]? = some (.cells (row8 (zeros 80) []) 5 (0, 0))) (h1 : b ≠ p) (h2 : b ≠ g) (h3 : q ≠ p) (h4 : q ≠ g) =>
    write_calm q p g 32768 s0 64 0 b 80 (zeros 80) [] w h hk0 ha hb h1 h2 h3 h4 (zeros_len 80) (by omega) (by omega) (by omega) (by omega) (by omega) (by omega)
  have e1' : (s0.erase (64 + 0)).prog ((64 + 0) * 256) (zeros 80) = s1 := by rw [e1]; rfl
  rw [e1'] at hw
  have hg1 : ∀ j, j < 80 → s1.b.getD (256 * 64 + j) 0 = (zeros 80).getD j 0 := by
    intro j hj
    rw [e1]
    have := hk0.write_get 64 (zeros 80) (zeros_len 80) (zeros_mem 80) (by omega) (256 * 64 + j) (by omega)
    rw [if_pos (by omega)] at this
    rw [this]
    congr 1
    omega
  have hr1 := fun w q p g (h : IsFl w p g s1) (ha : IsAr w q p 64) => raw_bytes q p g s1 32768 64 64 0 (zeros 80) w h hk1 ha (by omega) (by omega) (by omega) (by omega) (by omega) (by omega) (zeros_len 80) hg1
  have hmk : ∀ w : World, (Instr.makeSlice 49 (.int .i64 80) (.int .i64 80)).run Try.prog w = .ok (.slice (some ⟨w.heap.size, 0, none⟩) 80 80) (w.alloc (.cells (row8 (zeros 80) []) 5)) := fun w => mk8 80 (by omega) w
  obtain ⟨zz, ezz⟩ : ∃ z, z = zeros 80 := ⟨_, rfl⟩
  have hz0 : zz.getD 0 0 = 0 := by rw [ezz]; exact zeros_get 80 0
  have hzl : zz.length = 80 := by rw [ezz]; exact zeros_len 80
  rw [← ezz] at hw hr1 hmk
  obtain ⟨ff, eff⟩ : ∃ z, z = ffs := ⟨_, rfl⟩
  have hf0 : ff.getD 0 0 = 255 := by rw [eff]; exact ffs_get 0 (by omega)
  have hfl : ff.length = 80 := by rw [eff]; exact ffs_len
  rw [← eff] at hr
  have HNEW := Lib.hid hnew
  have HV := Lib.hid hv
  have HR := Lib.hid hr
  have HW := Lib.hid hw
  have HR1 := Lib.hid hr1
  have HZ0 := Lib.hid hz0
  have HZL := Lib.hid hzl
  have HF0 := Lib.hid hf0
  have HFL := Lib.hid hfl
  clear e0 e1 e1' hk0 hk1 hget hg1 hnew hv hr hw hr1 ezz eff hz0 hzl hf0 hfl
  go_enter Try.func38, Try.ntmps38
  go_wp2_with fail
  refine (HNEW.out w).mono ?_
  rintro e w1 ⟨p, g, rfl, hf1, hp, hg, hb1⟩
  go_wp2_with fail
  refine (HV.out w1 p g hf1).mono ?_
  rintro e w2 ⟨rfl, ha2, hb2⟩
  have hf2 := hf1.below hb2
  have hpg := hf1.lt
  have hsz1 := hb1.size
  have hsz2 := hb2.size
  have ha2' : IsAr w2 w1.heap.size p 64 := by simpa using ha2
  clear ha2
  go_wp2_with (go_at_call 40; refine (num25_any _ _).mono ?_; rintro e w' ⟨rfl, rfl⟩)
  refine (HR.out w2 _ p g hf2 ha2').mono ?_
  rintro e w3 ⟨v, rfl, ho, hb3⟩
  have hf3 := hf2.below hb3
  have ha3 := ha2'.below hb3
  obtain ⟨b3, cap3, rfl, hB3, hl3, hc3⟩ := owns_cell ho
  have hc30 := hc3 0 (by rw [HFL.out]; omega)
  rw [HF0.out] at hc30
  rw [HFL.out]
  clear ho hc3
  go_wp2_with fail
  have hsz3 := hb3.size
  have hbl : Below w3.heap.size w3 (w3.alloc (.cells (row8 zz []) 5)) := (Below.refl _ w3).alloc (Nat.le_refl _) _
  refine (HW.out _ _ p g _ (hf3.below hbl) (ha3.below hbl) (blk_new w3 _) (by omega) (by omega) (by omega) (by omega)).mono ?_
  rintro e w4 ⟨rfl, hf4, hk4⟩
  have ha4 := (ha3.below hbl).kept hk4 (by rintro (e | e) <;> omega)
  have hc40 : w4.cell? ⟨b3, 0, none⟩ = some (.int .u8 255) := hk4.cellX (below_cell hbl hc30) (by rintro (e | e) <;> (simp at e; omega))
  have hsz4 := hk4.size
  clear hc30
  go_wp2_with fail
  refine (HR1.out w4 _ p g hf4 ha4).mono ?_
  rintro e w5 ⟨v, rfl, ho, hb5⟩
  obtain ⟨b5, cap5, rfl, hB5, hl5, hc5⟩ := owns_cell ho
  have hc50 := hc5 0 (by rw [HZL.out]; omega)
  rw [HZ0.out] at hc50
  rw [HZL.out]
  have hc60 := below_cell hb5 hc40
  clear ho hc5 hc40
  go_wp2_with (go_at_call 40; refine (num25_any _ _).mono ?_; rintro e w' ⟨rfl, rfl⟩)
  go_ret
  refine ⟨rfl, ?_⟩
  have z3 : (w3.alloc (.cells (row8 zz []) 5)).heap.size = w3.heap.size + 1 := by simp
  have hpw : w.heap.size ≤ p := hp
  have hgw : w.heap.size ≤ g := hg
  have two : ∀ i, (i = p ∨ i = g) → w.heap.size ≤ i := by rintro i (rfl | rfl) <;> assumption
  exact ((((hb1.trans (hb2.mono (by omega))).trans (hb3.mono (by omega))).trans (hbl.mono (by omega))).trans (hk4.toBelow (by omega) two)).trans (hb5.mono (by omega))

end Go.Proofs.Ytimlgkfhfofpbaa
