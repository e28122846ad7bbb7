/- verity.Raw in one, verity.Has: what they answer. Conditions: flash and area lie there; a key of 32 bytes. -/
import Derived.Test.YtoljnogpegemjaaVtA
import Derived.Test.YtoljnogpegemjaaImF
namespace Go.Proofs.Ytoljnogpegemjaa
open Go.RowKit Im
set_option linter.unusedSimpArgs false
set_option linter.unusedVariables false

/-- Does a place answer, and what. -/
def vrOk (s : Fl) (f i : Int) : Bool := decide (0 ≤ i) && decide (i < 32) && s.readOk ((f + i) * 256) 80
def vrX (s : Fl) (f i : Int) : List Int := if vrOk s f i then s.read ((f + i) * 256) 80 else []
def vhas (s : Fl) (f : Int) (key : List Int) (v i : Int) : Bool := vrOk s f i && decide (openE key v i (vrX s f i) = 0)
theorem vrX_bytes {s : Fl} (h : s.Ok) (f i : Int) : ∀ x ∈ vrX s f i, 0 ≤ x ∧ x ≤ 255 := by
  unfold vrX
  split
  · exact fun x hx => h.by0 x (List.mem_of_mem_drop (List.mem_of_mem_take hx))
  · exact fun x hx => by cases hx
theorem num_iv {xs : List Int} (h : xs.length = 32) : (Try.prog.info? 23).map (·.size) = some xs.length := by rw [h]; kernel_rfl
theorem vraw_any (q p g : Nat) (s : Fl) (first i : Int) (w : World) (h : IsFl w p g s) (ha : IsAr w q p first) (hf0 : 0 ≤ first) (hf1 : first ≤ 1000) :
    Calls Try.prog 12 #[.pointer (some ⟨q, 0, none⟩), .int .i64 i] w fun e w' =>
      ∃ v, e = .returned (.tuple #[v, .bool (vrOk s first i)]) ∧ Own8 w' w.heap.size v (vrX s first i) ∧ Below w.heap.size w w' := by
  by_cases hi : 0 ≤ i ∧ i < 32
  · have e1 : vrOk s first i = s.readOk ((first + i) * 256) 80 := by simp [vrOk, hi.1, hi.2]
    refine (raw_in q p g s first i w h ha hi.1 hi.2 hf0 hf1).mono ?_
    rintro e w' ⟨v, rfl, ho, hn, hb⟩
    rw [vrX, e1]
    cases hr : s.readOk ((first + i) * 256) 80 with
    | true => exact ⟨v, rfl, by simpa using Own8.of_owns (ho hr), hb⟩
    | false =>
      obtain rfl := hn hr
      exact ⟨_, rfl, by simpa using Own8.nil _ _, hb⟩
  · have e1 : vrOk s first i = false := by
      simp only [vrOk, Bool.and_eq_false_iff, decide_eq_false_iff_not]
      omega
    refine (raw_out q i w (by omega)).mono ?_
    rintro e w' ⟨rfl, rfl⟩
    rw [vrX, e1]
    exact ⟨_, rfl, by simpa using Own8.nil _ _, Below.refl _ _⟩

set_option maxRecDepth 100000 in
set_option maxHeartbeats 2000000 in
theorem vhas_any (q p g : Nat) (s : Fl) (first i v : Int) (key : List Int) (w : World) (h : IsFl w p g s) (ha : IsAr w q p first) (hf0 : 0 ≤ first) (hf1 : first ≤ 1000) (hk : key.length = 32) (bk : bytes key) :
    Calls Try.prog 13 #[.pointer (some ⟨q, 0, none⟩), .agg (arr .u8 key), .int .i64 v, .int .i64 i] w fun e w' => e = .returned (.bool (vhas s first key v i)) ∧ Below w.heap.size w w' := by
  have hb0 : Below w.heap.size w (w.alloc (.cells (arr .u8 key) 23)) := (Below.refl _ w).alloc (Nat.le_refl _) _
  have h1 := h.below hb0
  have ha1 := ha.below hb0
  have hr := vraw_any q p g s first i _ h1 ha1 hf0 hf1
  have hio := fun (sb : Option Addr) (n c : Nat) (u : World) (hs : Src u sb n (vrX s first i)) (hc : n ≤ c) => iopen_any key (vrX s first i) v i sb n c u hk bk hs (vrX_bytes h.ok first i) hc
  have hv : vhas s first key v i = (vrOk s first i && decide (openE key v i (vrX s first i) = 0)) := rfl
  generalize openX key v i (vrX s first i) = ox at hio
  generalize openE key v i (vrX s first i) = oe at hio hv
  generalize vrX s first i = xs at hr hio
  generalize vhas s first key v i = hv0 at hv ⊢
  generalize vrOk s first i = ok at hr hv
  have HR := Lib.hid hr
  have HIO := Lib.hid hio
  have HS0 := Lib.hid (blk_new w (.cells (arr .u8 key) 23))
  have HB0 := Lib.hid hb0
  have HKL := Lib.hid hk
  clear h ha h1 ha1 hr hio hb0 hk bk
  cases ok with
  | false =>
    simp only [Bool.false_and] at hv
    subst hv
    go_enter Try.func13, Try.ntmps13
    go_wp2_with (go_at_call 12; refine HR.out.mono ?_; rintro e w1 ⟨v1, rfl, ho1, hb1⟩; have HB1 := Lib.hid (HB0.out.trans (hb1.mono HB0.out.size)); clear ho1 hb1)
    go_ret
    exact ⟨rfl, HB1.out⟩
  | true =>
    simp only [Bool.true_and] at hv
    go_enter Try.func13, Try.ntmps13
    go_upto_region 1 with fail
    generalize w.alloc (.cells (arr .u8 key) 23) = w0 at HR HS0 HB0 ⊢
    go_upto_region 4 with (go_at_call 12; refine HR.out.mono ?_; rintro e w1 ⟨v1, rfl, ho1, hb1⟩; obtain ⟨s1, c1, rfl, hc1, -, hs1, -⟩ := ho1.form; have HS1 := Lib.hid hs1; have HI1 := Lib.hid (Below.blk hb1 HS0.out (blk_lt HS0.out)); have HB1 := Lib.hid (HB0.out.trans (hb1.mono HB0.out.size)); have HC1 := Lib.hid hc1; clear ho1 hb1 hs1 hc1)
    go_wp2_with (first | ((with_reducible show wpList _ _ _ (Oper.mk (some 22) _ _ _ _ _ :: _) _ _); refine wpList_load_part rfl 23 _ rfl (w.heap.size) 0 _ 23 (0, 0) _ HI1.out rfl .u8 key (arr_part _ _) Try.underlying23 rfl (num_iv HKL.out) ?_) | (go_at_call 25; refine (HIO.out _ _ _ _ HS1.out HC1.out).mono ?_; rintro e w2 ⟨v2, rfl, -, hb2⟩; have HB2 := Lib.hid (HB1.out.trans (hb2.mono HB1.out.size)); clear hb2))
    go_ret
    refine ⟨?_, HB2.out⟩
    rw [hv]
    first | rfl | exact ret_bool (by first | rfl | exact (decide_eq_decide.2 Iff.rfl) | skip)
end Go.Proofs.Ytoljnogpegemjaa
