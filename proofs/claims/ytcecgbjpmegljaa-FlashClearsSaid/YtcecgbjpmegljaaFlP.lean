/- A flash in plain words: its bytes, its plan, its counts, and what each operation makes of them. No program here; no condition. -/
import Derived.Test.YtcecgbjpmegljaaBase
namespace Go.Proofs.Ytcecgbjpmegljaa
open Go.RowKit

structure Fl where
  b : List Int
  op : Int
  cut : Int
  dead : Bool
  er : Int
  pr : Int

/-- In a window of n places from a place on, f turns each byte. -/
def upd (b : List Int) (a n : Nat) (f : Nat → Int → Int) : List Int := b.mapIdx fun i x => if a ≤ i ∧ i < a + n then f (i - a) x else x

theorem upd_length (b : List Int) (a n : Nat) (f : Nat → Int → Int) : (upd b a n f).length = b.length := by simp [upd]
theorem upd_zero (b : List Int) (a : Nat) (f : Nat → Int → Int) : upd b a 0 f = b := by
  unfold upd
  apply List.ext_getElem <;> simp
  intro i h1 h2 h3
  omega
theorem upd_get (b : List Int) (a n : Nat) (f : Nat → Int → Int) (i : Nat) (h : i < b.length) :
    (upd b a n f)[i]'(by rw [upd_length]; exact h) = if a ≤ i ∧ i < a + n then f (i - a) b[i] else b[i] := by simp [upd]
theorem upd_get? (b : List Int) (a n : Nat) (f : Nat → Int → Int) (i : Nat) :
    (upd b a n f)[i]? = (b[i]?).map fun x => if a ≤ i ∧ i < a + n then f (i - a) x else x := by simp [upd]
theorem upd_getD (b : List Int) (a n : Nat) (f : Nat → Int → Int) (i : Nat) (_h : i < b.length) :
    (upd b a n f).getD i 0 = if a ≤ i ∧ i < a + n then f (i - a) (b.getD i 0) else b.getD i 0 := by
  simp [List.getD, upd_get?, _h]
theorem upd_succ (b : List Int) (a n : Nat) (f : Nat → Int → Int) (_h : a + n < b.length) :
    upd b a (n + 1) f = (upd b a n f).set (a + n) (f n (b.getD (a + n) 0)) := by
  apply List.ext_getElem
  · simp [upd_length]
  · intro i h1 h2
    rw [upd_length] at h1
    rw [upd_get _ _ _ _ _ h1, List.getElem_set, upd_get _ _ _ _ _ h1]
    by_cases e : a + n = i
    · subst e
      rw [if_pos (by omega), if_pos rfl]
      simp [List.getD, h1]
    · rw [if_neg e]
      by_cases e2 : a ≤ i ∧ i < a + n
      · rw [if_pos (by omega), if_pos e2]
      · rw [if_neg (by omega), if_neg e2]
theorem upd_congr (b : List Int) (a n : Nat) (f f' : Nat → Int → Int) (h : ∀ i x, i < n → f i x = f' i x) : upd b a n f = upd b a n f' := by
  apply List.ext_getElem
  · simp [upd_length]
  · intro i h1 h2
    rw [upd_length] at h1
    rw [upd_get _ _ _ _ _ h1, upd_get _ _ _ _ _ h1]
    split
    · exact h _ _ (by omega)
    · rfl
theorem upd_mem (b : List Int) (a n : Nat) (f : Nat → Int → Int) (h : ∀ x ∈ b, 0 ≤ x ∧ x ≤ 255) (hf : ∀ i x, 0 ≤ x ∧ x ≤ 255 → 0 ≤ f i x ∧ f i x ≤ 255) : ∀ x ∈ upd b a n f, 0 ≤ x ∧ x ≤ 255 := by
  intro x hx
  obtain ⟨i, hi, rfl⟩ := List.getElem_of_mem hx
  rw [upd_length] at hi
  rw [upd_get _ _ _ _ _ hi]
  split
  · exact hf _ _ (h _ (List.getElem_mem hi))
  · exact h _ (List.getElem_mem hi)

structure Fl.Ok (s : Fl) : Prop where
  len : s.b.length ≤ 262144
  op0 : -1 ≤ s.op
  op1 : s.op ≤ 9223372036854775807
  er0 : 0 ≤ s.er
  er1 : s.er ≤ 1099511627776
  pr0 : 0 ≤ s.pr
  pr1 : s.pr ≤ 1099511627776
  by0 : ∀ x ∈ s.b, 0 ≤ x ∧ x ≤ 255

def inB (len : Nat) (a n : Int) : Bool := decide (0 ≤ a) && decide (0 ≤ n) && decide (a ≤ len) && decide (n ≤ len - a)
theorem inB_iff {len : Nat} {a n : Int} : inB len a n = true ↔ 0 ≤ a ∧ 0 ≤ n ∧ a ≤ len ∧ n ≤ len - a := by
  simp [inB, and_assoc]
theorem inB_not {len : Nat} {a n : Int} : inB len a n = false ↔ a < 0 ∨ (0 ≤ a ∧ n < 0) ∨ (0 ≤ a ∧ 0 ≤ n ∧ len < a) ∨ (0 ≤ a ∧ 0 ≤ n ∧ a ≤ len ∧ len - a < n) := by
  rw [← Bool.not_eq_true, inB_iff]; omega

def Fl.goes (s : Fl) : Bool := s.op != 0
def Fl.opN (s : Fl) (n : Int) : Int := if s.op = 0 then min (max 0 s.cut) n else n
def Fl.step (s : Fl) : Fl := if s.op = 0 then { s with op := -1, cut := 0, dead := true } else { s with op := max (-1) (s.op - 1) }

def most : Int := 1099511627776
def andB (xs : List Int) (i : Nat) (x : Int) : Int := bits .and .u8 x (xs.getD i 0)

def Fl.turnOk (s : Fl) : Bool := !s.dead && s.goes
def Fl.turn (s : Fl) : Fl := if s.dead then s else s.step
def Fl.eraseIn (s : Fl) (k : Int) : Bool := !s.dead && decide (0 ≤ k) && decide (k < (s.b.length / 256 : Nat))
def Fl.eraseOk (s : Fl) (k : Int) : Bool := s.eraseIn k && s.goes
def Fl.erase (s : Fl) (k : Int) : Fl :=
  if s.eraseIn k then { s.step with b := upd s.b (256 * k.toNat) (s.opN 256).toNat (fun _ _ => 255), er := if s.goes then min (s.er + 1) most else s.er } else s
def Fl.progIn (s : Fl) (a n : Int) : Bool := !s.dead && inB s.b.length a n
def Fl.progOk (s : Fl) (a n : Int) : Bool := s.progIn a n && s.goes
def Fl.prog (s : Fl) (a : Int) (xs : List Int) : Fl :=
  if s.progIn a xs.length then { s.step with b := upd s.b a.toNat (s.opN xs.length).toNat (andB xs), pr := if s.goes then min (s.pr + 1) most else s.pr } else s
def Fl.pokeOk (s : Fl) (a n : Int) : Bool := inB s.b.length a n
def Fl.poke (s : Fl) (a : Int) (xs : List Int) : Fl :=
  if inB s.b.length a xs.length then { s with b := upd s.b a.toNat xs.length (fun i _ => xs.getD i 0) } else s
def Fl.plan (s : Fl) (o c : Int) : Fl := { s with op := max (-1) o, cut := c }
def Fl.start (s : Fl) : Fl := { s with dead := false, op := -1, cut := 0 }
def Fl.readOk (s : Fl) (a n : Int) : Bool := !s.dead && inB s.b.length a n
def Fl.read (s : Fl) (a n : Int) : List Int := (s.b.drop a.toNat).take n.toNat
def Fl.new (n : Int) : Fl := ⟨List.replicate (256 * (min (max 0 n) 1024).toNat) 255, -1, 0, false, 0, 0⟩

theorem Fl.Ok.step {s : Fl} (h : s.Ok) : s.step.Ok := by
  obtain ⟨h1, h2, h3, h4, h5, h6, h7, h8⟩ := h
  unfold Fl.step
  split
  · exact ⟨h1, by simp, by simp, h4, h5, h6, h7, h8⟩
  · exact ⟨h1, by simp; omega, by simp; omega, h4, h5, h6, h7, h8⟩
theorem Fl.step_b (s : Fl) : s.step.b = s.b := by unfold Fl.step; split <;> rfl
theorem Fl.step_er (s : Fl) : s.step.er = s.er := by unfold Fl.step; split <;> rfl
theorem Fl.step_pr (s : Fl) : s.step.pr = s.pr := by unfold Fl.step; split <;> rfl
theorem Fl.erase_len (s : Fl) (k : Int) : (s.erase k).b.length = s.b.length := by unfold Fl.erase; split <;> simp [upd_length]
theorem Fl.prog_len (s : Fl) (a : Int) (xs : List Int) : (s.prog a xs).b.length = s.b.length := by unfold Fl.prog; split <;> simp [upd_length]
theorem Fl.poke_len (s : Fl) (a : Int) (xs : List Int) : (s.poke a xs).b.length = s.b.length := by unfold Fl.poke; split <;> simp [upd_length]
theorem and_u8 (x y : Int) : 0 ≤ bits .and .u8 x y ∧ bits .and .u8 x y ≤ 255 := by
  have h : ∃ z : Int, bits .and .u8 x y = IntKind.u8.wrap z := ⟨_, rfl⟩
  obtain ⟨z, hz⟩ := h
  rw [hz]
  rw [IntKind.wrap_u8]
  omega
theorem Fl.Ok.upd {s : Fl} (h : s.Ok) (a n : Nat) (f : Nat → Int → Int) (hf : ∀ i x, 0 ≤ x ∧ x ≤ 255 → 0 ≤ f i x ∧ f i x ≤ 255) (er pr : Int) (he : 0 ≤ er ∧ er ≤ 1099511627776) (hp : 0 ≤ pr ∧ pr ≤ 1099511627776) :
    ({ s.step with b := upd s.b a n f, er := er, pr := pr } : Fl).Ok :=
  let k := h.step
  ⟨by rw [upd_length]; exact h.len, k.op0, k.op1, he.1, he.2, hp.1, hp.2, upd_mem _ _ _ _ h.by0 hf⟩
theorem most_cap {x : Int} (h : 0 ≤ x ∧ x ≤ 1099511627776) (c : Bool) : 0 ≤ (if c then min (x + 1) most else x) ∧ (if c then min (x + 1) most else x) ≤ 1099511627776 := by
  unfold most; split <;> omega
theorem Fl.Ok.erase {s : Fl} (h : s.Ok) (k : Int) : (s.erase k).Ok := by
  unfold Fl.erase
  split
  · exact h.upd _ _ _ (fun _ _ _ => by omega) _ _ (most_cap ⟨h.er0, h.er1⟩ _) ⟨by rw [Fl.step_pr]; exact h.pr0, by rw [Fl.step_pr]; exact h.pr1⟩
  · exact h
theorem Fl.Ok.prog {s : Fl} (h : s.Ok) (a : Int) (xs : List Int) : (s.prog a xs).Ok := by
  unfold Fl.prog
  split
  · exact h.upd _ _ _ (fun _ _ _ => and_u8 _ _) _ _ ⟨by rw [Fl.step_er]; exact h.er0, by rw [Fl.step_er]; exact h.er1⟩ (most_cap ⟨h.pr0, h.pr1⟩ _)
  · exact h
theorem Fl.Ok.poke {s : Fl} (h : s.Ok) (a : Int) (xs : List Int) (hx : ∀ x ∈ xs, 0 ≤ x ∧ x ≤ 255) : (s.poke a xs).Ok := by
  unfold Fl.poke
  split
  · refine ⟨by rw [upd_length]; exact h.len, h.op0, h.op1, h.er0, h.er1, h.pr0, h.pr1, upd_mem _ _ _ (fun i _ => xs.getD i 0) h.by0 fun i x _ => ?_⟩
    simp only [List.getD]
    cases e : xs[i]? with
    | none => simp
    | some y => simpa using hx y (List.mem_of_getElem? e)
  · exact h
theorem Fl.Ok.turn {s : Fl} (h : s.Ok) : s.turn.Ok := by unfold Fl.turn; split <;> first | exact h | exact h.step
theorem Fl.Ok.plan {s : Fl} (h : s.Ok) (o c : Int) (ho : o ≤ 9223372036854775807) : (s.plan o c).Ok :=
  ⟨h.len, by simp [Fl.plan]; omega, by simp [Fl.plan]; omega, h.er0, h.er1, h.pr0, h.pr1, h.by0⟩
theorem Fl.Ok.start {s : Fl} (h : s.Ok) : s.start.Ok := ⟨h.len, by simp [Fl.start], by simp [Fl.start], h.er0, h.er1, h.pr0, h.pr1, h.by0⟩
theorem Fl.Ok.new (n : Int) : (Fl.new n).Ok := by
  refine ⟨by simp [Fl.new]; omega, by simp [Fl.new], by simp [Fl.new], by simp [Fl.new], by simp [Fl.new], by simp [Fl.new], by simp [Fl.new], ?_⟩
  intro x hx
  have := List.eq_of_mem_replicate hx
  omega

end Go.Proofs.Ytcecgbjpmegljaa
