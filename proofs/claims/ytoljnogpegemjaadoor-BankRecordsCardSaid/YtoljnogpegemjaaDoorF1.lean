/- A flash in plain words: its bytes, its plan, its counts, and what each operation makes of them. No program here; no condition. flash.operation, is, Size, Dead, Plan, Start, Turn: what each answers and what it makes of the flash. Condition: the flash lies there whole (IsFl). flash.Turn, Plan, Start, Program, Erase: what each answers and what it makes of the flash. Condition: the flash lies there whole; what is programmed lies elsewhere. flash.Erase, Poke: what each answers and what it makes of the flash. Condition: the flash lies there whole; what is poked lies elsewhere. (bytes.Clone stands in a text of its own.) flash.Read, Image: what each answers: new memory that holds the bytes. Condition: the flash lies there whole. math/bits.Mul64, math/bits.Mul: the whole product of two words. No condition. (Turned from the guide's proof over any program.) bytes.Repeat of one byte: a new slice of n such bytes. Condition: n is at most 2^18; the one byte lies in a block of its own. flash.New: a flash that is erased. Condition: none. toll.Of, flash.Toll: what the work has cost, as two floats. Condition: the flash lies there whole. What the laws on the flash share: bytes as a string; the document's example (alive). No condition. The document's example of a flash (alive of portcullislaw19): it answers true, in whatever memory. No condition. What a law makes and hands to a flash: new slices of bytes; Program and Poke of them. Condition: the flash lies there whole. -/
import Derived.Test.YtoljnogpegemjaaDoorBase
import Derived.Test.YtoljnogpegemjaaDoorChecked
import Derived.Test.YtoljnogpegemjaaDoorByt
import Derived.Laws.CopyOwn
import Derived.Test.YtoljnogpegemjaaDoorClone
import Derived.Lib.Mul64
import Derived.Laws.Bits64b
import Derived.Lib.MakeNoZero
import Derived.Deep.RegionLaw
import Derived.StillTailTactics
import Derived.WalkLawsBesides
import Derived.Laws.BytesArg
import Derived.Deep.OwnRows
namespace Go.Proofs.YtoljnogpegemjaaDoor
open Go.RowKit

structure Fl where
  b : List Int
  op : Int
  cut : Int
  dead : Bool
  er : Int
  pr : Int

/-- In a window of n places from a place on, f turns each byte. -/
def upd (b : List Int) (a n : Nat) (f : Nat → Int → Int) : List Int := b.mapIdx fun i x => if a ≤ i ∧ i < a + n then f (i - a) x else x

theorem upd_length (b : List Int) (a n : Nat) (f : Nat → Int → Int) : (upd b a n f).length = b.length := by simp [upd]
theorem upd_zero (b : List Int) (a : Nat) (f : Nat → Int → Int) : upd b a 0 f = b := by
  unfold upd
  apply List.ext_getElem <;> simp
  intro i h1 h2 h3
  omega
theorem upd_get (b : List Int) (a n : Nat) (f : Nat → Int → Int) (i : Nat) (h : i < b.length) :
    (upd b a n f)[i]'(by rw [upd_length]; exact h) = if a ≤ i ∧ i < a + n then f (i - a) b[i] else b[i] := by simp [upd]
theorem upd_get? (b : List Int) (a n : Nat) (f : Nat → Int → Int) (i : Nat) :
    (upd b a n f)[i]? = (b[i]?).map fun x => if a ≤ i ∧ i < a + n then f (i - a) x else x := by simp [upd]
theorem upd_getD (b : List Int) (a n : Nat) (f : Nat → Int → Int) (i : Nat) (_h : i < b.length) :
    (upd b a n f).getD i 0 = if a ≤ i ∧ i < a + n then f (i - a) (b.getD i 0) else b.getD i 0 := by
  simp [List.getD, upd_get?, _h]
theorem upd_succ (b : List Int) (a n : Nat) (f : Nat → Int → Int) (_h : a + n < b.length) :
    upd b a (n + 1) f = (upd b a n f).set (a + n) (f n (b.getD (a + n) 0)) := by
  apply List.ext_getElem
  · simp [upd_length]
  · intro i h1 h2
    rw [upd_length] at h1
    rw [upd_get _ _ _ _ _ h1, List.getElem_set, upd_get _ _ _ _ _ h1]
    by_cases e : a + n = i
    · subst e
      rw [if_pos (by omega), if_pos rfl]
      simp [List.getD, h1]
    · rw [if_neg e]
      by_cases e2 : a ≤ i ∧ i < a + n
      · rw [if_pos (by omega), if_pos e2]
      · rw [if_neg (by omega), if_neg e2]
theorem upd_congr (b : List Int) (a n : Nat) (f f' : Nat → Int → Int) (h : ∀ i x, i < n → f i x = f' i x) : upd b a n f = upd b a n f' := by
  apply List.ext_getElem
  · simp [upd_length]
  · intro i h1 h2
    rw [upd_length] at h1
    rw [upd_get _ _ _ _ _ h1, upd_get _ _ _ _ _ h1]
    split
    · exact h _ _ (by omega)
    · rfl
theorem upd_mem (b : List Int) (a n : Nat) (f : Nat → Int → Int) (h : ∀ x ∈ b, 0 ≤ x ∧ x ≤ 255) (hf : ∀ i x, 0 ≤ x ∧ x ≤ 255 → 0 ≤ f i x ∧ f i x ≤ 255) : ∀ x ∈ upd b a n f, 0 ≤ x ∧ x ≤ 255 := by
  intro x hx
  obtain ⟨i, hi, rfl⟩ := List.getElem_of_mem hx
  rw [upd_length] at hi
  rw [upd_get _ _ _ _ _ hi]
  split
  · exact hf _ _ (h _ (List.getElem_mem hi))
  · exact h _ (List.getElem_mem hi)

structure Fl.Ok (s : Fl) : Prop where
  len : s.b.length ≤ 262144
  op0 : -1 ≤ s.op
  op1 : s.op ≤ 9223372036854775807
  er0 : 0 ≤ s.er
  er1 : s.er ≤ 1099511627776
  pr0 : 0 ≤ s.pr
  pr1 : s.pr ≤ 1099511627776
  by0 : ∀ x ∈ s.b, 0 ≤ x ∧ x ≤ 255

def inB (len : Nat) (a n : Int) : Bool := decide (0 ≤ a) && decide (0 ≤ n) && decide (a ≤ len) && decide (n ≤ len - a)
theorem inB_iff {len : Nat} {a n : Int} : inB len a n = true ↔ 0 ≤ a ∧ 0 ≤ n ∧ a ≤ len ∧ n ≤ len - a := by
  simp [inB, and_assoc]
theorem inB_not {len : Nat} {a n : Int} : inB len a n = false ↔ a < 0 ∨ (0 ≤ a ∧ n < 0) ∨ (0 ≤ a ∧ 0 ≤ n ∧ len < a) ∨ (0 ≤ a ∧ 0 ≤ n ∧ a ≤ len ∧ len - a < n) := by
  rw [← Bool.not_eq_true, inB_iff]; omega

def Fl.goes (s : Fl) : Bool := s.op != 0
def Fl.opN (s : Fl) (n : Int) : Int := if s.op = 0 then min (max 0 s.cut) n else n
def Fl.step (s : Fl) : Fl := if s.op = 0 then { s with op := -1, cut := 0, dead := true } else { s with op := max (-1) (s.op - 1) }

def most : Int := 1099511627776
def andB (xs : List Int) (i : Nat) (x : Int) : Int := bits .and .u8 x (xs.getD i 0)

def Fl.turnOk (s : Fl) : Bool := !s.dead && s.goes
def Fl.turn (s : Fl) : Fl := if s.dead then s else s.step
def Fl.eraseIn (s : Fl) (k : Int) : Bool := !s.dead && decide (0 ≤ k) && decide (k < (s.b.length / 256 : Nat))
def Fl.eraseOk (s : Fl) (k : Int) : Bool := s.eraseIn k && s.goes
def Fl.erase (s : Fl) (k : Int) : Fl :=
  if s.eraseIn k then { s.step with b := upd s.b (256 * k.toNat) (s.opN 256).toNat (fun _ _ => 255), er := if s.goes then min (s.er + 1) most else s.er } else s
def Fl.progIn (s : Fl) (a n : Int) : Bool := !s.dead && inB s.b.length a n
def Fl.progOk (s : Fl) (a n : Int) : Bool := s.progIn a n && s.goes
def Fl.prog (s : Fl) (a : Int) (xs : List Int) : Fl :=
  if s.progIn a xs.length then { s.step with b := upd s.b a.toNat (s.opN xs.length).toNat (andB xs), pr := if s.goes then min (s.pr + 1) most else s.pr } else s
def Fl.pokeOk (s : Fl) (a n : Int) : Bool := inB s.b.length a n
def Fl.poke (s : Fl) (a : Int) (xs : List Int) : Fl :=
  if inB s.b.length a xs.length then { s with b := upd s.b a.toNat xs.length (fun i _ => xs.getD i 0) } else s
def Fl.plan (s : Fl) (o c : Int) : Fl := { s with op := max (-1) o, cut := c }
def Fl.start (s : Fl) : Fl := { s with dead := false, op := -1, cut := 0 }
def Fl.readOk (s : Fl) (a n : Int) : Bool := !s.dead && inB s.b.length a n
def Fl.read (s : Fl) (a n : Int) : List Int := (s.b.drop a.toNat).take n.toNat
def Fl.new (n : Int) : Fl := ⟨List.replicate (256 * (min (max 0 n) 1024).toNat) 255, -1, 0, false, 0, 0⟩

theorem Fl.Ok.step {s : Fl} (h : s.Ok) : s.step.Ok := by
  obtain ⟨h1, h2, h3, h4, h5, h6, h7, h8⟩ := h
  unfold Fl.step
  split
  · exact ⟨h1, by simp, by simp, h4, h5, h6, h7, h8⟩
  · exact ⟨h1, by simp; omega, by simp; omega, h4, h5, h6, h7, h8⟩
theorem Fl.step_b (s : Fl) : s.step.b = s.b := by unfold Fl.step; split <;> rfl
theorem Fl.step_er (s : Fl) : s.step.er = s.er := by unfold Fl.step; split <;> rfl
theorem Fl.step_pr (s : Fl) : s.step.pr = s.pr := by unfold Fl.step; split <;> rfl
theorem Fl.erase_len (s : Fl) (k : Int) : (s.erase k).b.length = s.b.length := by unfold Fl.erase; split <;> simp [upd_length]
theorem Fl.prog_len (s : Fl) (a : Int) (xs : List Int) : (s.prog a xs).b.length = s.b.length := by unfold Fl.prog; split <;> simp [upd_length]
theorem Fl.poke_len (s : Fl) (a : Int) (xs : List Int) : (s.poke a xs).b.length = s.b.length := by unfold Fl.poke; split <;> simp [upd_length]
theorem and_u8 (x y : Int) : 0 ≤ bits .and .u8 x y ∧ bits .and .u8 x y ≤ 255 := by
  have h : ∃ z : Int, bits .and .u8 x y = IntKind.u8.wrap z := ⟨_, rfl⟩
  obtain ⟨z, hz⟩ := h
  rw [hz]
  rw [IntKind.wrap_u8]
  omega
theorem Fl.Ok.upd {s : Fl} (h : s.Ok) (a n : Nat) (f : Nat → Int → Int) (hf : ∀ i x, 0 ≤ x ∧ x ≤ 255 → 0 ≤ f i x ∧ f i x ≤ 255) (er pr : Int) (he : 0 ≤ er ∧ er ≤ 1099511627776) (hp : 0 ≤ pr ∧ pr ≤ 1099511627776) :
    ({ s.step with b := upd s.b a n f, er := er, pr := pr } : Fl).Ok :=
  let k := h.step
  ⟨by rw [upd_length]; exact h.len, k.op0, k.op1, he.1, he.2, hp.1, hp.2, upd_mem _ _ _ _ h.by0 hf⟩
theorem most_cap {x : Int} (h : 0 ≤ x ∧ x ≤ 1099511627776) (c : Bool) : 0 ≤ (if c then min (x + 1) most else x) ∧ (if c then min (x + 1) most else x) ≤ 1099511627776 := by
  unfold most; split <;> omega
theorem Fl.Ok.erase {s : Fl} (h : s.Ok) (k : Int) : (s.erase k).Ok := by
  unfold Fl.erase
  split
  · exact h.upd _ _ _ (fun _ _ _ => by omega) _ _ (most_cap ⟨h.er0, h.er1⟩ _) ⟨by rw [Fl.step_pr]; exact h.pr0, by rw [Fl.step_pr]; exact h.pr1⟩
  · exact h
theorem Fl.Ok.prog {s : Fl} (h : s.Ok) (a : Int) (xs : List Int) : (s.prog a xs).Ok := by
  unfold Fl.prog
  split
  · exact h.upd _ _ _ (fun _ _ _ => and_u8 _ _) _ _ ⟨by rw [Fl.step_er]; exact h.er0, by rw [Fl.step_er]; exact h.er1⟩ (most_cap ⟨h.pr0, h.pr1⟩ _)
  · exact h
theorem Fl.Ok.poke {s : Fl} (h : s.Ok) (a : Int) (xs : List Int) (hx : ∀ x ∈ xs, 0 ≤ x ∧ x ≤ 255) : (s.poke a xs).Ok := by
  unfold Fl.poke
  split
  · refine ⟨by rw [upd_length]; exact h.len, h.op0, h.op1, h.er0, h.er1, h.pr0, h.pr1, upd_mem _ _ _ (fun i _ => xs.getD i 0) h.by0 fun i x _ => ?_⟩
    simp only [List.getD]
    cases e : xs[i]? with
    | none => simp
    | some y => simpa using hx y (List.mem_of_getElem? e)
  · exact h
theorem Fl.Ok.turn {s : Fl} (h : s.Ok) : s.turn.Ok := by unfold Fl.turn; split <;> first | exact h | exact h.step
theorem Fl.Ok.plan {s : Fl} (h : s.Ok) (o c : Int) (ho : o ≤ 9223372036854775807) : (s.plan o c).Ok :=
  ⟨h.len, by simp [Fl.plan]; omega, by simp [Fl.plan]; omega, h.er0, h.er1, h.pr0, h.pr1, h.by0⟩
theorem Fl.Ok.start {s : Fl} (h : s.Ok) : s.start.Ok := ⟨h.len, by simp [Fl.start], by simp [Fl.start], h.er0, h.er1, h.pr0, h.pr1, h.by0⟩
theorem Fl.Ok.new (n : Int) : (Fl.new n).Ok := by
  refine ⟨by simp [Fl.new]; omega, by simp [Fl.new], by simp [Fl.new], by simp [Fl.new], by simp [Fl.new], by simp [Fl.new], by simp [Fl.new], ?_⟩
  intro x hx
  have := List.eq_of_mem_replicate hx
  omega

end Go.Proofs.YtoljnogpegemjaaDoor
namespace Go.Proofs.YtoljnogpegemjaaDoor
open Go.RowKit

def flCells (g : Nat) (s : Fl) : Array Value :=
  #[.slice (some ⟨g, 0, none⟩) s.b.length s.b.length, .int .i64 s.op, .int .i64 s.cut, .bool s.dead, .int .i64 s.er, .int .i64 s.pr]
/-- Block p is a flash with the state s, whose bytes lie at the head of block g. -/
structure IsFl (w : World) (p g : Nat) (s : Fl) : Prop where
  st : w.heap[p]? = some (.cells (flCells g s) 127 (0, 0))
  row : ∃ sp, w.heap[g]? = some (.cells (row8 s.b sp) 5 (0, 0))
  ne : p ≠ g
  ok : s.Ok

theorem IsFl.cs {w : World} {p g : Nat} {s : Fl} (h : IsFl w p g s) :
    w.cell? ⟨p, 0, none⟩ = some (.slice (some ⟨g, 0, none⟩) s.b.length s.b.length) ∧ w.cell? ⟨p, 1, none⟩ = some (.int .i64 s.op) ∧ w.cell? ⟨p, 2, none⟩ = some (.int .i64 s.cut) ∧ w.cell? ⟨p, 3, none⟩ = some (.bool s.dead) ∧
      w.cell? ⟨p, 4, none⟩ = some (.int .i64 s.er) ∧ w.cell? ⟨p, 5, none⟩ = some (.int .i64 s.pr) :=
  ⟨cell_blk h.st 0, cell_blk h.st 1, cell_blk h.st 2, cell_blk h.st 3, cell_blk h.st 4, cell_blk h.st 5⟩
theorem IsFl.fr {w : World} {p g : Nat} {s : Fl} (h : IsFl w p g s) (o : Nat) : w.frozen? ⟨p, o, none⟩ = false := free_blk h.st o
theorem IsFl.kept {T : Nat → Prop} {w w' : World} {p g : Nat} {s : Fl} (h : IsFl w p g s) (k : Kept T w w') (hp : ¬ T p) (hg : ¬ T g) : IsFl w' p g s :=
  ⟨k.blk h.st hp, let ⟨sp, hs⟩ := h.row; ⟨sp, k.blk hs hg⟩, h.ne, h.ok⟩
theorem IsFl.below {w w' : World} {p g : Nat} {s : Fl} (h : IsFl w p g s) (k : Below w.heap.size w w') : IsFl w' p g s :=
  h.kept (T := fun _ => False) (Kept.of_below k) id id
theorem IsFl.drewN {w : World} {p g : Nat} {s : Fl} (h : IsFl w p g s) (n : Nat) : IsFl (w.drewN n) p g s := ⟨h.st, h.row, h.ne, h.ok⟩
theorem IsFl.lt {w : World} {p g : Nat} {s : Fl} (h : IsFl w p g s) : p < w.heap.size ∧ g < w.heap.size := ⟨blk_lt h.st, let ⟨_, hs⟩ := h.row; blk_lt hs⟩
theorem size_setCell (w : World) (a : Addr) (v : Value) : (w.setCell a v).heap.size = w.heap.size := by simp [World.setCell]

theorem op_goes (p g : Nat) (s : Fl) (n : Int) (w : World) (h : IsFl w p g s) (hne : s.op ≠ 0) :
    Calls Tryd.prog 124 #[.pointer (some ⟨p, 0, none⟩), .int .i64 n] w fun e w' =>
      e = .returned (.tuple #[.int .i64 (s.opN n), .bool s.goes]) ∧ IsFl w' p g s.step ∧ Kept (· = p) w w' ∧ w'.heap.size = w.heap.size := by
  obtain ⟨c0, c1, c2, c3, c4, c5⟩ := h.cs
  have f1 := h.fr 1
  have hb : (s.op != 0) = true := by simp [hne]
  have hg : s.goes = true := hb
  have hN : s.opN n = n := by simp [Fl.opN, hne]
  have g0 := h.ok.op0
  have g1 := h.ok.op1
  have fin : IsFl (w.setCell ⟨p, 1, none⟩ (.int .i64 (max (-1) (s.op - 1)))) p g s.step ∧ Kept (· = p) w (w.setCell ⟨p, 1, none⟩ (.int .i64 (max (-1) (s.op - 1)))) ∧ (w.setCell ⟨p, 1, none⟩ (.int .i64 (max (-1) (s.op - 1)))).heap.size = w.heap.size := by
    refine ⟨⟨?_, ?_, h.ne, h.ok.step⟩, (Kept.refl _ _).at _ _, size_setCell _ _ _⟩
    · rw [blk_setCell h.st]; simp [flCells, Fl.step, hne]
    · obtain ⟨sp, hs⟩ := h.row
      exact ⟨sp, by rw [Fl.step_b]; exact blk_setCell_ne hs _ h.ne.symm⟩
  have FIN := Lib.hid fin
  have HG := Lib.hid hg
  have HN := Lib.hid hN
  clear fin hg hN
  go_enter Tryd.func124, Tryd.ntmps124
  go_wp2
  go_ret2
  rw [HN.out, HG.out]
  exact ⟨rfl, FIN.out⟩

theorem op_fails (p g : Nat) (s : Fl) (n : Int) (w : World) (h : IsFl w p g s) (h0 : s.op = 0) :
    Calls Tryd.prog 124 #[.pointer (some ⟨p, 0, none⟩), .int .i64 n] w fun e w' =>
      e = .returned (.tuple #[.int .i64 (s.opN n), .bool s.goes]) ∧ IsFl w' p g s.step ∧ Kept (· = p) w w' ∧ w'.heap.size = w.heap.size := by
  obtain ⟨c0, c1, c2, c3, c4, c5⟩ := h.cs
  have f1 := h.fr 1
  have f2 := h.fr 2
  have f3 := h.fr 3
  have hg : s.goes = false := by simp [Fl.goes, h0]
  have hN : s.opN n = min (max 0 s.cut) n := by simp [Fl.opN, h0]
  rw [h0] at c1
  have fin : ∀ w', w' = (((w.setCell ⟨p, 1, none⟩ (.int .i64 (-1))).setCell ⟨p, 2, none⟩ (.int .i64 0)).setCell ⟨p, 3, none⟩ (.bool true)) → IsFl w' p g s.step ∧ Kept (· = p) w w' ∧ w'.heap.size = w.heap.size := by
    rintro w' rfl
    refine ⟨⟨?_, ?_, h.ne, h.ok.step⟩, (((Kept.refl _ _).at _ _).at _ _).at _ _, by simp only [size_setCell]⟩
    · rw [blk_setCell (blk_setCell (blk_setCell h.st _) _)]; simp [flCells, Fl.step, h0]
    · obtain ⟨sp, hs⟩ := h.row
      exact ⟨sp, by rw [Fl.step_b]; exact blk_setCell_ne (blk_setCell_ne (blk_setCell_ne hs _ h.ne.symm) _ h.ne.symm) _ h.ne.symm⟩
  have FIN := Lib.hid fin
  have HG := Lib.hid hg
  have HN := Lib.hid hN
  clear fin hg hN h0
  go_enter Tryd.func124, Tryd.ntmps124
  go_wp2
  go_ret2
  rw [HN.out, HG.out]
  exact ⟨rfl, FIN.out _ rfl⟩

theorem op_any (p g : Nat) (s : Fl) (n : Int) (w : World) (h : IsFl w p g s) :
    Calls Tryd.prog 124 #[.pointer (some ⟨p, 0, none⟩), .int .i64 n] w fun e w' =>
      e = .returned (.tuple #[.int .i64 (s.opN n), .bool s.goes]) ∧ IsFl w' p g s.step ∧ Kept (· = p) w w' ∧ w'.heap.size = w.heap.size := by
  by_cases h0 : s.op = 0
  · exact op_fails p g s n w h h0
  · exact op_goes p g s n w h h0

theorem is_any (p g : Nat) (s : Fl) (a n : Int) (w : World) (h : IsFl w p g s) :
    Calls Tryd.prog 77 #[.pointer (some ⟨p, 0, none⟩), .int .i64 a, .int .i64 n] w fun e w' =>
      e = .returned (.bool (inB s.b.length a n)) ∧ w = w' := by
  obtain ⟨c0, -, -, -, -, -⟩ := h.cs
  have hl := h.ok.len
  cases hi : inB s.b.length a n with
  | true =>
    obtain ⟨h1, h2, h3, h4⟩ := inB_iff.1 hi
    clear hi
    go_enter Tryd.func77, Tryd.ntmps77
    go_wp2
    go_ret
    exact ⟨rfl, rfl⟩
  | false =>
    rcases inB_not.1 hi with h1 | ⟨h1, h2⟩ | ⟨h1, h2, h3⟩ | ⟨h1, h2, h3, h4⟩ <;> clear hi
    all_goals
      go_enter Tryd.func77, Tryd.ntmps77
      go_wp2
      go_ret
      exact ⟨ret_bool (by first | rfl | (simp; omega)), rfl⟩

theorem size_any (p g : Nat) (s : Fl) (w : World) (h : IsFl w p g s) :
    Calls Tryd.prog 73 #[.pointer (some ⟨p, 0, none⟩)] w fun e w' => e = .returned (.int .i64 ((s.b.length / 256 : Nat) : Int)) ∧ w = w' := by
  obtain ⟨c0, -, -, -, -, -⟩ := h.cs
  have hl := h.ok.len
  go_enter Tryd.func73, Tryd.ntmps73
  go_wp2
  go_ret
  exact ⟨rfl, rfl⟩

theorem dead_any (p g : Nat) (s : Fl) (w : World) (h : IsFl w p g s) :
    Calls Tryd.prog 72 #[.pointer (some ⟨p, 0, none⟩)] w fun e w' => e = .returned (.bool s.dead) ∧ w = w' := by
  obtain ⟨-, -, -, c3, -, -⟩ := h.cs
  go_enter Tryd.func72, Tryd.ntmps72
  go_wp2
  go_ret
  exact ⟨rfl, rfl⟩

end Go.Proofs.YtoljnogpegemjaaDoor
namespace Go.Proofs.YtoljnogpegemjaaDoor
open Go.RowKit

theorem turn_any (p g : Nat) (s : Fl) (w : World) (h : IsFl w p g s) :
    Calls Tryd.prog 141 #[.pointer (some ⟨p, 0, none⟩)] w fun e w' =>
      e = .returned (.bool s.turnOk) ∧ IsFl w' p g s.turn ∧ Kept (· = p) w w' ∧ w'.heap.size = w.heap.size := by
  obtain ⟨-, -, -, c3, -, -⟩ := h.cs
  cases hd : s.dead with
  | true =>
    have h1 : s.turnOk = false := by simp [Fl.turnOk, hd]
    have h2 : s.turn = s := by simp [Fl.turn, hd]
    rw [hd] at c3
    have H1 := Lib.hid h1
    have H2 := Lib.hid h2
    clear h1 h2 hd
    go_enter Tryd.func141, Tryd.ntmps141
    go_wp2
    go_ret
    rw [H1.out, H2.out]
    exact ⟨rfl, h, Kept.refl _ _, rfl⟩
  | false =>
    have h1 : s.turnOk = s.goes := by simp [Fl.turnOk, hd]
    have h2 : s.turn = s.step := by simp [Fl.turn, hd]
    rw [hd] at c3
    have H1 := Lib.hid h1
    have H2 := Lib.hid h2
    clear h1 h2 hd
    go_enter Tryd.func141, Tryd.ntmps141
    go_wp2_with (go_at_call 124; refine (op_any p g s 0 _ h).mono ?_; rintro e w' ⟨rfl, hq⟩; have HQ := Lib.hid hq; clear hq)
    go_ret
    rw [H1.out, H2.out]
    exact ⟨rfl, HQ.out⟩

theorem plan_any (p g : Nat) (s : Fl) (o c : Int) (w : World) (h : IsFl w p g s) (_ho : o ≤ 9223372036854775807) :
    Calls Tryd.prog 39 #[.pointer (some ⟨p, 0, none⟩), .agg #[.int .i64 o, .int .i64 c]] w fun e w' =>
      e = .returned (.tuple #[]) ∧ IsFl w' p g (s.plan o c) ∧ Kept (· = p) w w' := by
  have h' := h.below (((Below.refl _ w).alloc (Nat.le_refl _) (.cells #[.int .i64 o, .int .i64 c] 67)))
  obtain ⟨c0, c1, c2, c3, c4, c5⟩ := h'.cs
  have f1 := h'.fr 1
  have f2 := h'.fr 2
  have fin : ∀ w1 w', IsFl w1 p g s → Kept (fun x => x = p) w w1 → w' = ((w1.setCell ⟨p, 1, none⟩ (.int .i64 (max (-1) o))).setCell ⟨p, 2, none⟩ (.int .i64 c)) → IsFl w' p g (s.plan o c) ∧ Kept (· = p) w w' := by
    rintro w1 w' h hk rfl
    refine ⟨⟨?_, ?_, h.ne, h.ok.plan _ _ _ho⟩, (hk.at _ _).at _ _⟩
    · rw [blk_setCell (blk_setCell h.st _)]; simp [flCells, Fl.plan]
    · obtain ⟨sp, hs⟩ := h.row
      exact ⟨sp, blk_setCell_ne (blk_setCell_ne hs _ h.ne.symm) _ h.ne.symm⟩
  have FIN := Lib.hid fin
  clear fin
  go_enter Tryd.func39, Tryd.ntmps39
  go_wp2
  go_end0
  exact ⟨rfl, FIN.out _ _ h' ((Kept.refl _ _).alloc _) rfl⟩

theorem start_any (p g : Nat) (s : Fl) (w : World) (h : IsFl w p g s) :
    Calls Tryd.prog 37 #[.pointer (some ⟨p, 0, none⟩)] w fun e w' =>
      e = .returned (.tuple #[]) ∧ IsFl w' p g s.start ∧ Kept (· = p) w w' ∧ w'.heap.size = w.heap.size := by
  obtain ⟨c0, c1, c2, c3, c4, c5⟩ := h.cs
  have f1 := h.fr 1
  have f2 := h.fr 2
  have f3 := h.fr 3
  have fin : ∀ w', w' = (((w.setCell ⟨p, 3, none⟩ (.bool false)).setCell ⟨p, 1, none⟩ (.int .i64 (-1))).setCell ⟨p, 2, none⟩ (.int .i64 0)) → IsFl w' p g s.start ∧ Kept (· = p) w w' ∧ w'.heap.size = w.heap.size := by
    rintro w' rfl
    refine ⟨⟨?_, ?_, h.ne, h.ok.start⟩, (((Kept.refl _ _).at _ _).at _ _).at _ _, by simp only [size_setCell]⟩
    · rw [blk_setCell (blk_setCell (blk_setCell h.st _) _)]; simp [flCells, Fl.start]
    · obtain ⟨sp, hs⟩ := h.row
      exact ⟨sp, blk_setCell_ne (blk_setCell_ne (blk_setCell_ne hs _ h.ne.symm) _ h.ne.symm) _ h.ne.symm⟩
  have FIN := Lib.hid fin
  clear fin
  go_enter Tryd.func37, Tryd.ntmps37
  go_wp2
  go_end0
  exact ⟨rfl, FIN.out _ rfl⟩

def elseW (sa : Option Addr) (n p g : Nat) : Prop := ∀ a, sa = some a → n = 0 ∨ (a.block ≠ p ∧ a.block ≠ g)

/-- The flash while a program or an erase is under way: k bytes are turned. -/
structure Mid (w0 w : World) (p g : Nat) (s : Fl) (b : List Int) : Prop where
  st : w.heap[p]? = some (.cells (flCells g s) 127 (0, 0))
  row : ∃ sp, w.heap[g]? = some (.cells (row8 b sp) 5 (0, 0))
  len : b.length = s.b.length
  kept : Kept (fun x => x = p ∨ x = g) w0 w
  size : w.heap.size = w0.heap.size

theorem Mid.cell {w0 w : World} {p g : Nat} {s : Fl} {b : List Int} (h : Mid w0 w p g s b) (i : Nat) (hi : i < s.b.length) : w.cell? ⟨g, i, none⟩ = some (.int .u8 (b.getD i 0)) := by
  obtain ⟨sp, hs⟩ := h.row
  rw [cell_blk hs, row8_get _ _ _ (by rw [h.len]; exact hi)]
theorem Mid.free {w0 w : World} {p g : Nat} {s : Fl} {b : List Int} (h : Mid w0 w p g s b) (i : Nat) : w.frozen? ⟨g, i, none⟩ = false := by
  obtain ⟨sp, hs⟩ := h.row
  exact free_blk hs i
theorem Mid.set {w0 w : World} {p g : Nat} {s : Fl} {b : List Int} (h : Mid w0 w p g s b) (hne : p ≠ g) (i : Nat) (hi : i < s.b.length) (x : Int) :
    Mid w0 (w.setCell ⟨g, i, none⟩ (.int .u8 x)) p g s (b.set i x) := by
  obtain ⟨sp, hs⟩ := h.row
  refine ⟨blk_setCell_ne h.st _ hne, ⟨sp, ?_⟩, by simpa using h.len, h.kept.setCell (.inl (.inr rfl)) _, by rw [size_setCell]; exact h.size⟩
  rw [blk_setCell hs, row8_set _ _ _ (by rw [h.len]; exact hi)]


theorem prog_out (p g : Nat) (s : Fl) (a : Int) (sa : Option Addr) (n c : Nat) (w : World) (h : IsFl w p g s) (hi : s.progIn a n = false) :
    Calls Tryd.prog 94 #[.pointer (some ⟨p, 0, none⟩), .int .i64 a, .slice sa n c] w fun e w' => e = .returned (.bool false) ∧ w = w' := by
  obtain ⟨-, -, -, c3, -, -⟩ := h.cs
  cases hd : s.dead with
  | true =>
    rw [hd] at c3
    clear hi hd
    go_enter Tryd.func94, Tryd.ntmps94
    go_wp2
    go_ret
    exact ⟨rfl, rfl⟩
  | false =>
    have hb : inB s.b.length a n = false := by simpa [Fl.progIn, hd] using hi
    rw [hd] at c3
    have HB := Lib.hid hb
    clear hi hd hb
    go_enter Tryd.func94, Tryd.ntmps94
    go_wp2_with (go_at_call 77; refine (is_any p g s a n _ h).mono ?_; rintro e w' ⟨rfl, rfl⟩; rw [HB.out])
    go_ret
    exact ⟨rfl, rfl⟩

theorem Mid.start {w0 w1 : World} {p g : Nat} {s : Fl} (h1 : IsFl w1 p g s) (hk : Kept (fun x => x = p) w0 w1) (hz : w1.heap.size = w0.heap.size) : Mid w0 w1 p g s s.b :=
  ⟨h1.st, h1.row, rfl, hk.mono (fun _ _ => .inl), hz⟩

set_option maxHeartbeats 800000 in
theorem prog_in (p g : Nat) (s : Fl) (a : Nat) (ad : Addr) (n c : Nat) (xs : List Int) (w : World) (h : IsFl w p g s) (hsrc : Src w (some ad) n xs) (hel : elseW (some ad) n p g) (hnc : n ≤ c)
    (hd : s.dead = false) (hin : a + n ≤ s.b.length) :
    Calls Tryd.prog 94 #[.pointer (some ⟨p, 0, none⟩), .int .i64 a, .slice (some ad) n c] w fun e w' =>
      e = .returned (.bool s.goes) ∧ IsFl w' p g (s.prog a xs) ∧ Kept (fun x => x = p ∨ x = g) w w' ∧ w'.heap.size = w.heap.size := by
  obtain ⟨-, -, -, c3, -, -⟩ := h.cs
  have hl := h.ok.len
  have hb : inB s.b.length a n = true := inB_iff.2 (by omega)
  obtain ⟨k, hk, hkn⟩ : ∃ k : Nat, s.opN n = (k : Int) ∧ k ≤ n := by
    refine ⟨(s.opN n).toNat, ?_, ?_⟩ <;> (unfold Fl.opN; split <;> omega)
  have hop := fun w => op_any p g s n w
  rw [hk] at hop
  rw [hd] at c3
  have HB := Lib.hid hb
  have HD := Lib.hid hd
  have HK := Lib.hid hk
  have HOP := Lib.hid hop
  clear hb hd hk hop
  go_enter Tryd.func94, Tryd.ntmps94
  go_wp2_with (first | (go_at_call 77; refine (is_any p g s a n _ h).mono ?_; rintro e w' ⟨rfl, rfl⟩; rw [HB.out]) | (go_at_call 124; refine (HOP.out _ h).mono ?_; rintro e w1 ⟨rfl, hq⟩; have HQ := Lib.hid hq; clear hq))
  go_loopw [34] (fun i wr => ∃ j : Nat, j ≤ k ∧ i = .int .i64 j ∧ Mid w wr p g s.step (upd s.b a j (andB xs))) (fun i _ => k - (intOf i).toNat)
  case atStart =>
    exact ⟨0, Nat.zero_le _, rfl, by rw [upd_zero, ← Fl.step_b]; exact Mid.start HQ.out.1 HQ.out.2.1 HQ.out.2.2⟩
  case round =>
    obtain ⟨j, hj, rfl, hm⟩ := hrel
    by_cases hlt : j < k
    · have x0 : wr.cell? ⟨p, 0, none⟩ = some (.slice (some ⟨g, 0, none⟩) s.b.length s.b.length) := by rw [cell_blk hm.st]; simp [flCells, Fl.step_b]
      have x1 : wr.cell? ⟨g, a + j, none⟩ = some (.int .u8 (s.b.getD (a + j) 0)) := by
        rw [hm.cell (a + j) (by rw [Fl.step_b]; omega), upd_getD _ _ _ _ _ (by omega), if_neg (by omega)]
      have x2 : wr.frozen? ⟨g, a + j, none⟩ = false := hm.free _
      have x3 : wr.cell? (ad.add j) = some (.int .u8 (xs.getD j 0)) := by
        obtain ⟨a', he, hc⟩ := hsrc.cell j (by omega)
        cases he
        refine hm.kept.cellX hc ?_
        rw [block_add]
        rcases hel _ rfl with h0 | h0
        · omega
        · rintro (e | e) <;> simp_all
      have HM := Lib.hid hm
      clear hm
      go_wp2
      go_roundw
      case rel =>
        refine ⟨j + 1, by omega, by go_num, ?_⟩
        rw [upd_succ _ _ _ _ (by omega)]
        simpa [andB] using HM.out.set h.ne (a + j) (by rw [Fl.step_b]; omega) (bits .and .u8 (s.b.getD (a + j) 0) (xs.getD j 0))
      case measure => simp [intOf]; omega
    · obtain rfl : j = k := by omega
      have x5 : wr.cell? ⟨p, 5, none⟩ = some (.int .i64 s.pr) := by rw [cell_blk hm.st]; simp [flCells, Fl.step_pr]
      have x6 : wr.frozen? ⟨p, 5, none⟩ = false := free_blk hm.st _
      have p0 := h.ok.pr0
      have p1 := h.ok.pr1
      have hin' : s.progIn a xs.length = true := by simp [Fl.progIn, HD.out, hsrc.len, HB.out]
      have hkt : (s.opN xs.length).toNat = j := by rw [hsrc.len, HK.out]; rfl
      cases hg : s.goes with
      | true =>
        have fin : IsFl (wr.setCell ⟨p, 5, none⟩ (.int .i64 (min (s.pr + 1) 1099511627776))) p g (s.prog a xs) ∧ Kept (fun x => x = p ∨ x = g) w (wr.setCell ⟨p, 5, none⟩ (.int .i64 (min (s.pr + 1) 1099511627776))) ∧
            (wr.setCell ⟨p, 5, none⟩ (.int .i64 (min (s.pr + 1) 1099511627776))).heap.size = w.heap.size := by
          have hprog : s.prog a xs = { s.step with b := upd s.b a j (andB xs), pr := min (s.pr + 1) most } := by simp [Fl.prog, hin', hkt, hg]
          obtain ⟨sp, hs⟩ := hm.row
          refine ⟨⟨?_, ⟨sp, ?_⟩, h.ne, h.ok.prog _ _⟩, hm.kept.setCell (.inl (.inl rfl)) _, by rw [size_setCell]; exact hm.size⟩
          · rw [blk_setCell hm.st, hprog]; simp [flCells, upd_length, Fl.step_b, most]
          · rw [hprog]; exact blk_setCell_ne hs _ h.ne.symm
        have FIN := Lib.hid fin
        clear fin hkt hin' hm
        have HG := Lib.hid hg
        clear hg
        go_wp2
        go_ret
        rw [HG.out]
        exact ⟨rfl, FIN.out⟩
      | false =>
        have fin : IsFl wr p g (s.prog a xs) ∧ Kept (fun x => x = p ∨ x = g) w wr ∧ wr.heap.size = w.heap.size := by
          have hprog : s.prog a xs = { s.step with b := upd s.b a j (andB xs), pr := s.pr } := by simp [Fl.prog, hin', hkt, hg]
          obtain ⟨sp, hs⟩ := hm.row
          refine ⟨⟨?_, ⟨sp, ?_⟩, h.ne, h.ok.prog _ _⟩, hm.kept, hm.size⟩
          · rw [hm.st, hprog]; simp [flCells, upd_length, Fl.step_b, Fl.step_pr]
          · rw [hprog]; exact hs
        have FIN := Lib.hid fin
        clear fin hkt hin' hm
        have HG := Lib.hid hg
        clear hg
        go_wp2
        go_ret
        rw [HG.out]
        exact ⟨rfl, FIN.out⟩

theorem prog_nil (p g : Nat) (s : Fl) (a : Nat) (w : World) (h : IsFl w p g s) (hd : s.dead = false) (hin : a ≤ s.b.length) :
    Calls Tryd.prog 94 #[.pointer (some ⟨p, 0, none⟩), .int .i64 a, .slice none 0 0] w fun e w' =>
      e = .returned (.bool s.goes) ∧ IsFl w' p g (s.prog a []) ∧ Kept (fun x => x = p ∨ x = g) w w' ∧ w'.heap.size = w.heap.size := by
  obtain ⟨-, -, -, c3, -, -⟩ := h.cs
  have hl := h.ok.len
  have hb : inB s.b.length a 0 = true := inB_iff.2 (by omega)
  have hk : s.opN 0 = 0 := by unfold Fl.opN; split <;> omega
  have hop := fun w => op_any p g s 0 w
  rw [hk] at hop
  rw [hd] at c3
  have HB := Lib.hid hb
  have HD := Lib.hid hd
  have HK := Lib.hid hk
  have HOP := Lib.hid hop
  clear hb hd hk hop
  go_enter Tryd.func94, Tryd.ntmps94
  go_wp2_with (first | (go_at_call 77; refine (is_any p g s a 0 _ h).mono ?_; rintro e w' ⟨rfl, rfl⟩; rw [HB.out]) | (go_at_call 124; refine (HOP.out _ h).mono ?_; rintro e w1 ⟨rfl, hq⟩; have HQ := Lib.hid hq; clear hq))
  refine wp_loop_rounds 1 ?_
  rw [rounds_succ]
  obtain ⟨i1, i2, i3⟩ := HQ.out
  have x5 : w1.cell? ⟨p, 5, none⟩ = some (.int .i64 s.pr) := by rw [cell_blk i1.st]; simp [flCells, Fl.step_pr]
  have x6 : w1.frozen? ⟨p, 5, none⟩ = false := free_blk i1.st _
  have p0 := h.ok.pr0
  have p1 := h.ok.pr1
  have hin' : s.progIn a ([] : List Int).length = true := by simp [Fl.progIn, HD.out, HB.out]
  have hkt : (s.opN ([] : List Int).length).toNat = 0 := by simp [HK.out]
  cases hg : s.goes with
  | true =>
    have fin : IsFl (w1.setCell ⟨p, 5, none⟩ (.int .i64 (min (s.pr + 1) 1099511627776))) p g (s.prog a []) ∧ Kept (fun x => x = p ∨ x = g) w (w1.setCell ⟨p, 5, none⟩ (.int .i64 (min (s.pr + 1) 1099511627776))) ∧
        (w1.setCell ⟨p, 5, none⟩ (.int .i64 (min (s.pr + 1) 1099511627776))).heap.size = w.heap.size := by
      have hprog : s.prog a [] = { s.step with b := s.b, pr := min (s.pr + 1) most } := by simp only [Fl.prog, hin', hkt, hg, upd_zero, if_true]
      obtain ⟨sp, hs⟩ := i1.row
      refine ⟨⟨?_, ⟨sp, ?_⟩, h.ne, h.ok.prog _ _⟩, (i2.mono (fun _ _ => .inl)).setCell (.inl (.inl rfl)) _, by rw [size_setCell]; exact i3⟩
      · rw [blk_setCell i1.st, hprog]; simp [flCells, Fl.step_b, most]
      · rw [hprog]; rw [Fl.step_b] at hs; exact blk_setCell_ne hs _ h.ne.symm
    have FIN := Lib.hid fin
    have HG := Lib.hid hg
    clear fin hkt hin' i1 i2 i3 HQ hg
    go_wp2
    go_ret
    rw [HG.out]
    exact ⟨rfl, FIN.out⟩
  | false =>
    have fin : IsFl w1 p g (s.prog a []) ∧ Kept (fun x => x = p ∨ x = g) w w1 ∧ w1.heap.size = w.heap.size := by
      have hprog : s.prog a [] = s.step := by
        simp only [Fl.prog, hin', hkt, hg, upd_zero, if_true]
        unfold Fl.step; split <;> rfl
      exact ⟨by rw [hprog]; exact i1, i2.mono (fun _ _ => .inl), i3⟩
    have FIN := Lib.hid fin
    have HG := Lib.hid hg
    clear fin hkt hin' i1 i2 i3 HQ hg
    go_wp2
    go_ret
    rw [HG.out]
    exact ⟨rfl, FIN.out⟩

/-- Program, whatever is programmed wherever. -/
theorem prog_any (p g : Nat) (s : Fl) (a : Int) (sa : Option Addr) (n c : Nat) (xs : List Int) (w : World) (h : IsFl w p g s) (hsrc : Src w sa n xs) (hel : elseW sa n p g) (hnc : n ≤ c) (hno : sa = none → n = 0 ∧ c = 0) :
    Calls Tryd.prog 94 #[.pointer (some ⟨p, 0, none⟩), .int .i64 a, .slice sa n c] w fun e w' =>
      e = .returned (.bool (s.progOk a n)) ∧ IsFl w' p g (s.prog a xs) ∧ Kept (fun x => x = p ∨ x = g) w w' ∧ w'.heap.size = w.heap.size := by
  cases hi : s.progIn a n with
  | false =>
    refine (prog_out p g s a sa n c w h hi).mono ?_
    rintro e w' ⟨rfl, rfl⟩
    have h1 : s.progOk a n = false := by simp [Fl.progOk, hi]
    have h2 : s.prog a xs = s := by simp [Fl.prog, hsrc.len, hi]
    rw [h1, h2]
    exact ⟨rfl, h, Kept.refl _ _, rfl⟩
  | true =>
    have h1 : s.progOk a n = s.goes := by simp [Fl.progOk, hi]
    have hd : s.dead = false := by cases hd : s.dead <;> simp_all [Fl.progIn]
    have hb : inB s.b.length a n = true := by simpa [Fl.progIn, hd] using hi
    obtain ⟨b1, b2, b3, b4⟩ := inB_iff.1 hb
    obtain ⟨a', rfl⟩ := Int.eq_ofNat_of_zero_le b1
    rw [h1]
    cases sa with
    | none =>
      obtain ⟨rfl, rfl⟩ := hno rfl
      obtain rfl : xs = [] := List.eq_nil_of_length_eq_zero hsrc.len
      exact prog_nil p g s a' w h hd (by omega)
    | some ad => exact prog_in p g s a' ad n c xs w h hsrc hel hnc hd (by omega)

end Go.Proofs.YtoljnogpegemjaaDoor
namespace Go.Proofs.YtoljnogpegemjaaDoor
open Go.RowKit

theorem erase_out (p g : Nat) (s : Fl) (k : Int) (w : World) (h : IsFl w p g s) (hi : s.eraseIn k = false) :
    Calls Tryd.prog 93 #[.pointer (some ⟨p, 0, none⟩), .int .i64 k] w fun e w' => e = .returned (.bool false) ∧ w = w' := by
  obtain ⟨-, -, -, c3, -, -⟩ := h.cs
  have hl := h.ok.len
  cases hd : s.dead with
  | true =>
    rw [hd] at c3
    clear hi hd
    go_enter Tryd.func93, Tryd.ntmps93
    go_wp2
    go_ret
    exact ⟨rfl, rfl⟩
  | false =>
    by_cases h0 : k < 0
    · rw [hd] at c3
      clear hi hd
      go_enter Tryd.func93, Tryd.ntmps93
      go_wp2
      go_ret
      exact ⟨rfl, rfl⟩
    · have h1 : ((s.b.length / 256 : Nat) : Int) ≤ k := by
        simp only [Fl.eraseIn, hd] at hi
        simp at hi
        omega
      rw [hd] at c3
      have h0' : 0 ≤ k := by omega
      clear hi hd h0
      go_enter Tryd.func93, Tryd.ntmps93
      go_wp2_with (go_at_call 73; refine (size_any p g s _ h).mono ?_; rintro e w' ⟨rfl, rfl⟩)
      go_ret
      exact ⟨rfl, rfl⟩

set_option maxHeartbeats 800000 in
theorem erase_in (p g : Nat) (s : Fl) (k : Nat) (w : World) (h : IsFl w p g s) (hd : s.dead = false) (hin : k < s.b.length / 256) :
    Calls Tryd.prog 93 #[.pointer (some ⟨p, 0, none⟩), .int .i64 k] w fun e w' =>
      e = .returned (.bool s.goes) ∧ IsFl w' p g (s.erase k) ∧ Kept (fun x => x = p ∨ x = g) w w' ∧ w'.heap.size = w.heap.size := by
  obtain ⟨-, -, -, c3, -, -⟩ := h.cs
  have hl := h.ok.len
  have hb : s.eraseIn k = true := by simp [Fl.eraseIn, hd]; omega
  obtain ⟨m, hk, hkn⟩ : ∃ m : Nat, s.opN 256 = (m : Int) ∧ m ≤ 256 := by
    refine ⟨(s.opN 256).toNat, ?_, ?_⟩ <;> (unfold Fl.opN; split <;> omega)
  have hop := fun w => op_any p g s 256 w
  rw [hk] at hop
  rw [hd] at c3
  have HB := Lib.hid hb
  have HK := Lib.hid hk
  have HOP := Lib.hid hop
  have hin2 : (k : Int) < ((s.b.length / 256 : Nat) : Int) := by omega
  have hfit : 256 * k + m ≤ s.b.length := by omega
  clear hb hd hk hop
  go_enter Tryd.func93, Tryd.ntmps93
  go_wp2_with (first | (go_at_call 73; refine (size_any p g s _ h).mono ?_; rintro e w' ⟨rfl, rfl⟩) | (go_at_call 124; refine (HOP.out _ h).mono ?_; rintro e w1 ⟨rfl, hq⟩; have HQ := Lib.hid hq; clear hq))
  go_loopw [31] (fun i wr => ∃ j : Nat, j ≤ m ∧ i = .int .i64 j ∧ Mid w wr p g s.step (upd s.b (256 * k) j (fun _ _ => 255))) (fun i _ => m - (intOf i).toNat)
  case atStart =>
    exact ⟨0, Nat.zero_le _, rfl, by rw [upd_zero, ← Fl.step_b]; exact Mid.start HQ.out.1 HQ.out.2.1 HQ.out.2.2⟩
  case round =>
    obtain ⟨j, hj, rfl, hm⟩ := hrel
    by_cases hlt : j < m
    · have x0 : wr.cell? ⟨p, 0, none⟩ = some (.slice (some ⟨g, 0, none⟩) s.b.length s.b.length) := by rw [cell_blk hm.st]; simp [flCells, Fl.step_b]
      have x1 : wr.cell? ⟨g, k * 256 + j, none⟩ = some (.int .u8 (s.b.getD (256 * k + j) 0)) := by
        rw [Nat.mul_comm k, hm.cell (256 * k + j) (by rw [Fl.step_b]; omega), upd_getD _ _ _ _ _ (by omega), if_neg (by omega)]
      have x2 : wr.frozen? ⟨g, k * 256 + j, none⟩ = false := hm.free _
      have HM := Lib.hid hm
      clear hm
      go_wp2
      go_roundw
      case rel =>
        refine ⟨j + 1, by omega, by go_num, ?_⟩
        rw [upd_succ _ _ _ _ (by omega)]
        have := HM.out.set h.ne (256 * k + j) (by rw [Fl.step_b]; omega) 255
        rw [Nat.mul_comm 256 k] at this ⊢
        exact this
      case measure => simp [intOf]; omega
    · obtain rfl : j = m := by omega
      have x5 : wr.cell? ⟨p, 4, none⟩ = some (.int .i64 s.er) := by rw [cell_blk hm.st]; simp [flCells, Fl.step_er]
      have x6 : wr.frozen? ⟨p, 4, none⟩ = false := free_blk hm.st _
      have p0 := h.ok.er0
      have p1 := h.ok.er1
      have hin' : s.eraseIn k = true := HB.out
      have hkt : (s.opN 256).toNat = j := by rw [HK.out]; rfl
      cases hg : s.goes with
      | true =>
        have fin : IsFl (wr.setCell ⟨p, 4, none⟩ (.int .i64 (min (s.er + 1) 1099511627776))) p g (s.erase k) ∧ Kept (fun x => x = p ∨ x = g) w (wr.setCell ⟨p, 4, none⟩ (.int .i64 (min (s.er + 1) 1099511627776))) ∧
            (wr.setCell ⟨p, 4, none⟩ (.int .i64 (min (s.er + 1) 1099511627776))).heap.size = w.heap.size := by
          have hprog : s.erase k = { s.step with b := upd s.b (256 * k) j (fun _ _ => 255), er := min (s.er + 1) most } := by simp [Fl.erase, hin', hkt, hg]
          obtain ⟨sp, hs⟩ := hm.row
          refine ⟨⟨?_, ⟨sp, ?_⟩, h.ne, h.ok.erase _⟩, hm.kept.setCell (.inl (.inl rfl)) _, by rw [size_setCell]; exact hm.size⟩
          · rw [blk_setCell hm.st, hprog]; simp [flCells, upd_length, Fl.step_b, most]
          · rw [hprog]; exact blk_setCell_ne hs _ h.ne.symm
        have FIN := Lib.hid fin
        have HG := Lib.hid hg
        clear fin hkt hin' hm hg
        go_wp2
        go_ret
        rw [HG.out]
        exact ⟨rfl, FIN.out⟩
      | false =>
        have fin : IsFl wr p g (s.erase k) ∧ Kept (fun x => x = p ∨ x = g) w wr ∧ wr.heap.size = w.heap.size := by
          have hprog : s.erase k = { s.step with b := upd s.b (256 * k) j (fun _ _ => 255), er := s.er } := by simp [Fl.erase, hin', hkt, hg]
          obtain ⟨sp, hs⟩ := hm.row
          refine ⟨⟨?_, ⟨sp, ?_⟩, h.ne, h.ok.erase _⟩, hm.kept, hm.size⟩
          · rw [hm.st, hprog]; simp [flCells, upd_length, Fl.step_b, Fl.step_er]
          · rw [hprog]; exact hs
        have FIN := Lib.hid fin
        have HG := Lib.hid hg
        clear fin hkt hin' hm hg
        go_wp2
        go_ret
        rw [HG.out]
        exact ⟨rfl, FIN.out⟩

theorem erase_any (p g : Nat) (s : Fl) (k : Int) (w : World) (h : IsFl w p g s) :
    Calls Tryd.prog 93 #[.pointer (some ⟨p, 0, none⟩), .int .i64 k] w fun e w' =>
      e = .returned (.bool (s.eraseOk k)) ∧ IsFl w' p g (s.erase k) ∧ Kept (fun x => x = p ∨ x = g) w w' ∧ w'.heap.size = w.heap.size := by
  cases hi : s.eraseIn k with
  | false =>
    refine (erase_out p g s k w h hi).mono ?_
    rintro e w' ⟨rfl, rfl⟩
    have h1 : s.eraseOk k = false := by simp [Fl.eraseOk, hi]
    have h2 : s.erase k = s := by simp [Fl.erase, hi]
    rw [h1, h2]
    exact ⟨rfl, h, Kept.refl _ _, rfl⟩
  | true =>
    have h1 : s.eraseOk k = s.goes := by simp [Fl.eraseOk, hi]
    rw [h1]
    simp only [Fl.eraseIn, Bool.and_eq_true, Bool.not_eq_true', decide_eq_true_eq] at hi
    obtain ⟨⟨hd, b1⟩, b2⟩ := hi
    obtain ⟨k', rfl⟩ := Int.eq_ofNat_of_zero_le b1
    exact erase_in p g s k' w h hd (by omega)

theorem poke_out (p g : Nat) (s : Fl) (a : Int) (sa : Option Addr) (n c : Nat) (w : World) (h : IsFl w p g s) (hi : inB s.b.length a n = false) :
    Calls Tryd.prog 26 #[.pointer (some ⟨p, 0, none⟩), .int .i64 a, .slice sa n c] w fun e w' => e = .returned (.bool false) ∧ w = w' := by
  have HB := Lib.hid hi
  clear hi
  go_enter Tryd.func26, Tryd.ntmps26
  go_wp2_with (go_at_call 77; refine (is_any p g s a n _ h).mono ?_; rintro e w' ⟨rfl, rfl⟩; rw [HB.out])
  go_ret
  exact ⟨rfl, rfl⟩

theorem poke_none (p g : Nat) (s : Fl) (a : Nat) (sa : Option Addr) (c : Nat) (w : World) (h : IsFl w p g s) (ha : a ≤ s.b.length) :
    Calls Tryd.prog 26 #[.pointer (some ⟨p, 0, none⟩), .int .i64 a, .slice sa 0 c] w fun e w' => e = .returned (.bool true) ∧ w = w' := by
  obtain ⟨c0, -, -, -, -, -⟩ := h.cs
  have hl := h.ok.len
  have hb : inB s.b.length a 0 = true := inB_iff.2 (by omega)
  have HB := Lib.hid hb
  clear hb
  by_cases hc : a = s.b.length
  · subst hc
    go_enter Tryd.func26, Tryd.ntmps26
    go_wp2_with (first | (go_at_call 77; refine (is_any p g s _ 0 _ h).mono ?_; rintro e w' ⟨rfl, rfl⟩; rw [HB.out]) | (refine wpList_copy_nothing rfl _ _ 24 24 rfl 5 Tryd.underlying24 size_u8 _ _ _ _ _ _ rfl rfl (by simp) ?_))
    go_ret
    exact ⟨rfl, rfl⟩
  · have hlt : a < s.b.length := by omega
    go_enter Tryd.func26, Tryd.ntmps26
    go_wp2_with (first | (go_at_call 77; refine (is_any p g s _ 0 _ h).mono ?_; rintro e w' ⟨rfl, rfl⟩; rw [HB.out]) | (refine wpList_copy_nothing rfl _ _ 24 24 rfl 5 Tryd.underlying24 size_u8 _ _ _ _ _ _ rfl rfl (by simp) ?_))
    go_ret
    exact ⟨rfl, rfl⟩

theorem row8_splice (b : List Int) (sp : List Value) (a : Nat) (xs : List Int) (h : a + xs.length ≤ b.length) :
    ((row8 b sp).toList.take a ++ ((xs.map (Value.int .u8)) ++ (row8 b sp).toList.drop (a + (xs.map (Value.int .u8)).length))).toArray = row8 (upd b a xs.length (fun i _ => xs.getD i 0)) sp := by
  have hu : upd b a xs.length (fun i _ => xs.getD i 0) = b.take a ++ (xs ++ b.drop (a + xs.length)) := by
    apply List.ext_getElem
    · simp [upd_length]; omega
    · intro i h1 h2
      rw [upd_length] at h1
      rw [upd_get _ _ _ _ _ h1]
      by_cases e : a ≤ i ∧ i < a + xs.length
      · rw [if_pos e, List.getElem_append_right (by simp; omega), List.getElem_append_left (by simp; omega)]
        simp [List.getD, Nat.min_eq_left (show a ≤ b.length by omega), show i - a < xs.length by omega]
      · rw [if_neg e]
        by_cases e2 : i < a
        · rw [List.getElem_append_left (by simp; omega)]; simp
        · rw [List.getElem_append_right (by simp; omega), List.getElem_append_right (by simp; omega)]
          simp [Nat.min_eq_left (show a ≤ b.length by omega)]
          congr 1; omega
  rw [hu]
  unfold row8
  simp only [List.map_append, List.map_take, List.map_drop, List.length_map]
  congr 1
  rw [List.take_append_of_le_length (by simp; omega), List.drop_append_of_le_length (by simp; omega)]
  simp [List.append_assoc]

theorem poke_some (p g : Nat) (s : Fl) (a : Nat) (ad : Addr) (n c : Nat) (xs : List Int) (w : World) (h : IsFl w p g s) (hsrc : Src w (some ad) n xs) (hn : 0 < n) (ha : a + n ≤ s.b.length) (hx : ∀ x ∈ xs, 0 ≤ x ∧ x ≤ 255) :
    Calls Tryd.prog 26 #[.pointer (some ⟨p, 0, none⟩), .int .i64 a, .slice (some ad) n c] w fun e w' =>
      e = .returned (.bool true) ∧ IsFl w' p g (s.poke a xs) ∧ Kept (fun x => x = p ∨ x = g) w w' ∧ w'.heap.size = w.heap.size := by
  obtain ⟨c0, -, -, -, -, -⟩ := h.cs
  have hl := h.ok.len
  have hb : inB s.b.length a n = true := inB_iff.2 (by omega)
  have HB := Lib.hid hb
  have hlt : a < s.b.length := by omega
  obtain ⟨sp, hs⟩ := h.row
  have hxl := hsrc.len
  have hcs : (xs.map (Value.int .u8)).length = Nat.min n (s.b.length - a) := by
    rw [List.length_map, hxl]; show n = min n (s.b.length - a); omega
  have hsr : ∀ j v, (xs.map (Value.int .u8))[j]? = some v → w.cell? (ad.add j) = some v := by
    intro j v hj
    rw [List.getElem?_map] at hj
    have hjl : j < xs.length := by
      rcases Nat.lt_or_ge j xs.length with q | q
      · exact q
      · rw [List.getElem?_eq_none q] at hj; cases hj
    obtain ⟨a', he, hc⟩ := hsrc.cell j (by omega)
    cases he
    rw [hc]
    simp [hjl] at hj
    simp [List.getD, hjl, hj]
  have hfit : a + (xs.map (Value.int .u8)).length ≤ (row8 s.b sp).size := by simp [row8]; omega
  have hone : ∀ v ∈ xs.map (Value.int .u8), v.oneCell' = true := by
    intro v hv
    obtain ⟨x, _, rfl⟩ := List.mem_map.1 hv
    rfl
  have fin : ∀ w', w' = w.setRow g ((row8 s.b sp).toList.take a ++ ((xs.map (Value.int .u8)) ++ (row8 s.b sp).toList.drop (a + (xs.map (Value.int .u8)).length))).toArray →
      IsFl w' p g (s.poke a xs) ∧ Kept (fun x => x = p ∨ x = g) w w' ∧ w'.heap.size = w.heap.size := by
    rintro w' rfl
    have hp : s.poke a xs = { s with b := upd s.b a xs.length (fun i _ => xs.getD i 0) } := by
      simp only [Fl.poke]
      rw [if_pos (by rw [hxl]; exact hb)]
      rfl
    have hz : ∀ R, (w.setRow g R).heap.size = w.heap.size := by intro R; simp [World.setRow]
    rw [row8_splice _ _ _ _ (by omega)]
    refine ⟨⟨?_, ⟨sp, ?_⟩, h.ne, h.ok.poke _ _ hx⟩, ⟨rfl, rfl, rfl, Nat.le_of_eq (hz _).symm, ?_⟩, hz _⟩
    · rw [setRow_other _ _ _ _ h.ne, h.st, hp]; simp [flCells, upd_length]
    · rw [setRow_heap w g _ _ 5 (0, 0) hs, hp]
    · intro k _ hk
      exact setRow_other _ _ _ _ (fun e => hk (.inr e))
  have FIN := Lib.hid fin
  have HS := Lib.hid hs
  have HCS := Lib.hid hcs
  have HSR := Lib.hid hsr
  have HONE := Lib.hid hone
  have HFIT := Lib.hid hfit
  clear hb fin hs hcs hsr hone hfit hxl
  go_enter Tryd.func26, Tryd.ntmps26
  go_wp2_with (first | (go_at_call 77; refine (is_any p g s _ n _ h).mono ?_; rintro e w' ⟨rfl, rfl⟩; rw [HB.out]) | (refine wpList_copy_own rfl _ _ 24 24 rfl 5 Tryd.underlying24 size_u8 g a _ _ ad _ _ rfl rfl (row8 s.b sp) 5 HS.out (xs.map (Value.int .u8)) HCS.out HSR.out HFIT.out HONE.out ?_; generalize hw' : w.setRow g _ = w2; have HW := Lib.hid hw'; clear hw'))
  go_ret
  exact ⟨rfl, FIN.out _ HW.out.symm⟩

/-- Poke, whatever is poked wherever. -/
theorem poke_any (p g : Nat) (s : Fl) (a : Int) (sa : Option Addr) (n c : Nat) (xs : List Int) (w : World) (h : IsFl w p g s) (hsrc : Src w sa n xs) (hx : ∀ x ∈ xs, 0 ≤ x ∧ x ≤ 255) :
    Calls Tryd.prog 26 #[.pointer (some ⟨p, 0, none⟩), .int .i64 a, .slice sa n c] w fun e w' =>
      e = .returned (.bool (s.pokeOk a n)) ∧ IsFl w' p g (s.poke a xs) ∧ Kept (fun x => x = p ∨ x = g) w w' ∧ w'.heap.size = w.heap.size := by
  cases hi : inB s.b.length a n with
  | false =>
    refine (poke_out p g s a sa n c w h hi).mono ?_
    rintro e w' ⟨rfl, rfl⟩
    have h1 : s.pokeOk a n = false := hi
    have h2 : s.poke a xs = s := by simp [Fl.poke, hsrc.len, hi]
    rw [h1, h2]
    exact ⟨rfl, h, Kept.refl _ _, rfl⟩
  | true =>
    have h1 : s.pokeOk a n = true := hi
    obtain ⟨b1, b2, b3, b4⟩ := inB_iff.1 hi
    obtain ⟨a', rfl⟩ := Int.eq_ofNat_of_zero_le b1
    rw [h1]
    by_cases hn : n = 0
    · subst hn
      obtain rfl : xs = [] := List.eq_nil_of_length_eq_zero hsrc.len
      refine (poke_none p g s a' sa c w h (by omega)).mono ?_
      rintro e w' ⟨rfl, rfl⟩
      have h2 : s.poke a' [] = s := by simp [Fl.poke, upd_zero]
      rw [h2]
      exact ⟨rfl, h, Kept.refl _ _, rfl⟩
    · obtain ⟨ad, rfl, -⟩ := hsrc.cell 0 (by omega)
      exact poke_some p g s a' ad n c xs w h hsrc (by omega) (by omega) hx

end Go.Proofs.YtoljnogpegemjaaDoor

namespace Go.Proofs.YtoljnogpegemjaaDoor
open Go.RowKit

theorem IsFl.src {w : World} {p g : Nat} {s : Fl} (h : IsFl w p g s) (a n : Nat) (hin : a + n ≤ s.b.length) (ad : Addr) (had : 0 < n → ad = ⟨g, a, none⟩) : Src w (some ad) n ((s.b.drop a).take n) := by
  refine ⟨by simp; omega, fun i hi => ⟨ad, rfl, ?_⟩⟩
  obtain ⟨sp, hs⟩ := h.row
  rw [had (by omega)]
  have e : (⟨g, a, none⟩ : Addr).add i = ⟨g, a + i, none⟩ := by unfold Addr.add; split <;> simp_all
  rw [e, cell_blk hs, row8_get _ _ _ (by omega)]
  congr 2
  simp [List.getD, hi]

theorem read_out (p g : Nat) (s : Fl) (a n : Int) (w : World) (h : IsFl w p g s) (hi : s.readOk a n = false) :
    Calls Tryd.prog 50 #[.pointer (some ⟨p, 0, none⟩), .int .i64 a, .int .i64 n] w fun e w' => e = .returned (.tuple #[.slice none 0 0, .bool false]) ∧ w = w' := by
  obtain ⟨-, -, -, c3, -, -⟩ := h.cs
  cases hd : s.dead with
  | true =>
    rw [hd] at c3
    clear hi hd
    go_enter Tryd.func50, Tryd.ntmps50
    go_wp2
    go_ret2
    exact ⟨rfl, rfl⟩
  | false =>
    have hb : inB s.b.length a n = false := by simpa [Fl.readOk, hd] using hi
    rw [hd] at c3
    have HB := Lib.hid hb
    clear hi hd hb
    go_enter Tryd.func50, Tryd.ntmps50
    go_wp2_with (go_at_call 77; refine (is_any p g s a n _ h).mono ?_; rintro e w' ⟨rfl, rfl⟩; rw [HB.out])
    go_ret2
    exact ⟨rfl, rfl⟩

theorem read_zero (p g : Nat) (s : Fl) (w : World) (h : IsFl w p g s) (hd : s.dead = false) :
    Calls Tryd.prog 50 #[.pointer (some ⟨p, 0, none⟩), .int .i64 s.b.length, .int .i64 0] w fun e w' =>
      ∃ v, e = .returned (.tuple #[v, .bool true]) ∧ Owns w' w.heap.size v [] ∧ Below w.heap.size w w' := by
  obtain ⟨c0, -, -, c3, -, -⟩ := h.cs
  have hl := h.ok.len
  have hb : inB s.b.length s.b.length 0 = true := inB_iff.2 (by omega)
  rw [hd] at c3
  have HB := Lib.hid hb
  clear hb hd
  have hsrc : Src w (some ⟨g, 0, none⟩) 0 [] := ⟨rfl, fun i hi => absurd hi (by omega)⟩
  have hcl := fun c => clone_any ⟨g, 0, none⟩ 0 c _ w hsrc (by omega)
  have HC := Lib.hid hcl
  clear hcl hsrc
  go_enter Tryd.func50, Tryd.ntmps50
  go_wp2_with (first | (go_at_call 77; refine (is_any p g s _ _ _ h).mono ?_; rintro e w' ⟨rfl, rfl⟩; rw [HB.out]) | (go_at_call 82; refine (HC.out _).mono ?_; rintro e w' ⟨v, rfl, ho, hbl⟩))
  go_ret2
  exact ⟨v, rfl, ho, hbl⟩

theorem read_in (p g : Nat) (s : Fl) (a n : Nat) (w : World) (h : IsFl w p g s) (hd : s.dead = false) (hin : a + n ≤ s.b.length) :
    Calls Tryd.prog 50 #[.pointer (some ⟨p, 0, none⟩), .int .i64 a, .int .i64 n] w fun e w' =>
      ∃ v, e = .returned (.tuple #[v, .bool true]) ∧ Owns w' w.heap.size v (s.read a n) ∧ Below w.heap.size w w' := by
  obtain ⟨c0, -, -, c3, -, -⟩ := h.cs
  have hl := h.ok.len
  have hb : inB s.b.length a n = true := inB_iff.2 (by omega)
  rw [hd] at c3
  have HB := Lib.hid hb
  have HD := Lib.hid hd
  clear hb hd
  by_cases hc : a = s.b.length
  · have hn : n = 0 := by omega
    subst hn
    subst hc
    have hr : s.read s.b.length 0 = [] := by simp [Fl.read]
    have := read_zero p g s w h HD.out
    rw [← hr] at this
    exact this
  · have hlt : a < s.b.length := by omega
    have hsrc := h.src a n hin ⟨g, a, none⟩ (fun _ => rfl)
    have hcl := fun c => clone_any ⟨g, a, none⟩ n c _ w hsrc (by omega)
    have HC := Lib.hid hcl
    have hr : (s.b.drop a).take n = s.read a n := rfl
    rw [hr] at HC
    clear hcl hsrc hr
    go_enter Tryd.func50, Tryd.ntmps50
    go_wp2_with (first | (go_at_call 77; refine (is_any p g s _ _ _ h).mono ?_; rintro e w' ⟨rfl, rfl⟩; rw [HB.out]) | (go_at_call 82; refine (HC.out _).mono ?_; rintro e w' ⟨v, rfl, ho, hbl⟩))
    go_ret2
    exact ⟨v, rfl, ho, hbl⟩

theorem read_any (p g : Nat) (s : Fl) (a n : Int) (w : World) (h : IsFl w p g s) :
    Calls Tryd.prog 50 #[.pointer (some ⟨p, 0, none⟩), .int .i64 a, .int .i64 n] w fun e w' =>
      ∃ v, e = .returned (.tuple #[v, .bool (s.readOk a n)]) ∧ (s.readOk a n = true → Owns w' w.heap.size v (s.read a n)) ∧ (s.readOk a n = false → v = .slice none 0 0) ∧ Below w.heap.size w w' := by
  cases hi : s.readOk a n with
  | false =>
    refine (read_out p g s a n w h hi).mono ?_
    rintro e w' ⟨rfl, rfl⟩
    exact ⟨_, rfl, (fun h => by cases h), fun _ => rfl, Below.refl _ _⟩
  | true =>
    have hd : s.dead = false := by cases hd : s.dead <;> simp_all [Fl.readOk]
    have hb : inB s.b.length a n = true := by simpa [Fl.readOk, hd] using hi
    obtain ⟨b1, b2, b3, b4⟩ := inB_iff.1 hb
    obtain ⟨a', rfl⟩ := Int.eq_ofNat_of_zero_le b1
    obtain ⟨n', rfl⟩ := Int.eq_ofNat_of_zero_le b2
    refine (read_in p g s a' n' w h hd (by omega)).mono ?_
    rintro e w' ⟨v, rfl, ho, hb⟩
    exact ⟨v, rfl, fun _ => ho, (fun h => by cases h), hb⟩

theorem image_any (p g : Nat) (s : Fl) (w : World) (h : IsFl w p g s) :
    Calls Tryd.prog 30 #[.pointer (some ⟨p, 0, none⟩)] w fun e w' => ∃ v, e = .returned v ∧ Owns w' w.heap.size v s.b ∧ Below w.heap.size w w' := by
  obtain ⟨c0, -, -, -, -, -⟩ := h.cs
  have hl := h.ok.len
  have hsrc := h.src 0 s.b.length (by omega) ⟨g, 0, none⟩ (fun _ => rfl)
  simp only [List.drop_zero, List.take_length] at hsrc
  have hcl := fun c => clone_any ⟨g, 0, none⟩ _ c _ w hsrc (by omega)
  have HC := Lib.hid hcl
  clear hcl hsrc
  go_enter Tryd.func30, Tryd.ntmps30
  go_wp2_with (go_at_call 82; refine (HC.out _).mono ?_; rintro e w' ⟨v, rfl, ho, hbl⟩)
  go_ret
  exact ⟨v, rfl, ho, hbl⟩

end Go.Proofs.YtoljnogpegemjaaDoor
namespace Go.Proofs.YtoljnogpegemjaaDoor
open Go.RowKit Go.Lib

namespace Mul64
theorem maskN (a : Nat) (ha : a < 18446744073709551616) : bits .and .u64 (a : Int) 4294967295 = ((a % 4294967296 : Nat) : Int) := by
  have h := bits_and_u64_nat a 4294967295 ha (by omega)
  have e : a &&& 4294967295 = a % 4294967296 := Nat.and_two_pow_sub_one_eq_mod a 32
  rw [e] at h
  exact h
theorem divN (a : Nat) : (a : Int) / 4294967296 = ((a / 4294967296 : Nat) : Int) := by omega
theorem mulN (a b : Nat) : (a : Int) * (b : Int) = ((a * b : Nat) : Int) := (Int.natCast_mul a b).symm
theorem addN (a b : Nat) : (a : Int) + (b : Int) = ((a + b : Nat) : Int) := (Int.natCast_add a b).symm
theorem wrapN (a : Nat) (ha : a < 18446744073709551616) : IntKind.u64.wrap (a : Int) = (a : Int) := by rw [IntKind.wrap_u64]; omega
theorem wrapM (a : Nat) : IntKind.u64.wrap (a : Int) = ((a % 18446744073709551616 : Nat) : Int) := by rw [IntKind.wrap_u64]; omega
end Mul64

set_option maxHeartbeats 1000000 in
theorem bits_Mul64 (x y : Nat) (hx : x < 18446744073709551616) (hy : y < 18446744073709551616) (w : World) :
    Calls Tryd.prog 147 #[.int .u64 x, .int .u64 y] w fun e w' => e = .returned (.tuple #[.int .u64 ((x * y / 18446744073709551616 : Nat) : Int), .int .u64 ((x * y % 18446744073709551616 : Nat) : Int)]) ∧ w = w' := by
  obtain ⟨bd, bt, bw, hhi⟩ := Lib.mul64_hi x y hx hy
  have ba := Lib.half_mul_le (a := x / 4294967296) (b := y / 4294967296) (by omega) (by omega)
  have bb := Lib.half_mul_le (a := x / 4294967296) (b := y % 4294967296) (by omega) (by omega)
  have bc := Lib.half_mul_le (a := x % 4294967296) (b := y / 4294967296) (by omega) (by omega)
  have ba' : x / 4294967296 * (y / 4294967296) < 18446744073709551616 := by omega
  have bb' : x / 4294967296 * (y % 4294967296) < 18446744073709551616 := by omega
  have bc' : x % 4294967296 * (y / 4294967296) < 18446744073709551616 := by omega
  have bh1 : x / 4294967296 * (y / 4294967296) + (x / 4294967296 * (y % 4294967296) + x % 4294967296 * (y % 4294967296) / 4294967296) / 4294967296 < 18446744073709551616 := by omega
  have bh : x / 4294967296 * (y / 4294967296) + (x / 4294967296 * (y % 4294967296) + x % 4294967296 * (y % 4294967296) / 4294967296) / 4294967296 + ((x / 4294967296 * (y % 4294967296) + x % 4294967296 * (y % 4294967296) / 4294967296) % 4294967296 + x % 4294967296 * (y / 4294967296)) / 4294967296 < 18446744073709551616 := by omega
  go_enter Tryd.func147, Tryd.ntmps147
  go_wp2
  simp only [Mul64.maskN x hx, Mul64.maskN y hy, Mul64.divN, Mul64.mulN, Mul64.addN, Mul64.wrapN _ bd, Mul64.wrapN _ bb', Mul64.wrapN _ bt, Mul64.maskN _ bt, Mul64.wrapN _ bc', Mul64.wrapN _ bw, Mul64.wrapN _ ba', Mul64.wrapN _ bh1, Mul64.wrapN _ bh, Mul64.wrapM (x * y)]
  rw [hhi]
  go_ret2
  exact ⟨rfl, rfl⟩

theorem bits_Mul (x y : Nat) (hx : x < 18446744073709551616) (hy : y < 18446744073709551616) (w : World) :
    Calls Tryd.prog 122 #[.int .u64 x, .int .u64 y] w fun e w' => e = .returned (.tuple #[.int .u64 ((x * y / 18446744073709551616 : Nat) : Int), .int .u64 ((x * y % 18446744073709551616 : Nat) : Int)]) ∧ w = w' := by
  have c64 := fun w => bits_Mul64 x y hx hy w
  have H := Lib.hid c64
  clear c64
  go_enter Tryd.func122, Tryd.ntmps122
  go_wp2_with (go_at_call 147; refine (H.out _).mono ?_; rintro e w' ⟨rfl, rfl⟩)
  go_ret2
  exact ⟨rfl, rfl⟩

end Go.Proofs.YtoljnogpegemjaaDoor
namespace Go.Proofs.YtoljnogpegemjaaDoor
open Go.RowKit

theorem mnz_call (n : Nat) (hn : n ≤ 262144) (w : World) : ∃ cs : Array Value,
    (callFunc 123 #[.int .i64 n]).run Tryd.prog w = .ok (.value (.slice (some ⟨w.heap.size, 0, none⟩) n cs.size)) ((w.alloc (.cells cs 5)).drewN 2) ∧ n ≤ cs.size ∧ cs.size ≤ maxLen := by
  obtain ⟨cs, h, h1, h2⟩ := Lib.run_makeNoZero (P := Tryd.prog) w #[3] 24 5 Tryd.underlying24 n (by omega)
  refine ⟨cs, ?_, h1, h2 (by unfold maxLen; omega)⟩
  rw [run_callFunc_extern Tryd.func123 (by kernel_rfl) (by kernel_rfl) (by kernel_rfl) (e := Extern.BytealgMakeNoZero.makeNoZero #[3] #[24]) (by kernel_rfl), h]
  rfl

theorem repeat_zero (x c : Nat) (w : World) :
    Calls Tryd.prog 91 #[.slice (some ⟨x, 0, none⟩) 1 c, .int .i64 0] w fun e w' =>
      e = .returned (.slice (some ⟨w.heap.size, 0, none⟩) 0 0) ∧ w.alloc (.cells #[] 5) = w' := by
  go_enter Tryd.func91, Tryd.ntmps91
  go_wp2
  go_ret
  exact ⟨rfl, rfl⟩

/-- The buffer while it is filled: its first j places hold the byte. -/
structure FlFill (w0 w : World) (g L j : Nat) (v : Int) : Prop where
  row : ∃ cur : List Value, w.heap[g]? = some (.cells cur.toArray 5 (0, 0)) ∧ cur.length = L ∧ cur.take j = List.replicate j (.int .u8 v)
  below : Below w0.heap.size w0 w

theorem fill_splice (cur : List Value) (j k : Nat) (x : Value) (h : cur.take j = List.replicate j x) :
    (splice cur j (List.replicate k x)).take (j + k) = List.replicate (j + k) x := by
  unfold splice
  rw [h, ← List.append_assoc, List.take_append_of_le_length (by simp), List.take_of_length_le (by simp), List.replicate_append_replicate]

theorem FlFill.done {w0 w : World} {g L n : Nat} {v : Int} (h : FlFill w0 w g L n v) : ∃ sp, w.heap[g]? = some (.cells (row8 (List.replicate n v) sp) 5 (0, 0)) := by
  obtain ⟨cur, h1, h2, h3⟩ := h.row
  refine ⟨cur.drop n, ?_⟩
  rw [h1]
  unfold row8
  rw [List.map_replicate, ← h3, List.take_append_drop]

theorem FlFill.cell {w0 w : World} {g L j : Nat} {v : Int} (h : FlFill w0 w g L j v) (i : Nat) (hi : i < j) : w.cell? ⟨g, i, none⟩ = some (.int .u8 v) := by
  obtain ⟨cur, h1, h2, h3⟩ := h.row
  rw [cell_blk h1]
  have : (cur.take j)[i]? = some (.int .u8 v) := by rw [h3]; simp [hi]
  rw [List.getElem?_take_of_lt hi] at this
  simpa using this

theorem FlFill.first (w : World) (cs : Array Value) (v : Int) (h : 1 ≤ cs.size) :
    FlFill w (((w.alloc (.cells cs 5)).drewN 2).setRow w.heap.size (cs.toList.take 0 ++ ([Value.int .u8 v] ++ cs.toList.drop (0 + [Value.int .u8 v].length))).toArray) w.heap.size cs.size 1 v := by
  refine ⟨⟨_, setRow_heap _ _ cs _ 5 (0, 0) (blk_new w _), ?_, ?_⟩, ?_⟩
  · simp; omega
  · simp
  · exact below_setRow (RowKit.Below.alloc (Below.refl _ w) (Nat.le_refl _) _ |> fun h => ⟨h.os, h.tape, h.output, h.size, h.block⟩) (Nat.le_refl _) _

set_option maxRecDepth 100000 in
set_option maxHeartbeats 1000000 in
theorem repeat_small (x c n : Nat) (v : Int) (w : World) (hn : n ≤ 262144) (h0 : 0 < n) (hb : n ≤ 8192) (hx : w.cell? ⟨x, 0, none⟩ = some (.int .u8 v)) (_hc : 1 ≤ c) :
    Calls Tryd.prog 91 #[.slice (some ⟨x, 0, none⟩) 1 c, .int .i64 n] w fun e w' =>
      e = .returned (.slice (some ⟨w.heap.size, 0, none⟩) n n) ∧ ∃ L, FlFill w w' w.heap.size L n v := by
  obtain ⟨cs, hm, hcs, hcm⟩ := mnz_call n hn w
  have hmul := fun w => bits_Mul 1 n (by omega) (by omega) w
  have e1 : 1 * n / 18446744073709551616 = 0 := by omega
  have e2 : 1 * n % 18446744073709551616 = n := by omega
  rw [e1, e2] at hmul
  have HM := Lib.hid hmul
  have hne : ((n : Int) == 0) = false := by simp; omega
  have hxl := blk_lt (show w.heap[x]? = some (w.heap[x]'(World.block_lt_of_cell? w _ hx)) from Array.getElem?_eq_getElem _)
  have hx2 : ∀ j u, [Value.int .u8 v][j]? = some u → ((w.alloc (.cells cs 5)).drewN 2).cell? ((⟨x, 0, none⟩ : Addr).add j) = some u := by
    intro j u hj
    have hj0 : j = 0 := by
      rcases j with _ | j
      · rfl
      · simp at hj
    subst hj0
    simp at hj
    subst hj
    exact ((Kept.refl (fun _ => False) w).alloc _).cellX hx id
  have HX2 := Lib.hid hx2
  have HF := Lib.hid (FlFill.first w cs v (by omega))
  clear hmul e1 e2 hx hx2
  go_enter Tryd.func91, Tryd.ntmps91
  go_wp2_with (first | (go_at_call 122; refine (HM.out _).mono ?_; rintro e w' ⟨rfl, rfl⟩) | ((with_reducible show wpList _ _ _ (Oper.mk (some 60) _ _ _ _ _ :: _) _ _); refine wpList_copy_own rfl _ _ 24 24 rfl 5 Tryd.underlying24 size_u8 w.heap.size 0 _ _ ⟨x, 0, none⟩ _ _ rfl rfl cs 5 (blk_new w _) [.int .u8 v] (show 1 = min 1 n by omega) HX2.out (by simp; omega) (by simp [Value.oneCell']) ?_; generalize hw' : World.setRow _ _ _ = w2 at HF ⊢; have HW := Lib.hid hw'; clear hw'))
  go_loopw [10] (fun bp wr => ∃ j : Nat, 1 ≤ j ∧ j ≤ n ∧ bp = .int .i64 j ∧ FlFill w wr w.heap.size cs.size j v) (fun bp _ => n - (intOf bp).toNat)
  case atStart => exact ⟨1, by omega, by omega, rfl, HF.out⟩
  case round =>
    obtain ⟨j, hj1, hj, rfl, hf⟩ := hrel
    by_cases hlt : j < n
    · have mk : ∀ k : Nat, k ≤ j → j + k ≤ n → ∀ i u, (List.replicate k (Value.int .u8 v))[i]? = some u → wr.cell? ((⟨w.heap.size, 0, none⟩ : Addr).add i) = some u := by
        intro k hk _ i u hu
        have hik : i < k := by
          rcases Nat.lt_or_ge i k with q | q
          · exact q
          · rw [List.getElem?_eq_none (by simpa using q)] at hu; cases hu
        have e : (⟨w.heap.size, 0, none⟩ : Addr).add i = ⟨w.heap.size, i, none⟩ := by unfold Addr.add; split <;> simp_all
        rw [e, hf.cell i (by omega), ← hu]
        simp [hik]
      have MK := Lib.hid mk
      obtain ⟨cur, r1, r2, r3⟩ := hf.row
      have hB := hf.below
      have R1 := Lib.hid r1
      have R2 := Lib.hid r2
      have R3 := Lib.hid r3
      have HBB := Lib.hid hB
      clear mk r1 r2 r3 hB hf
      have hmin : min (j : Int) (n : Int) = (j : Int) := by omega
      obtain ⟨m, hm1, hm2, hm3⟩ : ∃ m : Nat, m = Nat.min j (n - j) ∧ 1 ≤ m ∧ j + m ≤ n := ⟨_, rfl, by show 1 ≤ min j (n - j); omega, by show j + min j (n - j) ≤ n; omega⟩
      have hmk : m ≤ j := by rw [hm1]; exact Nat.min_le_left _ _
      have HM1 := Lib.hid hm1
      clear hm1
      have hnj : ¬ n = j := by omega
      have hwr : IntKind.i64.wrap ((j : Int) + (m : Int)) = (j : Int) + (m : Int) := IntWalk.i64_in _ (by omega)
      have hb1 : (n : Int) ≤ (n : Int) := by omega
      go_wp2
      go_region_law (refine step_copy_splice rfl (.tmp 70) (.tmp 73) 24 24 rfl 5 Tryd.underlying24 size_u8 (some ⟨w.heap.size, j, none⟩) (some ⟨w.heap.size, 0, none⟩) (n - j) (n - j) j n ?ch1 ?ch2 w.heap.size j cur 5 R1.out (List.replicate m (.int .u8 v)) (by rw [List.length_replicate]; exact HM1.out) (fun _ => ⟨rfl, _, rfl, MK.out m (by omega) hm3⟩) (by rw [List.length_replicate, R2.out]; omega) (by intro u hu; rw [List.eq_of_mem_replicate hu]; rfl) w.heap.size w HBB.out.drew (Nat.le_refl _) ?_; (case ch1 => go_simp); (case ch2 => go_simp); intro w4 hg4 hb4)
      have HG4 := Lib.hid hg4
      have HB4 := Lib.hid hb4
      clear hg4 hb4
      go_wp2
      go_roundw
      case rel => (repeat apply Exists.intro); exact ⟨⟨j + m, by omega, by omega, by go_num, ⟨_, HG4.out.out, (length_splice _ _ _ (by rw [List.length_replicate, R2.out]; omega)).trans R2.out, fill_splice _ _ _ _ R3.out⟩, HB4.out⟩, rfl⟩
      case measure => simp [intOf, Act.put]; omega
    · obtain rfl : j = n := by omega
      have HF2 := Lib.hid hf
      clear hf
      go_wp2
      go_ret
      exact ⟨rfl, _, HF2.out⟩

set_option maxRecDepth 100000 in
set_option maxHeartbeats 1000000 in
theorem repeat_big (x c n : Nat) (v : Int) (w : World) (hn : n ≤ 262144) (h0 : 0 < n) (hb : 8192 < n) (hx : w.cell? ⟨x, 0, none⟩ = some (.int .u8 v)) (_hc : 1 ≤ c) :
    Calls Tryd.prog 91 #[.slice (some ⟨x, 0, none⟩) 1 c, .int .i64 n] w fun e w' =>
      e = .returned (.slice (some ⟨w.heap.size, 0, none⟩) n n) ∧ ∃ L, FlFill w w' w.heap.size L n v := by
  obtain ⟨cs, hm, hcs, hcm⟩ := mnz_call n hn w
  have hmul := fun w => bits_Mul 1 n (by omega) (by omega) w
  have e1 : 1 * n / 18446744073709551616 = 0 := by omega
  have e2 : 1 * n % 18446744073709551616 = n := by omega
  rw [e1, e2] at hmul
  have HM := Lib.hid hmul
  have hne : ((n : Int) == 0) = false := by simp; omega
  have hxl := blk_lt (show w.heap[x]? = some (w.heap[x]'(World.block_lt_of_cell? w _ hx)) from Array.getElem?_eq_getElem _)
  have hx2 : ∀ j u, [Value.int .u8 v][j]? = some u → ((w.alloc (.cells cs 5)).drewN 2).cell? ((⟨x, 0, none⟩ : Addr).add j) = some u := by
    intro j u hj
    have hj0 : j = 0 := by
      rcases j with _ | j
      · rfl
      · simp at hj
    subst hj0
    simp at hj
    subst hj
    exact ((Kept.refl (fun _ => False) w).alloc _).cellX hx id
  have HX2 := Lib.hid hx2
  have HF := Lib.hid (FlFill.first w cs v (by omega))
  clear hmul e1 e2 hx hx2
  go_enter Tryd.func91, Tryd.ntmps91
  go_wp2_with (first | (go_at_call 122; refine (HM.out _).mono ?_; rintro e w' ⟨rfl, rfl⟩) | ((with_reducible show wpList _ _ _ (Oper.mk (some 60) _ _ _ _ _ :: _) _ _); refine wpList_copy_own rfl _ _ 24 24 rfl 5 Tryd.underlying24 size_u8 w.heap.size 0 _ _ ⟨x, 0, none⟩ _ _ rfl rfl cs 5 (blk_new w _) [.int .u8 v] (show 1 = min 1 n by omega) HX2.out (by simp; omega) (by simp [Value.oneCell']) ?_; generalize hw' : World.setRow _ _ _ = w2 at HF ⊢; have HW := Lib.hid hw'; clear hw'))
  go_loopw [10] (fun bp wr => ∃ j : Nat, 1 ≤ j ∧ j ≤ n ∧ bp = .int .i64 j ∧ FlFill w wr w.heap.size cs.size j v) (fun bp _ => n - (intOf bp).toNat)
  case atStart => exact ⟨1, by omega, by omega, rfl, HF.out⟩
  case round =>
    obtain ⟨j, hj1, hj, rfl, hf⟩ := hrel
    by_cases hlt : j < n
    · have mk : ∀ k : Nat, k ≤ j → j + k ≤ n → ∀ i u, (List.replicate k (Value.int .u8 v))[i]? = some u → wr.cell? ((⟨w.heap.size, 0, none⟩ : Addr).add i) = some u := by
        intro k hk _ i u hu
        have hik : i < k := by
          rcases Nat.lt_or_ge i k with q | q
          · exact q
          · rw [List.getElem?_eq_none (by simpa using q)] at hu; cases hu
        have e : (⟨w.heap.size, 0, none⟩ : Addr).add i = ⟨w.heap.size, i, none⟩ := by unfold Addr.add; split <;> simp_all
        rw [e, hf.cell i (by omega), ← hu]
        simp [hik]
      have MK := Lib.hid mk
      obtain ⟨cur, r1, r2, r3⟩ := hf.row
      have hB := hf.below
      have R1 := Lib.hid r1
      have R2 := Lib.hid r2
      have R3 := Lib.hid r3
      have HBB := Lib.hid hB
      clear mk r1 r2 r3 hB hf
      by_cases hjm : j ≤ 8192
      · have hmin : min (j : Int) 8192 = (j : Int) := by omega
        obtain ⟨m, hm1, hm2, hm3⟩ : ∃ m : Nat, m = Nat.min j (n - j) ∧ 1 ≤ m ∧ j + m ≤ n := ⟨_, rfl, by show 1 ≤ min j (n - j); omega, by show j + min j (n - j) ≤ n; omega⟩
        have hmk : m ≤ j := by rw [hm1]; exact Nat.min_le_left _ _
        have HM1 := Lib.hid hm1
        clear hm1
        have hnj : ¬ n = j := by omega
        have hwr : IntKind.i64.wrap ((j : Int) + (m : Int)) = (j : Int) + (m : Int) := IntWalk.i64_in _ (by omega)
        have hb1 : 8192 ≤ (n : Int) := by omega
        go_wp2
        go_region_law (refine step_copy_splice rfl (.tmp 70) (.tmp 73) 24 24 rfl 5 Tryd.underlying24 size_u8 (some ⟨w.heap.size, j, none⟩) (some ⟨w.heap.size, 0, none⟩) (n - j) (n - j) j n ?ah1 ?ah2 w.heap.size j cur 5 R1.out (List.replicate m (.int .u8 v)) (by rw [List.length_replicate]; exact HM1.out) (fun _ => ⟨rfl, _, rfl, MK.out m (by omega) hm3⟩) (by rw [List.length_replicate, R2.out]; omega) (by intro u hu; rw [List.eq_of_mem_replicate hu]; rfl) w.heap.size w HBB.out.drew (Nat.le_refl _) ?_; (case ah1 => go_simp); (case ah2 => go_simp); intro w4 hg4 hb4)
        have HG4 := Lib.hid hg4
        have HB4 := Lib.hid hb4
        clear hg4 hb4
        go_wp2
        go_roundw
        case rel => (repeat apply Exists.intro); exact ⟨⟨j + m, by omega, by omega, by go_num, ⟨_, HG4.out.out, (length_splice _ _ _ (by rw [List.length_replicate, R2.out]; omega)).trans R2.out, fill_splice _ _ _ _ R3.out⟩, HB4.out⟩, rfl⟩
        case measure => simp [intOf, Act.put]; omega
      · have hmin : min (j : Int) 8192 = 8192 := by omega
        obtain ⟨m, hm1, hm2, hm3⟩ : ∃ m : Nat, m = Nat.min 8192 (n - j) ∧ 1 ≤ m ∧ j + m ≤ n := ⟨_, rfl, by show 1 ≤ min 8192 (n - j); omega, by show j + min 8192 (n - j) ≤ n; omega⟩
        have hmk : m ≤ 8192 := by rw [hm1]; exact Nat.min_le_left _ _
        have HM1 := Lib.hid hm1
        clear hm1
        have hnj : ¬ n = j := by omega
        have hwr : IntKind.i64.wrap ((j : Int) + (m : Int)) = (j : Int) + (m : Int) := IntWalk.i64_in _ (by omega)
        have hb1 : 8192 ≤ (n : Int) := by omega
        go_wp2
        go_region_law (refine step_copy_splice rfl (.tmp 70) (.tmp 73) 24 24 rfl 5 Tryd.underlying24 size_u8 (some ⟨w.heap.size, j, none⟩) (some ⟨w.heap.size, 0, none⟩) (n - j) (n - j) 8192 n ?bh1 ?bh2 w.heap.size j cur 5 R1.out (List.replicate m (.int .u8 v)) (by rw [List.length_replicate]; exact HM1.out) (fun _ => ⟨rfl, _, rfl, MK.out m (by omega) hm3⟩) (by rw [List.length_replicate, R2.out]; omega) (by intro u hu; rw [List.eq_of_mem_replicate hu]; rfl) w.heap.size w HBB.out.drew (Nat.le_refl _) ?_; (case bh1 => go_simp); (case bh2 => go_simp); intro w4 hg4 hb4)
        have HG4 := Lib.hid hg4
        have HB4 := Lib.hid hb4
        clear hg4 hb4
        go_wp2
        go_roundw
        case rel => (repeat apply Exists.intro); exact ⟨⟨j + m, by omega, by omega, by go_num, ⟨_, HG4.out.out, (length_splice _ _ _ (by rw [List.length_replicate, R2.out]; omega)).trans R2.out, fill_splice _ _ _ _ R3.out⟩, HB4.out⟩, rfl⟩
        case measure => simp [intOf, Act.put]; omega
    · obtain rfl : j = n := by omega
      have HF2 := Lib.hid hf
      clear hf
      go_wp2
      go_ret
      exact ⟨rfl, _, HF2.out⟩

end Go.Proofs.YtoljnogpegemjaaDoor
namespace Go.Proofs.YtoljnogpegemjaaDoor
open Go.RowKit

theorem repeat_all (x c n : Nat) (v : Int) (w : World) (hn : n ≤ 262144) (hx : w.cell? ⟨x, 0, none⟩ = some (.int .u8 v)) (hc : 1 ≤ c) :
    Calls Tryd.prog 91 #[.slice (some ⟨x, 0, none⟩) 1 c, .int .i64 n] w fun e w' =>
      e = .returned (.slice (some ⟨w.heap.size, 0, none⟩) n n) ∧ (∃ sp, w'.heap[w.heap.size]? = some (.cells (row8 (List.replicate n v) sp) 5 (0, 0))) ∧ Below w.heap.size w w' := by
  by_cases h0 : n = 0
  · subst h0
    refine (repeat_zero x c w).mono ?_
    rintro e w' ⟨rfl, rfl⟩
    exact ⟨rfl, ⟨[], blk_new w _⟩, (Below.refl _ w).alloc (Nat.le_refl _) _⟩
  · by_cases hb : n ≤ 8192
    · refine (repeat_small x c n v w hn (by omega) hb hx hc).mono ?_
      rintro e w' ⟨rfl, L, hf⟩
      exact ⟨rfl, hf.done, hf.below⟩
    · refine (repeat_big x c n v w hn (by omega) (by omega) hx hc).mono ?_
      rintro e w' ⟨rfl, L, hf⟩
      exact ⟨rfl, hf.done, hf.below⟩

theorem new_any (n : Int) (w : World) :
    Calls Tryd.prog 43 #[.int .i64 n] w fun e w' =>
      ∃ p g, e = .returned (.pointer (some ⟨p, 0, none⟩)) ∧ IsFl w' p g (Fl.new n) ∧ w.heap.size ≤ p ∧ w.heap.size ≤ g ∧ Below w.heap.size w w' := by
  obtain ⟨k, hk, hk2⟩ : ∃ k : Nat, min (max 0 n) 1024 = (k : Int) ∧ k ≤ 1024 := ⟨(min (max 0 n) 1024).toNat, by omega, by omega⟩
  have hrep := repeat_all w.heap.size 1 (k * 256) 255 (w.alloc (.cells #[.int .u8 255] 5)) (by omega) (by rw [cell_blk (blk_new w _)]; rfl) (by omega)
  have ec : ((k * 256 : Nat) : Int) = (k : Int) * 256 := by omega
  rw [ec] at hrep
  have hnew : Fl.new n = ⟨List.replicate (k * 256) 255, -1, 0, false, 0, 0⟩ := by
    unfold Fl.new; rw [hk]; congr 2; omega
  have hok := Fl.Ok.new n
  rw [hnew] at hok
  have HREP := Lib.hid hrep
  have HNEW := Lib.hid hnew
  clear hrep ec hnew
  go_enter Tryd.func43, Tryd.ntmps43
  go_wp2_with (go_at_call 91; refine HREP.out.mono ?_; rintro e w1 ⟨rfl, hr, hb⟩; have HR := Lib.hid hr; clear hr)
  go_ret
  obtain ⟨sp, hs⟩ := HR.out
  have hz := hb.size
  have h1 : (w.alloc (.cells #[.int .u8 255] 5)).heap.size = w.heap.size + 1 := by simp
  rw [h1] at hs hz hb
  refine ⟨w1.heap.size, w.heap.size + 1, rfl, ?_, by omega, by omega, ?_⟩
  · rw [HNEW.out]
    refine ⟨?_, ⟨sp, blk_alloc hs _⟩, by have := blk_lt hs; omega, hok⟩
    rw [blk_new]
    simp [flCells]
  · exact (((Below.refl _ w).alloc (Nat.le_refl _) _).trans (hb.mono (by omega))).alloc (by omega) _

end Go.Proofs.YtoljnogpegemjaaDoor
namespace Go.Proofs.YtoljnogpegemjaaDoor
open Go.RowKit

/-- An integer as a float's bits. -/
def flt (n : Int) : Nat := FloatKind.f64.nearest n

theorem of_any (a b : Int) (w : World) (ha : 0 ≤ a ∧ a ≤ 1099511627776) (hb : 0 ≤ b ∧ b ≤ 1099511627776) :
    Calls Tryd.prog 118 #[.int .i64 a, .int .i64 b] w fun e w' => e = .returned (.tuple #[.complex .f64 (flt a) (flt b), .bool true]) ∧ w = w' := by
  obtain ⟨a0, a1⟩ := ha
  obtain ⟨b0, b1⟩ := hb
  go_enter Tryd.func118, Tryd.ntmps118
  go_wp2
  go_ret2
  exact ⟨rfl, rfl⟩

theorem toll_any (p g : Nat) (s : Fl) (w : World) (h : IsFl w p g s) :
    Calls Tryd.prog 87 #[.pointer (some ⟨p, 0, none⟩)] w fun e w' => e = .returned (.complex .f64 (flt s.er) (flt s.pr)) ∧ ∃ n, w' = w.drewN n := by
  obtain ⟨-, -, -, -, c4, c5⟩ := h.cs
  have e0 := h.ok.er0
  have e1 := h.ok.er1
  have p0 := h.ok.pr0
  have p1 := h.ok.pr1
  go_enter Tryd.func87, Tryd.ntmps87
  go_wp2
  go_quiet ((go_at_call 118; exact Calls.quiet_of_same ((of_any _ _ _ ⟨e0, e1⟩ ⟨p0, p1⟩).mono fun _ _ h => ⟨h.1, h.2.symm⟩)))
  go_wp2
  go_ret
  exact ⟨rfl, _, rfl⟩

end Go.Proofs.YtoljnogpegemjaaDoor
namespace Go.Proofs.YtoljnogpegemjaaDoor
open Go.RowKit

theorem else_new {w : World} {p g : Nat} {s : Fl} (h : IsFl w p g s) (n : Nat) : elseW (some ⟨w.heap.size, 0, none⟩) n p g := by
  intro a ha
  cases ha
  have := h.lt
  exact .inr ⟨by show w.heap.size ≠ p; omega, by show w.heap.size ≠ g; omega⟩

/-- The steps of the example on plain data. -/
def al1 : Fl := (Fl.new 1).prog 0 [240]
def al2 : Fl := al1.prog 0 [15]
theorem al_facts : (Fl.new 1).progOk 0 ((1 : Nat) : Int) = true ∧ al1.progOk 0 ((1 : Nat) : Int) = true ∧ al2.readOk 0 2 = true ∧ al2.read 0 2 = [0, 255] ∧ al2.er = 0 ∧ al2.pr = 2 := by decide +kernel
theorem al_str : strOfNums [0, 255] = ⟨#[0, 255]⟩ := by decide +kernel
theorem al_flt : flt 0 = 0 ∧ flt 2 = 4611686018427387904 := by decide +kernel

end Go.Proofs.YtoljnogpegemjaaDoor
namespace Go.Proofs.YtoljnogpegemjaaDoor
open Go.RowKit

theorem prog_fresh (p g : Nat) (s : Fl) (a x : Int) (w : World) (h : IsFl w p g s) (t : Fl) (ht : t = s.prog a [x]) (b : Bool) (hb : b = s.progOk a ((1 : Nat) : Int)) :
    Calls Tryd.prog 94 #[.pointer (some ⟨p, 0, none⟩), .int .i64 a, .slice (some ⟨w.heap.size, 0, none⟩) 1 1] (w.alloc (.cells #[.int .u8 x] 5)) fun e w' =>
      e = .returned (.bool b) ∧ IsFl w' p g t ∧ Kept (fun x => x = p ∨ x = g) w w' := by
  subst ht
  subst hb
  refine (prog_any p g s a _ 1 _ [x] _ (h.below ((Below.refl _ w).alloc (Nat.le_refl _) _)) (src_one w x) (else_new h 1) (by omega) (by simp)).mono ?_
  rintro e w' ⟨h1, h2, h3, -⟩
  exact ⟨h1, h2, ((Kept.refl _ w).alloc _).trans h3⟩

end Go.Proofs.YtoljnogpegemjaaDoor
namespace Go.Proofs.YtoljnogpegemjaaDoor
open Go.RowKit

theorem else_blk {b p g : Nat} (n : Nat) (h1 : b ≠ p) (h2 : b ≠ g) : elseW (some ⟨b, 0, none⟩) n p g := by
  intro a ha
  cases ha
  exact .inr ⟨h1, h2⟩

theorem prog_blk (p g : Nat) (s : Fl) (a : Int) (b n c : Nat) (xs : List Int) (sp : List Value) (w : World) (h : IsFl w p g s) (hb : w.heap[b]? = some (.cells (row8 xs sp) 5 (0, 0))) (h1 : b ≠ p) (h2 : b ≠ g) (hn : xs.length = n) (hc : n ≤ c) :
    Calls Tryd.prog 94 #[.pointer (some ⟨p, 0, none⟩), .int .i64 a, .slice (some ⟨b, 0, none⟩) n c] w fun e w' =>
      e = .returned (.bool (s.progOk a n)) ∧ IsFl w' p g (s.prog a xs) ∧ Kept (fun x => x = p ∨ x = g) w w' ∧ w'.heap.size = w.heap.size := by
  subst hn
  exact prog_any p g s a _ _ c xs w h (src_blk hb) (else_blk _ h1 h2) hc (by simp)

theorem poke_blk (p g : Nat) (s : Fl) (a : Int) (b n c : Nat) (xs : List Int) (sp : List Value) (w : World) (h : IsFl w p g s) (hb : w.heap[b]? = some (.cells (row8 xs sp) 5 (0, 0))) (hn : xs.length = n) (hx : ∀ x ∈ xs, 0 ≤ x ∧ x ≤ 255) :
    Calls Tryd.prog 26 #[.pointer (some ⟨p, 0, none⟩), .int .i64 a, .slice (some ⟨b, 0, none⟩) n c] w fun e w' =>
      e = .returned (.bool (s.pokeOk a n)) ∧ IsFl w' p g (s.poke a xs) ∧ Kept (fun x => x = p ∨ x = g) w w' ∧ w'.heap.size = w.heap.size := by
  subst hn
  exact poke_any p g s a _ _ c xs w h (src_blk hb) hx

/-- Program, Poke of a slice that has just been made. -/
theorem prog_new (p g : Nat) (s : Fl) (a : Int) (n : Nat) (xs : List Int) (w : World) (h : IsFl w p g s) (hn : xs.length = n) :
    Calls Tryd.prog 94 #[.pointer (some ⟨p, 0, none⟩), .int .i64 a, .slice (some ⟨w.heap.size, 0, none⟩) n n] (w.alloc (.cells (row8 xs []) 5)) fun e w' =>
      e = .returned (.bool (s.progOk a n)) ∧ IsFl w' p g (s.prog a xs) ∧ Kept (fun x => x = p ∨ x = g) w w' := by
  have hl := h.lt
  refine (prog_blk p g s a w.heap.size n n xs [] _ (h.below ((Below.refl _ w).alloc (Nat.le_refl _) _)) (blk_new w _) (by omega) (by omega) hn (Nat.le_refl _)).mono ?_
  rintro e w' ⟨h1, h2, h3, -⟩
  exact ⟨h1, h2, ((Kept.refl _ w).alloc _).trans h3⟩
theorem poke_new (p g : Nat) (s : Fl) (a : Int) (n : Nat) (xs : List Int) (w : World) (h : IsFl w p g s) (hn : xs.length = n) (hx : ∀ x ∈ xs, 0 ≤ x ∧ x ≤ 255) :
    Calls Tryd.prog 26 #[.pointer (some ⟨p, 0, none⟩), .int .i64 a, .slice (some ⟨w.heap.size, 0, none⟩) n n] (w.alloc (.cells (row8 xs []) 5)) fun e w' =>
      e = .returned (.bool (s.pokeOk a n)) ∧ IsFl w' p g (s.poke a xs) ∧ Kept (fun x => x = p ∨ x = g) w w' := by
  refine (poke_blk p g s a w.heap.size n n xs [] _ (h.below ((Below.refl _ w).alloc (Nat.le_refl _) _)) (blk_new w _) hn hx).mono ?_
  rintro e w' ⟨h1, h2, h3, -⟩
  exact ⟨h1, h2, ((Kept.refl _ w).alloc _).trans h3⟩

/-- The power is on, nothing is planned. -/
structure Calm (s : Fl) (L : Nat) : Prop where
  len : s.b.length = L
  dead : s.dead = false
  op : s.op = -1
theorem Calm.goes {s : Fl} {L : Nat} (h : Calm s L) : s.goes = true := by simp [Fl.goes, h.op]
theorem Calm.step {s : Fl} {L : Nat} (h : Calm s L) : s.step.dead = false ∧ s.step.op = -1 := by
  unfold Fl.step
  rw [if_neg (by rw [h.op]; decide)]
  exact ⟨h.dead, by show max (-1) (s.op - 1) = -1; rw [h.op]; rfl⟩
theorem Calm.prog {s : Fl} {L : Nat} (h : Calm s L) (a : Int) (xs : List Int) : Calm (s.prog a xs) L := by
  refine ⟨(Fl.prog_len _ _ _).trans h.len, ?_, ?_⟩ <;> (unfold Fl.prog; split)
  · exact h.step.1
  · exact h.dead
  · exact h.step.2
  · exact h.op
theorem Calm.poke {s : Fl} {L : Nat} (h : Calm s L) (a : Int) (xs : List Int) : Calm (s.poke a xs) L := by
  refine ⟨(Fl.poke_len _ _ _).trans h.len, ?_, ?_⟩ <;> (unfold Fl.poke; split)
  · exact h.dead
  · exact h.dead
  · exact h.op
  · exact h.op
theorem Calm.erase {s : Fl} {L : Nat} (h : Calm s L) (k : Int) : Calm (s.erase k) L := by
  refine ⟨(Fl.erase_len _ _).trans h.len, ?_, ?_⟩ <;> (unfold Fl.erase; split)
  · exact h.step.1
  · exact h.dead
  · exact h.step.2
  · exact h.op
theorem Calm.new (n : Int) (L : Nat) (h : 256 * (min (max 0 n) 1024).toNat = L) : Calm (Fl.new n) L := ⟨by simpa [Fl.new] using h, rfl, rfl⟩
theorem Calm.progOk {s : Fl} {L : Nat} (h : Calm s L) (a n : Int) : s.progOk a n = inB L a n := by simp [Fl.progOk, Fl.progIn, h.dead, h.goes, h.len]
theorem Calm.readOk {s : Fl} {L : Nat} (h : Calm s L) (a n : Int) : s.readOk a n = inB L a n := by simp [Fl.readOk, h.dead, h.len]
theorem Calm.pokeOk {s : Fl} {L : Nat} (h : Calm s L) (a n : Int) : s.pokeOk a n = inB L a n := by simp [Fl.pokeOk, h.len]
theorem Calm.eraseOk {s : Fl} {L : Nat} (h : Calm s L) (k : Int) : s.eraseOk k = (decide (0 ≤ k) && decide (k < (L / 256 : Nat))) := by simp [Fl.eraseOk, Fl.eraseIn, h.dead, h.goes, h.len]

end Go.Proofs.YtoljnogpegemjaaDoor
