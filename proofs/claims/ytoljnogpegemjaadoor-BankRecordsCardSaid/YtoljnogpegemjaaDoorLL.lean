/- Numbers as rows of digits, in plain words. No program here; no condition. math/bits.Mul64, Add64, Sub64 in this program: by the library's own contracts. No condition. The first blocks of a call's own, told whole. No condition. limb.N's Add, Sub: what they answer. Condition: four limbs each. limb.Of: the number of 32 bytes. Condition: 32 bytes. Rows made place by place, and the steps of limb.Num and limb.Mul, in plain words. No program here; no condition. limb.N's Num: the bytes of a number. Condition: four limbs. limb.N's Mul: the whole product. Condition: four limbs each. -/
import Derived.Test.YtoljnogpegemjaaDoorLong
import Derived.Shelf.Bits.Mul64
import Derived.Shelf.Spec.BitsCarry
import Derived.Test.YtoljnogpegemjaaDoorByt
import Derived.StillTailTactics
namespace Go.Proofs.YtoljnogpegemjaaDoor.Lm
open Go.RowKit

/-- What a row of digits is worth, to the base b. -/
def val (b : Nat) : List Nat → Nat
  | [] => 0
  | x :: xs => x + b * val b xs
/-- The n lowest digits. -/
def dig (b : Nat) : Nat → Nat → List Nat
  | 0, _ => []
  | n + 1, v => v % b :: dig b n (v / b)
theorem dig_len (b : Nat) : ∀ n v, (dig b n v).length = n
  | 0, _ => rfl
  | n + 1, v => by simp [dig, dig_len b n]
theorem val_dig (b : Nat) : ∀ n v, val b (dig b n v) = v % b ^ n
  | 0, v => by simp [dig, val, Nat.mod_one]
  | n + 1, v => by
    rw [dig, val, val_dig b n, Nat.pow_succ, Nat.mul_comm (b ^ n) b, Nat.mod_mul]
theorem dig_lt (b : Nat) (hb : 0 < b) : ∀ n v, ∀ x ∈ dig b n v, x < b
  | 0, _, x, h => by simp [dig] at h
  | n + 1, v, x, h => by
    rw [dig, List.mem_cons] at h
    rcases h with rfl | h
    · exact Nat.mod_lt _ hb
    · exact dig_lt b hb n _ x h
theorem val_lt (b : Nat) : ∀ xs : List Nat, (∀ x ∈ xs, x < b) → val b xs < b ^ xs.length
  | [], _ => by simp [val]
  | x :: xs, h => by
    have h1 := h x (by simp)
    have h2 := val_lt b xs (fun y hy => h y (by simp [hy]))
    rw [val, List.length_cons, Nat.pow_succ]
    have h3 : b * (val b xs + 1) ≤ b * b ^ xs.length := Nat.mul_le_mul_left b h2
    rw [Nat.mul_comm (b ^ xs.length) b]
    rw [Nat.mul_add] at h3
    omega
theorem dig_val (b : Nat) (hb : 0 < b) : ∀ xs : List Nat, (∀ x ∈ xs, x < b) → dig b xs.length (val b xs) = xs
  | [], _ => rfl
  | x :: xs, h => by
    have h1 := h x (by simp)
    rw [List.length_cons, dig, val, Nat.add_mul_mod_self_left, Nat.mod_eq_of_lt h1, Nat.add_mul_div_left _ _ hb, Nat.div_eq_of_lt h1, Nat.zero_add, dig_val b hb xs (fun y hy => h y (by simp [hy]))]
theorem dig_eq (b : Nat) (hb : 0 < b) (n v : Nat) (xs : List Nat) (hl : xs.length = n) (h : ∀ x ∈ xs, x < b) (hv : val b xs = v) : xs = dig b n v := by
  subst hl hv
  exact (dig_val b hb xs h).symm
theorem dig_get (b : Nat) : ∀ n v i, i < n → (dig b n v).getD i 0 = v / b ^ i % b
  | 0, _, _, h => by omega
  | n + 1, v, 0, _ => by simp [dig]
  | n + 1, v, i + 1, h => by
    rw [dig, List.getD_cons_succ, dig_get b n _ i (by omega), Nat.div_div_eq_div_mul, Nat.pow_succ, Nat.mul_comm b]
theorem val_append (b : Nat) : ∀ xs ys : List Nat, val b (xs ++ ys) = val b xs + b ^ xs.length * val b ys
  | [], ys => by simp [val]
  | x :: xs, ys => by
    rw [List.cons_append, val, val, val_append b xs ys, List.length_cons, Nat.pow_succ]
    grind
theorem val_take_succ (b : Nat) (xs : List Nat) (i : Nat) (h : i < xs.length) : val b (xs.take (i + 1)) = val b (xs.take i) + b ^ i * xs.getD i 0 := by
  rw [List.take_succ_eq_append_getElem h, val_append]
  simp [val, List.getD, h, Nat.min_eq_left (Nat.le_of_lt h)]
theorem val_take_set (b : Nat) (xs : List Nat) (i v : Nat) (h : i < xs.length) : val b ((xs.set i v).take (i + 1)) = val b (xs.take i) + b ^ i * v := by
  rw [val_take_succ _ _ _ (by simpa using h), List.take_set_of_le (Nat.le_refl i)]
  simp [List.getD, h]
theorem val_set (b : Nat) : ∀ (xs : List Nat) (i v : Nat), i < xs.length → val b (xs.set i v) + b ^ i * xs.getD i 0 = val b xs + b ^ i * v
  | [], i, v, h => by simp at h
  | x :: xs, 0, v, _ => by
    simp [val]
    omega
  | x :: xs, i + 1, v, h => by
    have ih := val_set b xs i v (by simpa using h)
    rw [List.set_cons_succ, val, val, List.getD_cons_succ, Nat.pow_succ]
    grind
theorem val_zeros (b n : Nat) : val b (List.replicate n 0) = 0 := by
  induction n with
  | zero => rfl
  | succ n ih => rw [List.replicate_succ, val, ih]; simp
theorem lt_getD {b : Nat} {xs : List Nat} (h : ∀ x ∈ xs, x < b) (hb : 0 < b) (i : Nat) : xs.getD i 0 < b := by
  simp only [List.getD]
  cases e : xs[i]? with
  | none => simpa using hb
  | some y => simpa using h y (List.mem_of_getElem? e)
theorem lt_set {b : Nat} {xs : List Nat} (h : ∀ x ∈ xs, x < b) (i v : Nat) (hv : v < b) : ∀ x ∈ xs.set i v, x < b := by
  intro x hx
  rcases List.mem_or_eq_of_mem_set hx with h1 | rfl
  · exact h x h1
  · exact hv

/-- Digits as the model's integers. -/
def nar (xs : List Nat) : List Int := xs.map Int.ofNat
theorem nar_len (xs : List Nat) : (nar xs).length = xs.length := by simp [nar]
theorem nar_get (xs : List Nat) (i : Nat) : (nar xs).getD i 0 = ((xs.getD i 0 : Nat) : Int) := by
  simp only [nar, List.getD, List.getElem?_map]
  cases xs[i]? <;> rfl
theorem nar_set (xs : List Nat) (i v : Nat) : nar (xs.set i v) = (nar xs).set i (v : Int) := by simp [nar, List.map_set]
theorem nar_zeros (n : Nat) : nar (List.replicate n 0) = List.replicate n 0 := by simp [nar]
/-- Whatever integers that are none below nought are digits. -/
theorem nar_of (xs : List Int) (h : ∀ x ∈ xs, 0 ≤ x) : nar (xs.map Int.toNat) = xs := by
  induction xs with
  | nil => rfl
  | cons x xs ih =>
    have h1 := h x (by simp)
    rw [List.map_cons, nar, List.map_cons]
    rw [show List.map Int.ofNat (List.map Int.toNat xs) = xs from ih (fun y hy => h y (by simp [hy]))]
    congr 1
    exact Int.toNat_of_nonneg h1

/-- One step of a sum, digit by digit. -/
theorem add_step (b i X Y S x y c s c' : Nat) (h : S + b ^ i * c = X + Y) (hs : s + b * c' = x + y + c) : S + b ^ i * s + b ^ (i + 1) * c' = (X + b ^ i * x) + (Y + b ^ i * y) := by
  rw [Nat.pow_succ]
  have : b ^ i * (s + b * c') = b ^ i * (x + y + c) := by rw [hs]
  grind
/-- One step of a difference. -/
theorem sub_step (b i X Y S x y c s c' : Nat) (h : S + Y = X + b ^ i * c) (hs : s + y + c = x + b * c') : (S + b ^ i * s) + (Y + b ^ i * y) = (X + b ^ i * x) + b ^ (i + 1) * c' := by
  rw [Nat.pow_succ]
  have : b ^ i * (s + y + c) = b ^ i * (x + b * c') := by rw [hs]
  grind
end Go.Proofs.YtoljnogpegemjaaDoor.Lm
namespace Go.Proofs.YtoljnogpegemjaaDoor.Lm
open Go.RowKit Go.Shelf

def ren : Ren := ⟨fun _ => 147, fun t => if t = 46 then 116 else 160, fun g => g⟩
theorem lays : Lays.n264 Tryd.prog ren where
  mixed := by kernel_rfl
  f264 := Tryd.func147
  t46 := by kernel_rfl
  a46 := fun w => by kernel_rfl
  z46 := fun w => by kernel_rfl
  v46 := fun w => by kernel_rfl
  t53 := by kernel_rfl
  a53 := fun w => by kernel_rfl
  z53 := fun w => by kernel_rfl
  v53 := fun w => by kernel_rfl
theorem mul64 (x y : Nat) (hx : x < 18446744073709551616) (hy : y < 18446744073709551616) (w : World) :
    Calls Tryd.prog 147 #[.int .u64 x, .int .u64 y] w fun e w' => e = .returned (.tuple #[.int .u64 ((x * y / 18446744073709551616 : Nat) : Int), .int .u64 ((x * y % 18446744073709551616 : Nat) : Int)]) ∧ w' = w :=
  Any.bits_Mul64 lays x y hx hy w
theorem add64 (x y c : Nat) (hc : c ≤ 1) (w : World) :
    (callFunc 209 #[.int .u64 x, .int .u64 y, .int .u64 c]).run Tryd.prog w =
      .ok (.value (.tuple #[.int .u64 (((x + y + c) % 18446744073709551616 : Nat) : Int), .int .u64 (((x + y + c) / 18446744073709551616 : Nat) : Int)])) w := by
  rw [run_callFunc_extern Tryd.func209 (by kernel_rfl) (by kernel_rfl) (by kernel_rfl) (e := add64Entry) (by kernel_rfl), run_add64 x y c (by omega) (by omega) (by omega) (by omega)]
  simp only [Result.andThen]
  congr 5 <;> omega
theorem sub64 (x y b : Nat) (hb : b ≤ 1) (w : World) :
    (callFunc 210 #[.int .u64 x, .int .u64 y, .int .u64 b]).run Tryd.prog w =
      .ok (.value (.tuple #[.int .u64 (((x + 18446744073709551616 - y - b) % 18446744073709551616 : Nat) : Int), .int .u64 ((if x < y + b then 1 else 0 : Nat) : Int)])) w := by
  rw [run_callFunc_extern Tryd.func210 (by kernel_rfl) (by kernel_rfl) (by kernel_rfl) (e := sub64Entry) (by kernel_rfl), run_sub64 x y b hb]
  rfl
end Go.Proofs.YtoljnogpegemjaaDoor.Lm
namespace Go.Proofs.YtoljnogpegemjaaDoor
open Go.RowKit

theorem results_cell_tmp_row {P : Program} {fn : Func} {p u : Tmp} {ty : TypeId} (h : fn.results = #[.cell p ty, .tmp u]) (tmps : Array Value) (w : World) (g : Nat) (t : TypeId) (cs : Array Value) (fr : Nat × Nat) (d : TypeDesc) (v : Value)
    (hp : tmps.getD p undef = .pointer (some ⟨g, 0, none⟩)) (hg : w.heap[g]? = some (.cells cs t fr))
    (hu : P.underlying ty = some d) (hd : (match d with | .struct _ | .array _ _ => true | _ => false) = true) (hi : (P.info? ty).map (·.size) = some cs.size) (hv : tmps.getD u undef = v) :
    (results fn tmps).run P w = .ok (.tuple #[.agg cs, v]) w := by
  rw [results_cell_tmp h, hp, hv]
  simp only [asAddr, Sem.run_pure, Result.andThen_ok, run_loadVar_row w g t ty cs fr d hg hu hd hi]

theorem arr_part (k : IntKind) (xs : List Int) : ((arr k xs).toList.drop 0).take xs.length = xs.map (Value.int k) := by rw [List.drop_zero, arr_toList, List.take_of_length_le (by simp)]
theorem blk_arr' {w : World} {g : Nat} {k : IntKind} {xs : List Int} {t : TypeId} {fr : Nat × Nat} (h : w.heap[g]? = some (.cells (arr k xs) t fr)) (i : Nat) (hi : i < xs.length) : w.cell? ⟨g, i, none⟩ = some (.int k (xs.getD i 0)) := (cell_blk h i).trans (arr_get _ _ _ hi)
theorem arr_set (k : IntKind) (xs : List Int) (i : Nat) (x : Int) : (arr k xs).setIfInBounds i (.int k x) = arr k (xs.set i x) := by simp [arr, List.map_set]

/-- 2 blocks of the call's own. -/
structure B2 (w wr : World) (c0 c1 : Array Value) (t0 t1 : TypeId) : Prop where
  b0 : wr.heap[w.heap.size]? = some (.cells c0 t0 (0, 0))
  b1 : wr.heap[w.heap.size + 1]? = some (.cells c1 t1 (0, 0))
  below : Below w.heap.size w wr
theorem B2.start (w : World) (c0 c1 : Array Value) (t0 t1 : TypeId) : B2 w ((w.alloc (.cells c0 t0)).alloc (.cells c1 t1)) c0 c1 t0 t1 := by
  have e1 : ∀ o0 : Obj, (w.alloc o0).heap.size = w.heap.size + 1 := by simp
  refine ⟨?_, ?_, (((Below.refl _ w).alloc (by exact Nat.le_refl _) _).alloc (by rw [e1]; omega) _)⟩
  · exact blk_alloc (blk_new _ _) _
  · rw [← e1 (.cells c0 t0)]
    exact blk_new _ _
theorem B2.drewN {w wr : World} {c0 c1 : Array Value} {t0 t1 : TypeId} (h : B2 w wr c0 c1 t0 t1) (k : Nat) : B2 w (wr.drewN k) c0 c1 t0 t1 := ⟨h.b0, h.b1, Go.Proofs.YtoljnogpegemjaaDoor.Below.drewN h.below k⟩
theorem B2.drew {w wr : World} {c0 c1 : Array Value} {t0 t1 : TypeId} (h : B2 w wr c0 c1 t0 t1) : B2 w wr.drew c0 c1 t0 t1 := ⟨h.b0, h.b1, ⟨h.below.os, h.below.tape, h.below.output, h.below.size, h.below.block⟩⟩
theorem B2.after {w wr w' : World} {c0 c1 : Array Value} {t0 t1 : TypeId} (h : B2 w wr c0 c1 t0 t1) (b : Below wr.heap.size wr w') : B2 w w' c0 c1 t0 t1 := ⟨Below.blk b h.b0 (blk_lt h.b0), Below.blk b h.b1 (blk_lt h.b1), h.below.trans (b.mono h.below.size)⟩
theorem B2.alloc {w wr : World} {c0 c1 : Array Value} {t0 t1 : TypeId} (h : B2 w wr c0 c1 t0 t1) (o : Obj) : B2 w (wr.alloc o) c0 c1 t0 t1 := h.after ((Below.refl _ wr).alloc (Nat.le_refl _) o)
theorem B2.set0 {w wr : World} {c0 c1 : Array Value} {t0 t1 : TypeId} (h : B2 w wr c0 c1 t0 t1) (i : Nat) (v : Value) : B2 w (wr.setCell ⟨w.heap.size, i, none⟩ v) (c0.setIfInBounds i v) c1 t0 t1 := ⟨blk_setCell h.b0 v, blk_setCell_ne h.b1 _ (by omega), h.below.setCell (p := ⟨w.heap.size, i, none⟩) (by simp) _⟩
theorem B2.put0 {w wr w' : World} {c0 c1 d : Array Value} {t0 t1 : TypeId} (h : B2 w wr c0 c1 t0 t1) (k : Kept (fun x => x = w.heap.size) wr w') (hd : w'.heap[w.heap.size]? = some (.cells d t0 (0, 0))) : B2 w w' d c1 t0 t1 := ⟨hd, k.blk h.b1 (by omega), h.below.trans (k.toBelow h.below.size (by rintro i rfl; omega))⟩
theorem B2.set1 {w wr : World} {c0 c1 : Array Value} {t0 t1 : TypeId} (h : B2 w wr c0 c1 t0 t1) (i : Nat) (v : Value) : B2 w (wr.setCell ⟨w.heap.size + 1, i, none⟩ v) c0 (c1.setIfInBounds i v) t0 t1 := ⟨blk_setCell_ne h.b0 _ (by omega), blk_setCell h.b1 v, h.below.setCell (p := ⟨w.heap.size + 1, i, none⟩) (by simp) _⟩
theorem B2.put1 {w wr w' : World} {c0 c1 d : Array Value} {t0 t1 : TypeId} (h : B2 w wr c0 c1 t0 t1) (k : Kept (fun x => x = w.heap.size + 1) wr w') (hd : w'.heap[w.heap.size + 1]? = some (.cells d t1 (0, 0))) : B2 w w' c0 d t0 t1 := ⟨k.blk h.b0 (by omega), hd, h.below.trans (k.toBelow h.below.size (by rintro i rfl; omega))⟩
theorem B2.far {w wr : World} {c0 c1 : Array Value} {t0 t1 : TypeId} (h : B2 w wr c0 c1 t0 t1) (g i : Nat) (v : Value) (hg : w.heap.size + 1 < g) : B2 w (wr.setCell ⟨g, i, none⟩ v) c0 c1 t0 t1 := ⟨blk_setCell_ne h.b0 _ (by omega), blk_setCell_ne h.b1 _ (by omega), h.below.setCell (p := ⟨g, i, none⟩) (by simp; omega) _⟩
theorem B2.farK {w wr w' : World} {c0 c1 : Array Value} {t0 t1 : TypeId} {T : Nat → Prop} (h : B2 w wr c0 c1 t0 t1) (k : Kept T wr w') (hT : ∀ i, T i → w.heap.size + 1 < i) : B2 w w' c0 c1 t0 t1 := ⟨k.blk h.b0 (fun e => by have := hT _ e; omega), k.blk h.b1 (fun e => by have := hT _ e; omega), h.below.trans (k.toBelow h.below.size (fun i hi => by have := hT i hi; omega))⟩

/-- 3 blocks of the call's own. -/
structure B3 (w wr : World) (c0 c1 c2 : Array Value) (t0 t1 t2 : TypeId) : Prop where
  b0 : wr.heap[w.heap.size]? = some (.cells c0 t0 (0, 0))
  b1 : wr.heap[w.heap.size + 1]? = some (.cells c1 t1 (0, 0))
  b2 : wr.heap[w.heap.size + 1 + 1]? = some (.cells c2 t2 (0, 0))
  below : Below w.heap.size w wr
theorem B3.start (w : World) (c0 c1 c2 : Array Value) (t0 t1 t2 : TypeId) : B3 w (((w.alloc (.cells c0 t0)).alloc (.cells c1 t1)).alloc (.cells c2 t2)) c0 c1 c2 t0 t1 t2 := by
  have e1 : ∀ o0 : Obj, (w.alloc o0).heap.size = w.heap.size + 1 := by simp
  have e2 : ∀ o0 o1 : Obj, ((w.alloc o0).alloc o1).heap.size = w.heap.size + 1 + 1 := by simp
  refine ⟨?_, ?_, ?_, ((((Below.refl _ w).alloc (by exact Nat.le_refl _) _).alloc (by rw [e1]; omega) _).alloc (by rw [e2]; omega) _)⟩
  · exact blk_alloc (blk_alloc (blk_new _ _) _) _
  · rw [← e1 (.cells c0 t0)]
    exact blk_alloc (blk_new _ _) _
  · rw [← e2 (.cells c0 t0) (.cells c1 t1)]
    exact blk_new _ _
theorem B3.drewN {w wr : World} {c0 c1 c2 : Array Value} {t0 t1 t2 : TypeId} (h : B3 w wr c0 c1 c2 t0 t1 t2) (k : Nat) : B3 w (wr.drewN k) c0 c1 c2 t0 t1 t2 := ⟨h.b0, h.b1, h.b2, Go.Proofs.YtoljnogpegemjaaDoor.Below.drewN h.below k⟩
theorem B3.drew {w wr : World} {c0 c1 c2 : Array Value} {t0 t1 t2 : TypeId} (h : B3 w wr c0 c1 c2 t0 t1 t2) : B3 w wr.drew c0 c1 c2 t0 t1 t2 := ⟨h.b0, h.b1, h.b2, ⟨h.below.os, h.below.tape, h.below.output, h.below.size, h.below.block⟩⟩
theorem B3.after {w wr w' : World} {c0 c1 c2 : Array Value} {t0 t1 t2 : TypeId} (h : B3 w wr c0 c1 c2 t0 t1 t2) (b : Below wr.heap.size wr w') : B3 w w' c0 c1 c2 t0 t1 t2 := ⟨Below.blk b h.b0 (blk_lt h.b0), Below.blk b h.b1 (blk_lt h.b1), Below.blk b h.b2 (blk_lt h.b2), h.below.trans (b.mono h.below.size)⟩
theorem B3.alloc {w wr : World} {c0 c1 c2 : Array Value} {t0 t1 t2 : TypeId} (h : B3 w wr c0 c1 c2 t0 t1 t2) (o : Obj) : B3 w (wr.alloc o) c0 c1 c2 t0 t1 t2 := h.after ((Below.refl _ wr).alloc (Nat.le_refl _) o)
theorem B3.set0 {w wr : World} {c0 c1 c2 : Array Value} {t0 t1 t2 : TypeId} (h : B3 w wr c0 c1 c2 t0 t1 t2) (i : Nat) (v : Value) : B3 w (wr.setCell ⟨w.heap.size, i, none⟩ v) (c0.setIfInBounds i v) c1 c2 t0 t1 t2 := ⟨blk_setCell h.b0 v, blk_setCell_ne h.b1 _ (by omega), blk_setCell_ne h.b2 _ (by omega), h.below.setCell (p := ⟨w.heap.size, i, none⟩) (by simp) _⟩
theorem B3.put0 {w wr w' : World} {c0 c1 c2 d : Array Value} {t0 t1 t2 : TypeId} (h : B3 w wr c0 c1 c2 t0 t1 t2) (k : Kept (fun x => x = w.heap.size) wr w') (hd : w'.heap[w.heap.size]? = some (.cells d t0 (0, 0))) : B3 w w' d c1 c2 t0 t1 t2 := ⟨hd, k.blk h.b1 (by omega), k.blk h.b2 (by omega), h.below.trans (k.toBelow h.below.size (by rintro i rfl; omega))⟩
theorem B3.set1 {w wr : World} {c0 c1 c2 : Array Value} {t0 t1 t2 : TypeId} (h : B3 w wr c0 c1 c2 t0 t1 t2) (i : Nat) (v : Value) : B3 w (wr.setCell ⟨w.heap.size + 1, i, none⟩ v) c0 (c1.setIfInBounds i v) c2 t0 t1 t2 := ⟨blk_setCell_ne h.b0 _ (by omega), blk_setCell h.b1 v, blk_setCell_ne h.b2 _ (by omega), h.below.setCell (p := ⟨w.heap.size + 1, i, none⟩) (by simp) _⟩
theorem B3.put1 {w wr w' : World} {c0 c1 c2 d : Array Value} {t0 t1 t2 : TypeId} (h : B3 w wr c0 c1 c2 t0 t1 t2) (k : Kept (fun x => x = w.heap.size + 1) wr w') (hd : w'.heap[w.heap.size + 1]? = some (.cells d t1 (0, 0))) : B3 w w' c0 d c2 t0 t1 t2 := ⟨k.blk h.b0 (by omega), hd, k.blk h.b2 (by omega), h.below.trans (k.toBelow h.below.size (by rintro i rfl; omega))⟩
theorem B3.set2 {w wr : World} {c0 c1 c2 : Array Value} {t0 t1 t2 : TypeId} (h : B3 w wr c0 c1 c2 t0 t1 t2) (i : Nat) (v : Value) : B3 w (wr.setCell ⟨w.heap.size + 1 + 1, i, none⟩ v) c0 c1 (c2.setIfInBounds i v) t0 t1 t2 := ⟨blk_setCell_ne h.b0 _ (by omega), blk_setCell_ne h.b1 _ (by omega), blk_setCell h.b2 v, h.below.setCell (p := ⟨w.heap.size + 1 + 1, i, none⟩) (by simp; omega) _⟩
theorem B3.put2 {w wr w' : World} {c0 c1 c2 d : Array Value} {t0 t1 t2 : TypeId} (h : B3 w wr c0 c1 c2 t0 t1 t2) (k : Kept (fun x => x = w.heap.size + 1 + 1) wr w') (hd : w'.heap[w.heap.size + 1 + 1]? = some (.cells d t2 (0, 0))) : B3 w w' c0 c1 d t0 t1 t2 := ⟨k.blk h.b0 (by omega), k.blk h.b1 (by omega), hd, h.below.trans (k.toBelow h.below.size (by rintro i rfl; omega))⟩
theorem B3.far {w wr : World} {c0 c1 c2 : Array Value} {t0 t1 t2 : TypeId} (h : B3 w wr c0 c1 c2 t0 t1 t2) (g i : Nat) (v : Value) (hg : w.heap.size + 1 + 1 < g) : B3 w (wr.setCell ⟨g, i, none⟩ v) c0 c1 c2 t0 t1 t2 := ⟨blk_setCell_ne h.b0 _ (by omega), blk_setCell_ne h.b1 _ (by omega), blk_setCell_ne h.b2 _ (by omega), h.below.setCell (p := ⟨g, i, none⟩) (by simp; omega) _⟩
theorem B3.farK {w wr w' : World} {c0 c1 c2 : Array Value} {t0 t1 t2 : TypeId} {T : Nat → Prop} (h : B3 w wr c0 c1 c2 t0 t1 t2) (k : Kept T wr w') (hT : ∀ i, T i → w.heap.size + 1 + 1 < i) : B3 w w' c0 c1 c2 t0 t1 t2 := ⟨k.blk h.b0 (fun e => by have := hT _ e; omega), k.blk h.b1 (fun e => by have := hT _ e; omega), k.blk h.b2 (fun e => by have := hT _ e; omega), h.below.trans (k.toBelow h.below.size (fun i hi => by have := hT i hi; omega))⟩

/-- 4 blocks of the call's own. -/
structure B4 (w wr : World) (c0 c1 c2 c3 : Array Value) (t0 t1 t2 t3 : TypeId) : Prop where
  b0 : wr.heap[w.heap.size]? = some (.cells c0 t0 (0, 0))
  b1 : wr.heap[w.heap.size + 1]? = some (.cells c1 t1 (0, 0))
  b2 : wr.heap[w.heap.size + 1 + 1]? = some (.cells c2 t2 (0, 0))
  b3 : wr.heap[w.heap.size + 1 + 1 + 1]? = some (.cells c3 t3 (0, 0))
  below : Below w.heap.size w wr
theorem B4.start (w : World) (c0 c1 c2 c3 : Array Value) (t0 t1 t2 t3 : TypeId) : B4 w ((((w.alloc (.cells c0 t0)).alloc (.cells c1 t1)).alloc (.cells c2 t2)).alloc (.cells c3 t3)) c0 c1 c2 c3 t0 t1 t2 t3 := by
  have e1 : ∀ o0 : Obj, (w.alloc o0).heap.size = w.heap.size + 1 := by simp
  have e2 : ∀ o0 o1 : Obj, ((w.alloc o0).alloc o1).heap.size = w.heap.size + 1 + 1 := by simp
  have e3 : ∀ o0 o1 o2 : Obj, (((w.alloc o0).alloc o1).alloc o2).heap.size = w.heap.size + 1 + 1 + 1 := by simp
  refine ⟨?_, ?_, ?_, ?_, (((((Below.refl _ w).alloc (by exact Nat.le_refl _) _).alloc (by rw [e1]; omega) _).alloc (by rw [e2]; omega) _).alloc (by rw [e3]; omega) _)⟩
  · exact blk_alloc (blk_alloc (blk_alloc (blk_new _ _) _) _) _
  · rw [← e1 (.cells c0 t0)]
    exact blk_alloc (blk_alloc (blk_new _ _) _) _
  · rw [← e2 (.cells c0 t0) (.cells c1 t1)]
    exact blk_alloc (blk_new _ _) _
  · rw [← e3 (.cells c0 t0) (.cells c1 t1) (.cells c2 t2)]
    exact blk_new _ _
theorem B4.drewN {w wr : World} {c0 c1 c2 c3 : Array Value} {t0 t1 t2 t3 : TypeId} (h : B4 w wr c0 c1 c2 c3 t0 t1 t2 t3) (k : Nat) : B4 w (wr.drewN k) c0 c1 c2 c3 t0 t1 t2 t3 := ⟨h.b0, h.b1, h.b2, h.b3, Go.Proofs.YtoljnogpegemjaaDoor.Below.drewN h.below k⟩
theorem B4.drew {w wr : World} {c0 c1 c2 c3 : Array Value} {t0 t1 t2 t3 : TypeId} (h : B4 w wr c0 c1 c2 c3 t0 t1 t2 t3) : B4 w wr.drew c0 c1 c2 c3 t0 t1 t2 t3 := ⟨h.b0, h.b1, h.b2, h.b3, ⟨h.below.os, h.below.tape, h.below.output, h.below.size, h.below.block⟩⟩
theorem B4.after {w wr w' : World} {c0 c1 c2 c3 : Array Value} {t0 t1 t2 t3 : TypeId} (h : B4 w wr c0 c1 c2 c3 t0 t1 t2 t3) (b : Below wr.heap.size wr w') : B4 w w' c0 c1 c2 c3 t0 t1 t2 t3 := ⟨Below.blk b h.b0 (blk_lt h.b0), Below.blk b h.b1 (blk_lt h.b1), Below.blk b h.b2 (blk_lt h.b2), Below.blk b h.b3 (blk_lt h.b3), h.below.trans (b.mono h.below.size)⟩
theorem B4.alloc {w wr : World} {c0 c1 c2 c3 : Array Value} {t0 t1 t2 t3 : TypeId} (h : B4 w wr c0 c1 c2 c3 t0 t1 t2 t3) (o : Obj) : B4 w (wr.alloc o) c0 c1 c2 c3 t0 t1 t2 t3 := h.after ((Below.refl _ wr).alloc (Nat.le_refl _) o)
theorem B4.set0 {w wr : World} {c0 c1 c2 c3 : Array Value} {t0 t1 t2 t3 : TypeId} (h : B4 w wr c0 c1 c2 c3 t0 t1 t2 t3) (i : Nat) (v : Value) : B4 w (wr.setCell ⟨w.heap.size, i, none⟩ v) (c0.setIfInBounds i v) c1 c2 c3 t0 t1 t2 t3 := ⟨blk_setCell h.b0 v, blk_setCell_ne h.b1 _ (by omega), blk_setCell_ne h.b2 _ (by omega), blk_setCell_ne h.b3 _ (by omega), h.below.setCell (p := ⟨w.heap.size, i, none⟩) (by simp) _⟩
theorem B4.put0 {w wr w' : World} {c0 c1 c2 c3 d : Array Value} {t0 t1 t2 t3 : TypeId} (h : B4 w wr c0 c1 c2 c3 t0 t1 t2 t3) (k : Kept (fun x => x = w.heap.size) wr w') (hd : w'.heap[w.heap.size]? = some (.cells d t0 (0, 0))) : B4 w w' d c1 c2 c3 t0 t1 t2 t3 := ⟨hd, k.blk h.b1 (by omega), k.blk h.b2 (by omega), k.blk h.b3 (by omega), h.below.trans (k.toBelow h.below.size (by rintro i rfl; omega))⟩
theorem B4.set1 {w wr : World} {c0 c1 c2 c3 : Array Value} {t0 t1 t2 t3 : TypeId} (h : B4 w wr c0 c1 c2 c3 t0 t1 t2 t3) (i : Nat) (v : Value) : B4 w (wr.setCell ⟨w.heap.size + 1, i, none⟩ v) c0 (c1.setIfInBounds i v) c2 c3 t0 t1 t2 t3 := ⟨blk_setCell_ne h.b0 _ (by omega), blk_setCell h.b1 v, blk_setCell_ne h.b2 _ (by omega), blk_setCell_ne h.b3 _ (by omega), h.below.setCell (p := ⟨w.heap.size + 1, i, none⟩) (by simp) _⟩
theorem B4.put1 {w wr w' : World} {c0 c1 c2 c3 d : Array Value} {t0 t1 t2 t3 : TypeId} (h : B4 w wr c0 c1 c2 c3 t0 t1 t2 t3) (k : Kept (fun x => x = w.heap.size + 1) wr w') (hd : w'.heap[w.heap.size + 1]? = some (.cells d t1 (0, 0))) : B4 w w' c0 d c2 c3 t0 t1 t2 t3 := ⟨k.blk h.b0 (by omega), hd, k.blk h.b2 (by omega), k.blk h.b3 (by omega), h.below.trans (k.toBelow h.below.size (by rintro i rfl; omega))⟩
theorem B4.set2 {w wr : World} {c0 c1 c2 c3 : Array Value} {t0 t1 t2 t3 : TypeId} (h : B4 w wr c0 c1 c2 c3 t0 t1 t2 t3) (i : Nat) (v : Value) : B4 w (wr.setCell ⟨w.heap.size + 1 + 1, i, none⟩ v) c0 c1 (c2.setIfInBounds i v) c3 t0 t1 t2 t3 := ⟨blk_setCell_ne h.b0 _ (by omega), blk_setCell_ne h.b1 _ (by omega), blk_setCell h.b2 v, blk_setCell_ne h.b3 _ (by omega), h.below.setCell (p := ⟨w.heap.size + 1 + 1, i, none⟩) (by simp; omega) _⟩
theorem B4.put2 {w wr w' : World} {c0 c1 c2 c3 d : Array Value} {t0 t1 t2 t3 : TypeId} (h : B4 w wr c0 c1 c2 c3 t0 t1 t2 t3) (k : Kept (fun x => x = w.heap.size + 1 + 1) wr w') (hd : w'.heap[w.heap.size + 1 + 1]? = some (.cells d t2 (0, 0))) : B4 w w' c0 c1 d c3 t0 t1 t2 t3 := ⟨k.blk h.b0 (by omega), k.blk h.b1 (by omega), hd, k.blk h.b3 (by omega), h.below.trans (k.toBelow h.below.size (by rintro i rfl; omega))⟩
theorem B4.set3 {w wr : World} {c0 c1 c2 c3 : Array Value} {t0 t1 t2 t3 : TypeId} (h : B4 w wr c0 c1 c2 c3 t0 t1 t2 t3) (i : Nat) (v : Value) : B4 w (wr.setCell ⟨w.heap.size + 1 + 1 + 1, i, none⟩ v) c0 c1 c2 (c3.setIfInBounds i v) t0 t1 t2 t3 := ⟨blk_setCell_ne h.b0 _ (by omega), blk_setCell_ne h.b1 _ (by omega), blk_setCell_ne h.b2 _ (by omega), blk_setCell h.b3 v, h.below.setCell (p := ⟨w.heap.size + 1 + 1 + 1, i, none⟩) (by simp; omega) _⟩
theorem B4.put3 {w wr w' : World} {c0 c1 c2 c3 d : Array Value} {t0 t1 t2 t3 : TypeId} (h : B4 w wr c0 c1 c2 c3 t0 t1 t2 t3) (k : Kept (fun x => x = w.heap.size + 1 + 1 + 1) wr w') (hd : w'.heap[w.heap.size + 1 + 1 + 1]? = some (.cells d t3 (0, 0))) : B4 w w' c0 c1 c2 d t0 t1 t2 t3 := ⟨k.blk h.b0 (by omega), k.blk h.b1 (by omega), k.blk h.b2 (by omega), hd, h.below.trans (k.toBelow h.below.size (by rintro i rfl; omega))⟩
theorem B4.far {w wr : World} {c0 c1 c2 c3 : Array Value} {t0 t1 t2 t3 : TypeId} (h : B4 w wr c0 c1 c2 c3 t0 t1 t2 t3) (g i : Nat) (v : Value) (hg : w.heap.size + 1 + 1 + 1 < g) : B4 w (wr.setCell ⟨g, i, none⟩ v) c0 c1 c2 c3 t0 t1 t2 t3 := ⟨blk_setCell_ne h.b0 _ (by omega), blk_setCell_ne h.b1 _ (by omega), blk_setCell_ne h.b2 _ (by omega), blk_setCell_ne h.b3 _ (by omega), h.below.setCell (p := ⟨g, i, none⟩) (by simp; omega) _⟩
theorem B4.farK {w wr w' : World} {c0 c1 c2 c3 : Array Value} {t0 t1 t2 t3 : TypeId} {T : Nat → Prop} (h : B4 w wr c0 c1 c2 c3 t0 t1 t2 t3) (k : Kept T wr w') (hT : ∀ i, T i → w.heap.size + 1 + 1 + 1 < i) : B4 w w' c0 c1 c2 c3 t0 t1 t2 t3 := ⟨k.blk h.b0 (fun e => by have := hT _ e; omega), k.blk h.b1 (fun e => by have := hT _ e; omega), k.blk h.b2 (fun e => by have := hT _ e; omega), k.blk h.b3 (fun e => by have := hT _ e; omega), h.below.trans (k.toBelow h.below.size (fun i hi => by have := hT i hi; omega))⟩

/-- 5 blocks of the call's own. -/
structure B5 (w wr : World) (c0 c1 c2 c3 c4 : Array Value) (t0 t1 t2 t3 t4 : TypeId) : Prop where
  b0 : wr.heap[w.heap.size]? = some (.cells c0 t0 (0, 0))
  b1 : wr.heap[w.heap.size + 1]? = some (.cells c1 t1 (0, 0))
  b2 : wr.heap[w.heap.size + 1 + 1]? = some (.cells c2 t2 (0, 0))
  b3 : wr.heap[w.heap.size + 1 + 1 + 1]? = some (.cells c3 t3 (0, 0))
  b4 : wr.heap[w.heap.size + 1 + 1 + 1 + 1]? = some (.cells c4 t4 (0, 0))
  below : Below w.heap.size w wr
theorem B5.start (w : World) (c0 c1 c2 c3 c4 : Array Value) (t0 t1 t2 t3 t4 : TypeId) : B5 w (((((w.alloc (.cells c0 t0)).alloc (.cells c1 t1)).alloc (.cells c2 t2)).alloc (.cells c3 t3)).alloc (.cells c4 t4)) c0 c1 c2 c3 c4 t0 t1 t2 t3 t4 := by
  have e1 : ∀ o0 : Obj, (w.alloc o0).heap.size = w.heap.size + 1 := by simp
  have e2 : ∀ o0 o1 : Obj, ((w.alloc o0).alloc o1).heap.size = w.heap.size + 1 + 1 := by simp
  have e3 : ∀ o0 o1 o2 : Obj, (((w.alloc o0).alloc o1).alloc o2).heap.size = w.heap.size + 1 + 1 + 1 := by simp
  have e4 : ∀ o0 o1 o2 o3 : Obj, ((((w.alloc o0).alloc o1).alloc o2).alloc o3).heap.size = w.heap.size + 1 + 1 + 1 + 1 := by simp
  refine ⟨?_, ?_, ?_, ?_, ?_, ((((((Below.refl _ w).alloc (by exact Nat.le_refl _) _).alloc (by rw [e1]; omega) _).alloc (by rw [e2]; omega) _).alloc (by rw [e3]; omega) _).alloc (by rw [e4]; omega) _)⟩
  · exact blk_alloc (blk_alloc (blk_alloc (blk_alloc (blk_new _ _) _) _) _) _
  · rw [← e1 (.cells c0 t0)]
    exact blk_alloc (blk_alloc (blk_alloc (blk_new _ _) _) _) _
  · rw [← e2 (.cells c0 t0) (.cells c1 t1)]
    exact blk_alloc (blk_alloc (blk_new _ _) _) _
  · rw [← e3 (.cells c0 t0) (.cells c1 t1) (.cells c2 t2)]
    exact blk_alloc (blk_new _ _) _
  · rw [← e4 (.cells c0 t0) (.cells c1 t1) (.cells c2 t2) (.cells c3 t3)]
    exact blk_new _ _
theorem B5.drewN {w wr : World} {c0 c1 c2 c3 c4 : Array Value} {t0 t1 t2 t3 t4 : TypeId} (h : B5 w wr c0 c1 c2 c3 c4 t0 t1 t2 t3 t4) (k : Nat) : B5 w (wr.drewN k) c0 c1 c2 c3 c4 t0 t1 t2 t3 t4 := ⟨h.b0, h.b1, h.b2, h.b3, h.b4, Go.Proofs.YtoljnogpegemjaaDoor.Below.drewN h.below k⟩
theorem B5.drew {w wr : World} {c0 c1 c2 c3 c4 : Array Value} {t0 t1 t2 t3 t4 : TypeId} (h : B5 w wr c0 c1 c2 c3 c4 t0 t1 t2 t3 t4) : B5 w wr.drew c0 c1 c2 c3 c4 t0 t1 t2 t3 t4 := ⟨h.b0, h.b1, h.b2, h.b3, h.b4, ⟨h.below.os, h.below.tape, h.below.output, h.below.size, h.below.block⟩⟩
theorem B5.after {w wr w' : World} {c0 c1 c2 c3 c4 : Array Value} {t0 t1 t2 t3 t4 : TypeId} (h : B5 w wr c0 c1 c2 c3 c4 t0 t1 t2 t3 t4) (b : Below wr.heap.size wr w') : B5 w w' c0 c1 c2 c3 c4 t0 t1 t2 t3 t4 := ⟨Below.blk b h.b0 (blk_lt h.b0), Below.blk b h.b1 (blk_lt h.b1), Below.blk b h.b2 (blk_lt h.b2), Below.blk b h.b3 (blk_lt h.b3), Below.blk b h.b4 (blk_lt h.b4), h.below.trans (b.mono h.below.size)⟩
theorem B5.alloc {w wr : World} {c0 c1 c2 c3 c4 : Array Value} {t0 t1 t2 t3 t4 : TypeId} (h : B5 w wr c0 c1 c2 c3 c4 t0 t1 t2 t3 t4) (o : Obj) : B5 w (wr.alloc o) c0 c1 c2 c3 c4 t0 t1 t2 t3 t4 := h.after ((Below.refl _ wr).alloc (Nat.le_refl _) o)
theorem B5.set0 {w wr : World} {c0 c1 c2 c3 c4 : Array Value} {t0 t1 t2 t3 t4 : TypeId} (h : B5 w wr c0 c1 c2 c3 c4 t0 t1 t2 t3 t4) (i : Nat) (v : Value) : B5 w (wr.setCell ⟨w.heap.size, i, none⟩ v) (c0.setIfInBounds i v) c1 c2 c3 c4 t0 t1 t2 t3 t4 := ⟨blk_setCell h.b0 v, blk_setCell_ne h.b1 _ (by omega), blk_setCell_ne h.b2 _ (by omega), blk_setCell_ne h.b3 _ (by omega), blk_setCell_ne h.b4 _ (by omega), h.below.setCell (p := ⟨w.heap.size, i, none⟩) (by simp) _⟩
theorem B5.put0 {w wr w' : World} {c0 c1 c2 c3 c4 d : Array Value} {t0 t1 t2 t3 t4 : TypeId} (h : B5 w wr c0 c1 c2 c3 c4 t0 t1 t2 t3 t4) (k : Kept (fun x => x = w.heap.size) wr w') (hd : w'.heap[w.heap.size]? = some (.cells d t0 (0, 0))) : B5 w w' d c1 c2 c3 c4 t0 t1 t2 t3 t4 := ⟨hd, k.blk h.b1 (by omega), k.blk h.b2 (by omega), k.blk h.b3 (by omega), k.blk h.b4 (by omega), h.below.trans (k.toBelow h.below.size (by rintro i rfl; omega))⟩
theorem B5.set1 {w wr : World} {c0 c1 c2 c3 c4 : Array Value} {t0 t1 t2 t3 t4 : TypeId} (h : B5 w wr c0 c1 c2 c3 c4 t0 t1 t2 t3 t4) (i : Nat) (v : Value) : B5 w (wr.setCell ⟨w.heap.size + 1, i, none⟩ v) c0 (c1.setIfInBounds i v) c2 c3 c4 t0 t1 t2 t3 t4 := ⟨blk_setCell_ne h.b0 _ (by omega), blk_setCell h.b1 v, blk_setCell_ne h.b2 _ (by omega), blk_setCell_ne h.b3 _ (by omega), blk_setCell_ne h.b4 _ (by omega), h.below.setCell (p := ⟨w.heap.size + 1, i, none⟩) (by simp) _⟩
theorem B5.put1 {w wr w' : World} {c0 c1 c2 c3 c4 d : Array Value} {t0 t1 t2 t3 t4 : TypeId} (h : B5 w wr c0 c1 c2 c3 c4 t0 t1 t2 t3 t4) (k : Kept (fun x => x = w.heap.size + 1) wr w') (hd : w'.heap[w.heap.size + 1]? = some (.cells d t1 (0, 0))) : B5 w w' c0 d c2 c3 c4 t0 t1 t2 t3 t4 := ⟨k.blk h.b0 (by omega), hd, k.blk h.b2 (by omega), k.blk h.b3 (by omega), k.blk h.b4 (by omega), h.below.trans (k.toBelow h.below.size (by rintro i rfl; omega))⟩
theorem B5.set2 {w wr : World} {c0 c1 c2 c3 c4 : Array Value} {t0 t1 t2 t3 t4 : TypeId} (h : B5 w wr c0 c1 c2 c3 c4 t0 t1 t2 t3 t4) (i : Nat) (v : Value) : B5 w (wr.setCell ⟨w.heap.size + 1 + 1, i, none⟩ v) c0 c1 (c2.setIfInBounds i v) c3 c4 t0 t1 t2 t3 t4 := ⟨blk_setCell_ne h.b0 _ (by omega), blk_setCell_ne h.b1 _ (by omega), blk_setCell h.b2 v, blk_setCell_ne h.b3 _ (by omega), blk_setCell_ne h.b4 _ (by omega), h.below.setCell (p := ⟨w.heap.size + 1 + 1, i, none⟩) (by simp; omega) _⟩
theorem B5.put2 {w wr w' : World} {c0 c1 c2 c3 c4 d : Array Value} {t0 t1 t2 t3 t4 : TypeId} (h : B5 w wr c0 c1 c2 c3 c4 t0 t1 t2 t3 t4) (k : Kept (fun x => x = w.heap.size + 1 + 1) wr w') (hd : w'.heap[w.heap.size + 1 + 1]? = some (.cells d t2 (0, 0))) : B5 w w' c0 c1 d c3 c4 t0 t1 t2 t3 t4 := ⟨k.blk h.b0 (by omega), k.blk h.b1 (by omega), hd, k.blk h.b3 (by omega), k.blk h.b4 (by omega), h.below.trans (k.toBelow h.below.size (by rintro i rfl; omega))⟩
theorem B5.set3 {w wr : World} {c0 c1 c2 c3 c4 : Array Value} {t0 t1 t2 t3 t4 : TypeId} (h : B5 w wr c0 c1 c2 c3 c4 t0 t1 t2 t3 t4) (i : Nat) (v : Value) : B5 w (wr.setCell ⟨w.heap.size + 1 + 1 + 1, i, none⟩ v) c0 c1 c2 (c3.setIfInBounds i v) c4 t0 t1 t2 t3 t4 := ⟨blk_setCell_ne h.b0 _ (by omega), blk_setCell_ne h.b1 _ (by omega), blk_setCell_ne h.b2 _ (by omega), blk_setCell h.b3 v, blk_setCell_ne h.b4 _ (by omega), h.below.setCell (p := ⟨w.heap.size + 1 + 1 + 1, i, none⟩) (by simp; omega) _⟩
theorem B5.put3 {w wr w' : World} {c0 c1 c2 c3 c4 d : Array Value} {t0 t1 t2 t3 t4 : TypeId} (h : B5 w wr c0 c1 c2 c3 c4 t0 t1 t2 t3 t4) (k : Kept (fun x => x = w.heap.size + 1 + 1 + 1) wr w') (hd : w'.heap[w.heap.size + 1 + 1 + 1]? = some (.cells d t3 (0, 0))) : B5 w w' c0 c1 c2 d c4 t0 t1 t2 t3 t4 := ⟨k.blk h.b0 (by omega), k.blk h.b1 (by omega), k.blk h.b2 (by omega), hd, k.blk h.b4 (by omega), h.below.trans (k.toBelow h.below.size (by rintro i rfl; omega))⟩
theorem B5.set4 {w wr : World} {c0 c1 c2 c3 c4 : Array Value} {t0 t1 t2 t3 t4 : TypeId} (h : B5 w wr c0 c1 c2 c3 c4 t0 t1 t2 t3 t4) (i : Nat) (v : Value) : B5 w (wr.setCell ⟨w.heap.size + 1 + 1 + 1 + 1, i, none⟩ v) c0 c1 c2 c3 (c4.setIfInBounds i v) t0 t1 t2 t3 t4 := ⟨blk_setCell_ne h.b0 _ (by omega), blk_setCell_ne h.b1 _ (by omega), blk_setCell_ne h.b2 _ (by omega), blk_setCell_ne h.b3 _ (by omega), blk_setCell h.b4 v, h.below.setCell (p := ⟨w.heap.size + 1 + 1 + 1 + 1, i, none⟩) (by simp; omega) _⟩
theorem B5.put4 {w wr w' : World} {c0 c1 c2 c3 c4 d : Array Value} {t0 t1 t2 t3 t4 : TypeId} (h : B5 w wr c0 c1 c2 c3 c4 t0 t1 t2 t3 t4) (k : Kept (fun x => x = w.heap.size + 1 + 1 + 1 + 1) wr w') (hd : w'.heap[w.heap.size + 1 + 1 + 1 + 1]? = some (.cells d t4 (0, 0))) : B5 w w' c0 c1 c2 c3 d t0 t1 t2 t3 t4 := ⟨k.blk h.b0 (by omega), k.blk h.b1 (by omega), k.blk h.b2 (by omega), k.blk h.b3 (by omega), hd, h.below.trans (k.toBelow h.below.size (by rintro i rfl; omega))⟩
theorem B5.far {w wr : World} {c0 c1 c2 c3 c4 : Array Value} {t0 t1 t2 t3 t4 : TypeId} (h : B5 w wr c0 c1 c2 c3 c4 t0 t1 t2 t3 t4) (g i : Nat) (v : Value) (hg : w.heap.size + 1 + 1 + 1 + 1 < g) : B5 w (wr.setCell ⟨g, i, none⟩ v) c0 c1 c2 c3 c4 t0 t1 t2 t3 t4 := ⟨blk_setCell_ne h.b0 _ (by omega), blk_setCell_ne h.b1 _ (by omega), blk_setCell_ne h.b2 _ (by omega), blk_setCell_ne h.b3 _ (by omega), blk_setCell_ne h.b4 _ (by omega), h.below.setCell (p := ⟨g, i, none⟩) (by simp; omega) _⟩
theorem B5.farK {w wr w' : World} {c0 c1 c2 c3 c4 : Array Value} {t0 t1 t2 t3 t4 : TypeId} {T : Nat → Prop} (h : B5 w wr c0 c1 c2 c3 c4 t0 t1 t2 t3 t4) (k : Kept T wr w') (hT : ∀ i, T i → w.heap.size + 1 + 1 + 1 + 1 < i) : B5 w w' c0 c1 c2 c3 c4 t0 t1 t2 t3 t4 := ⟨k.blk h.b0 (fun e => by have := hT _ e; omega), k.blk h.b1 (fun e => by have := hT _ e; omega), k.blk h.b2 (fun e => by have := hT _ e; omega), k.blk h.b3 (fun e => by have := hT _ e; omega), k.blk h.b4 (fun e => by have := hT _ e; omega), h.below.trans (k.toBelow h.below.size (fun i hi => by have := hT i hi; omega))⟩

end Go.Proofs.YtoljnogpegemjaaDoor
namespace Go.Proofs.YtoljnogpegemjaaDoor.Lm
open Go.RowKit
theorem zero4 (w : World) : (zeroValue 241).run Tryd.prog w = .ok (.agg (arr .u64 (List.replicate 4 0))) w := by kernel_rfl
theorem size4 : (Tryd.prog.info? 241).map (·.size) = some 4 := by kernel_rfl
theorem sub_bits (x y b : Nat) (hx : x < 18446744073709551616) (hy : y < 18446744073709551616) (hb : b ≤ 1) : (x + 18446744073709551616 - y - b) % 18446744073709551616 + y + b = x + 18446744073709551616 * (if x < y + b then 1 else 0) := by
  split <;> omega
theorem nar4 (xs : List Nat) (hl : xs.length = 4) : (arr .u64 (nar xs)).size = (arr .u64 (List.replicate 4 0)).size := by rw [arr_size, arr_size, nar_len, hl, List.length_replicate]
theorem nar4s (xs : List Nat) (hl : xs.length = 4) : (Tryd.prog.info? 241).map (·.size) = some (arr .u64 (nar xs)).size := by rw [arr_size, nar_len, hl]; exact size4
theorem nar4i (xs : List Nat) (hl : xs.length = 4) : (Tryd.prog.info? 241).map (·.size) = some (nar xs).length := by rw [nar_len, hl]; exact size4
theorem take4 (xs : List Nat) (hl : xs.length = 4) : xs.take 4 = xs := List.take_of_length_le (by omega)
theorem add_fin (X Y S c : Nat) (h : S + 18446744073709551616 ^ 4 * c = X + Y) (hS : S < 18446744073709551616 ^ 4) : S = (X + Y) % 18446744073709551616 ^ 4 ∧ c = (X + Y) / 18446744073709551616 ^ 4 := by
  rw [← h, Nat.add_mul_mod_self_left, Nat.mod_eq_of_lt hS, Nat.add_mul_div_left _ _ (by decide), Nat.div_eq_of_lt hS, Nat.zero_add]
  exact ⟨rfl, rfl⟩
theorem sub_fin (X Y S c : Nat) (h : S + Y = X + 18446744073709551616 ^ 4 * c) (hS : S < 18446744073709551616 ^ 4) (hY : Y < 18446744073709551616 ^ 4) (hc : c ≤ 1) : S = (X + 18446744073709551616 ^ 4 - Y) % 18446744073709551616 ^ 4 ∧ c = (if X < Y then 1 else 0) := by
  have : c = 0 ∨ c = 1 := by omega
  generalize 18446744073709551616 ^ 4 = P at h hS hY ⊢
  rcases this with rfl | rfl
  · rw [if_neg (by omega)]
    rw [show X + P - Y = S + P by omega, Nat.add_mod_right, Nat.mod_eq_of_lt hS]
    exact ⟨rfl, rfl⟩
  · rw [if_pos (by omega), show X + P - Y = S by omega, Nat.mod_eq_of_lt hS]
    exact ⟨rfl, rfl⟩

set_option maxRecDepth 100000 in
set_option maxHeartbeats 1000000 in
theorem ladd_any (xs ys : List Nat) (w : World) (lx : xs.length = 4) (ly : ys.length = 4) (bx : ∀ x ∈ xs, x < 18446744073709551616) (bby : ∀ x ∈ ys, x < 18446744073709551616) :
    Calls Tryd.prog 200 #[.agg (arr .u64 (nar xs)), .agg (arr .u64 (nar ys))] w fun e w' => e = .returned (.tuple #[.agg (arr .u64 (nar (dig 18446744073709551616 4 ((val 18446744073709551616 xs + val 18446744073709551616 ys) % 18446744073709551616 ^ 4)))), .int .u64 (((val 18446744073709551616 xs + val 18446744073709551616 ys) / 18446744073709551616 ^ 4 : Nat) : Int)]) ∧ Below w.heap.size w w' := by
  have S0 := Lib.hid (B4.start w (arr .u64 (nar xs)) (arr .u64 (nar ys)) (arr .u64 (List.replicate 4 0)) (arr .u64 (List.replicate 4 0)) 241 241 241 241)
  obtain ⟨av, hav⟩ : ∃ av, av = (val 18446744073709551616 xs + val 18446744073709551616 ys) / 18446744073709551616 ^ 4 := ⟨_, rfl⟩
  rw [← hav]
  have HAV := Lib.hid hav
  have LX := Lib.hid lx
  have LY := Lib.hid ly
  have BX := Lib.hid bx
  have BY := Lib.hid bby
  clear lx ly bx bby hav
  go_enter Tryd.func200, Tryd.ntmps200
  go_wp2_with (first | ((with_reducible show wpList _ _ _ (Oper.mk (some 4) _ _ _ _ _ :: _) _ _); refine wpList_alloc_row rfl 241 rfl _ (zero4 _) ?_) | ((with_reducible show wpList _ _ _ (Oper.mk (some 6) _ _ _ _ _ :: _) _ _); refine wpList_alloc_row rfl 241 rfl _ (zero4 _) ?_))
  go_loopw [7, 9] (fun c i wr => ∃ (j cc : Nat) (os : List Nat), j ≤ 4 ∧ i = .int .i64 j ∧ c = .int .u64 cc ∧ cc ≤ 1 ∧ os.length = 4 ∧ (∀ x ∈ os, x < 18446744073709551616) ∧ val 18446744073709551616 (os.take j) + 18446744073709551616 ^ j * cc = val 18446744073709551616 (xs.take j) + val 18446744073709551616 (ys.take j) ∧ B4 w wr (arr .u64 (nar xs)) (arr .u64 (nar ys)) (arr .u64 (List.replicate 4 0)) (arr .u64 (nar os)) 241 241 241 241) (fun _ i _ => 4 - (intOf i).toNat)
  case atStart => exact ⟨0, 0, List.replicate 4 0, Nat.zero_le _, rfl, rfl, by omega, by simp, by simp, by simp [val], by rw [nar_zeros]; exact S0.out⟩
  clear S0
  case round =>
  obtain ⟨j, cc, os, hj, rfl, rfl, hcc, hol, hob, hv, hB⟩ := hrel
  by_cases hlt : j < 4
  · have q0 := blk_arr' hB.b0 j (by rw [nar_len, LX.out]; exact hlt)
    have q1 := blk_arr' hB.b1 j (by rw [nar_len, LY.out]; exact hlt)
    have q2 := blk_arr' hB.b3 j (by rw [nar_len, hol]; exact hlt)
    have q3 := free_blk hB.b3 j
    rw [nar_get] at q0 q1
    have x1 := lt_getD BX.out (by omega) j
    have y1 := lt_getD BY.out (by omega) j
    generalize hx : xs.getD j 0 = x at q0 x1
    generalize hy : ys.getD j 0 = y at q1 y1
    have hb1 := hB.set3 j (.int .u64 (((x + y + cc) % 18446744073709551616 : Nat) : Int))
    rw [arr_set, ← nar_set] at hb1
    have HB1 := Lib.hid hb1
    have HREL : Hid (val 18446744073709551616 ((os.set j ((x + y + cc) % 18446744073709551616)).take (j + 1)) + 18446744073709551616 ^ (j + 1) * ((x + y + cc) / 18446744073709551616) = val 18446744073709551616 (xs.take (j + 1)) + val 18446744073709551616 (ys.take (j + 1))) := Lib.hid (by
      rw [val_take_set _ _ _ _ (by omega), val_take_succ _ xs _ (by rw [LX.out]; exact hlt), val_take_succ _ ys _ (by rw [LY.out]; exact hlt), hx, hy]
      exact add_step 18446744073709551616 j _ _ _ x y cc _ _ hv (by omega))
    have HO1 : Hid ((os.set j ((x + y + cc) % 18446744073709551616)).length = 4) := Lib.hid (by simpa using hol)
    have HO2 : Hid (∀ z ∈ os.set j ((x + y + cc) % 18446744073709551616), z < 18446744073709551616) := Lib.hid (by exact lt_set hob j _ (Nat.mod_lt _ (by omega)))
    have HC : Hid ((x + y + cc) / 18446744073709551616 ≤ 1) := Lib.hid (by omega)
    have hadd := add64 x y cc hcc
    clear hb1 hB hol hob hv hx hy x1 y1 hcc
    go_wp2_with fail
    go_region
    clear hadd q0 q1 q2 q3
    go_wp2_with fail
    go_roundw
    case rel => exact ⟨j + 1, _, _, by omega, by go_num, rfl, HC.out, HO1.out, HO2.out, HREL.out, HB1.out.drew⟩
    case measure => simp [intOf]; omega
  · have e4 : j = 4 := by omega
    rw [e4, take4 os hol, take4 xs LX.out, take4 ys LY.out] at hv
    obtain ⟨f1, f2⟩ := add_fin _ _ _ _ hv (by have := val_lt 18446744073709551616 os hob; rwa [hol] at this)
    have HD := Lib.hid ((dig_eq 18446744073709551616 (by omega) 4 _ os hol hob f1).symm)
    have HF2 := Lib.hid f2
    have HB := Lib.hid hB
    have HOL := Lib.hid hol
    clear hB hv hol hob f1 f2 e4 hcc
    go_wp2_with (first | ((with_reducible show wpList _ _ _ (Oper.mk (some 26) _ _ _ _ _ :: _) _ _); refine wpList_load_part rfl 241 _ rfl (w.heap.size + 1 + 1 + 1) 0 _ 241 (0, 0) _ HB.out.b3 rfl .u64 (nar os) (arr_part _ _) Tryd.underlying241 rfl (nar4i os HOL.out) ?_) | ((with_reducible show wpList _ _ _ (Oper.mk none _ _ _ _ _ :: _) _ _); refine wpList_store_whole rfl 241 _ _ rfl (w.heap.size + 1 + 1) _ _ 241 HB.out.b2 rfl rfl (nar4 os HOL.out) (nar4s os HOL.out) (all_arr _ _) ?_; intro w7 hb7 hk7 hz7; have HB7 := Lib.hid (HB.out.put2 hk7 hb7); clear hb7 hk7 hz7))
    (try simp only [Exit.inBlock, Exit.then])
    refine bodyPost_ret (results_cell_tmp_row rfl _ _ (w.heap.size + 1 + 1) 241 _ (0, 0) _ _ rfl HB7.out.b2 Tryd.underlying241 rfl (nar4s os HOL.out) rfl) rfl ?_
    rw [HD.out, HAV.out, ← HF2.out]
    exact ⟨rfl, HB7.out.below⟩

set_option maxRecDepth 100000 in
set_option maxHeartbeats 1000000 in
theorem lsub_any (xs ys : List Nat) (w : World) (lx : xs.length = 4) (ly : ys.length = 4) (bx : ∀ x ∈ xs, x < 18446744073709551616) (bby : ∀ x ∈ ys, x < 18446744073709551616) :
    Calls Tryd.prog 197 #[.agg (arr .u64 (nar xs)), .agg (arr .u64 (nar ys))] w fun e w' => e = .returned (.tuple #[.agg (arr .u64 (nar (dig 18446744073709551616 4 ((val 18446744073709551616 xs + 18446744073709551616 ^ 4 - val 18446744073709551616 ys) % 18446744073709551616 ^ 4)))), .int .u64 (((if val 18446744073709551616 xs < val 18446744073709551616 ys then 1 else 0) : Nat) : Int)]) ∧ Below w.heap.size w w' := by
  have S0 := Lib.hid (B4.start w (arr .u64 (nar xs)) (arr .u64 (nar ys)) (arr .u64 (List.replicate 4 0)) (arr .u64 (List.replicate 4 0)) 241 241 241 241)
  obtain ⟨av, hav⟩ : ∃ av, av = (if val 18446744073709551616 xs < val 18446744073709551616 ys then 1 else 0) := ⟨_, rfl⟩
  rw [← hav]
  have HAV := Lib.hid hav
  have LX := Lib.hid lx
  have LY := Lib.hid ly
  have BX := Lib.hid bx
  have BY := Lib.hid bby
  clear lx ly bx bby hav
  go_enter Tryd.func197, Tryd.ntmps197
  go_wp2_with (first | ((with_reducible show wpList _ _ _ (Oper.mk (some 4) _ _ _ _ _ :: _) _ _); refine wpList_alloc_row rfl 241 rfl _ (zero4 _) ?_) | ((with_reducible show wpList _ _ _ (Oper.mk (some 6) _ _ _ _ _ :: _) _ _); refine wpList_alloc_row rfl 241 rfl _ (zero4 _) ?_))
  go_loopw [7, 9] (fun c i wr => ∃ (j cc : Nat) (os : List Nat), j ≤ 4 ∧ i = .int .i64 j ∧ c = .int .u64 cc ∧ cc ≤ 1 ∧ os.length = 4 ∧ (∀ x ∈ os, x < 18446744073709551616) ∧ val 18446744073709551616 (os.take j) + val 18446744073709551616 (ys.take j) = val 18446744073709551616 (xs.take j) + 18446744073709551616 ^ j * cc ∧ B4 w wr (arr .u64 (nar xs)) (arr .u64 (nar ys)) (arr .u64 (List.replicate 4 0)) (arr .u64 (nar os)) 241 241 241 241) (fun _ i _ => 4 - (intOf i).toNat)
  case atStart => exact ⟨0, 0, List.replicate 4 0, Nat.zero_le _, rfl, rfl, by omega, by simp, by simp, by simp [val], by rw [nar_zeros]; exact S0.out⟩
  clear S0
  case round =>
  obtain ⟨j, cc, os, hj, rfl, rfl, hcc, hol, hob, hv, hB⟩ := hrel
  by_cases hlt : j < 4
  · have q0 := blk_arr' hB.b0 j (by rw [nar_len, LX.out]; exact hlt)
    have q1 := blk_arr' hB.b1 j (by rw [nar_len, LY.out]; exact hlt)
    have q2 := blk_arr' hB.b3 j (by rw [nar_len, hol]; exact hlt)
    have q3 := free_blk hB.b3 j
    rw [nar_get] at q0 q1
    have x1 := lt_getD BX.out (by omega) j
    have y1 := lt_getD BY.out (by omega) j
    generalize hx : xs.getD j 0 = x at q0 x1
    generalize hy : ys.getD j 0 = y at q1 y1
    have hb1 := hB.set3 j (.int .u64 (((x + 18446744073709551616 - y - cc) % 18446744073709551616 : Nat) : Int))
    rw [arr_set, ← nar_set] at hb1
    have HB1 := Lib.hid hb1
    have HREL : Hid (val 18446744073709551616 ((os.set j ((x + 18446744073709551616 - y - cc) % 18446744073709551616)).take (j + 1)) + val 18446744073709551616 (ys.take (j + 1)) = val 18446744073709551616 (xs.take (j + 1)) + 18446744073709551616 ^ (j + 1) * ((if x < y + cc then 1 else 0))) := Lib.hid (by
      rw [val_take_set _ _ _ _ (by omega), val_take_succ _ xs _ (by rw [LX.out]; exact hlt), val_take_succ _ ys _ (by rw [LY.out]; exact hlt), hx, hy]
      exact sub_step 18446744073709551616 j _ _ _ x y cc _ _ hv (sub_bits x y cc x1 y1 hcc))
    have HO1 : Hid ((os.set j ((x + 18446744073709551616 - y - cc) % 18446744073709551616)).length = 4) := Lib.hid (by simpa using hol)
    have HO2 : Hid (∀ z ∈ os.set j ((x + 18446744073709551616 - y - cc) % 18446744073709551616), z < 18446744073709551616) := Lib.hid (by exact lt_set hob j _ (Nat.mod_lt _ (by omega)))
    have HC : Hid ((if x < y + cc then 1 else 0) ≤ 1) := Lib.hid (by split <;> omega)
    have hadd := sub64 x y cc hcc
    clear hb1 hB hol hob hv hx hy x1 y1 hcc
    go_wp2_with fail
    go_region
    clear hadd q0 q1 q2 q3
    go_wp2_with fail
    go_roundw
    case rel => exact ⟨j + 1, _, _, by omega, by go_num, rfl, HC.out, HO1.out, HO2.out, HREL.out, HB1.out.drew⟩
    case measure => simp [intOf]; omega
  · have e4 : j = 4 := by omega
    rw [e4, take4 os hol, take4 xs LX.out, take4 ys LY.out] at hv
    obtain ⟨f1, f2⟩ := sub_fin _ _ _ _ hv (by have := val_lt 18446744073709551616 os hob; rwa [hol] at this) (by have := val_lt 18446744073709551616 ys BY.out; rwa [LY.out] at this) hcc
    have HD := Lib.hid ((dig_eq 18446744073709551616 (by omega) 4 _ os hol hob f1).symm)
    have HF2 := Lib.hid f2
    have HB := Lib.hid hB
    have HOL := Lib.hid hol
    clear hB hv hol hob f1 f2 e4 hcc
    go_wp2_with (first | ((with_reducible show wpList _ _ _ (Oper.mk (some 26) _ _ _ _ _ :: _) _ _); refine wpList_load_part rfl 241 _ rfl (w.heap.size + 1 + 1 + 1) 0 _ 241 (0, 0) _ HB.out.b3 rfl .u64 (nar os) (arr_part _ _) Tryd.underlying241 rfl (nar4i os HOL.out) ?_) | ((with_reducible show wpList _ _ _ (Oper.mk none _ _ _ _ _ :: _) _ _); refine wpList_store_whole rfl 241 _ _ rfl (w.heap.size + 1 + 1) _ _ 241 HB.out.b2 rfl rfl (nar4 os HOL.out) (nar4s os HOL.out) (all_arr _ _) ?_; intro w7 hb7 hk7 hz7; have HB7 := Lib.hid (HB.out.put2 hk7 hb7); clear hb7 hk7 hz7))
    (try simp only [Exit.inBlock, Exit.then])
    refine bodyPost_ret (results_cell_tmp_row rfl _ _ (w.heap.size + 1 + 1) 241 _ (0, 0) _ _ rfl HB7.out.b2 Tryd.underlying241 rfl (nar4s os HOL.out) rfl) rfl ?_
    rw [HD.out, HAV.out, ← HF2.out]
    exact ⟨rfl, HB7.out.below⟩

end Go.Proofs.YtoljnogpegemjaaDoor.Lm
namespace Go.Proofs.YtoljnogpegemjaaDoor.Lm
open Go.RowKit
theorem nar32i (xs : List Nat) (hl : xs.length = 32) : (Tryd.prog.info? 23).map (·.size) = some (nar xs).length := by rw [nar_len, hl]; kernel_rfl

theorem or_shl (x y s : Nat) (hs : s ≤ 56) (hx : x < 2 ^ s) (hy : y < 256) : bits .or .u64 (x : Int) (IntKind.u64.wrap ((y : Int) * 2 ^ s)) = ((x + y * 2 ^ s : Nat) : Int) := by
  have hp : 2 ^ s ≤ 2 ^ 56 := Nat.pow_le_pow_right (by omega) hs
  have h2 : y * 2 ^ s ≤ 255 * 2 ^ 56 := Nat.mul_le_mul (by omega) hp
  have e1 : IntKind.u64.wrap ((y : Int) * 2 ^ s) = ((y * 2 ^ s : Nat) : Int) := by
    rw [show (y : Int) * 2 ^ s = ((y * 2 ^ s : Nat) : Int) by push_cast; rfl, IntKind.wrap_u64]
    omega
  rw [e1]
  have hx1 : (BitVec.ofInt 64 (x : Int)).toNat = x := by rw [BitVec.ofInt_natCast, BitVec.toNat_ofNat]; exact Nat.mod_eq_of_lt (by omega)
  have hx2 : (BitVec.ofInt 64 ((y * 2 ^ s : Nat) : Int)).toNat = y * 2 ^ s := by rw [BitVec.ofInt_natCast, BitVec.toNat_ofNat]; exact Nat.mod_eq_of_lt (by omega)
  show IntKind.u64.wrap ((BitVec.ofInt 64 (x : Int) ||| BitVec.ofInt 64 ((y * 2 ^ s : Nat) : Int)).toNat : Int) = _
  rw [BitVec.toNat_or, hx1, hx2, Nat.or_comm, Nat.mul_comm y, ← Nat.two_pow_add_eq_or_of_lt hx, IntKind.wrap_u64, Nat.mul_comm _ y]
  omega
theorem pow_split (j : Nat) : 256 ^ j = 18446744073709551616 ^ (j / 8) * 2 ^ (8 * (j % 8)) := by
  rw [show (256 : Nat) = 2 ^ 8 by rfl, show (18446744073709551616 : Nat) = 2 ^ 64 by rfl, ← Nat.pow_mul, ← Nat.pow_mul, ← Nat.pow_add]
  congr 1
  omega
theorem of_step (v j x y : Nat) (os : List Nat) (hj : j < 32) (hos : os = dig 18446744073709551616 4 v) (hv : v < 256 ^ j) (hx : os.getD (j / 8) 0 = x) (hy : y < 256) :
    x < 2 ^ (8 * (j % 8)) ∧ os.set (j / 8) (x + y * 2 ^ (8 * (j % 8))) = dig 18446744073709551616 4 (v + 256 ^ j * y) := by
  have e := pow_split j
  have hs : 8 * (j % 8) ≤ 56 := by omega
  have hol : os.length = 4 := by rw [hos, dig_len]
  have hx2 : x < 2 ^ (8 * (j % 8)) := by
    rw [← hx, hos, dig_get _ _ _ _ (by omega)]
    refine Nat.lt_of_le_of_lt (Nat.mod_le _ _) (Nat.div_lt_of_lt_mul ?_)
    rw [← e]; exact hv
  refine ⟨hx2, ?_⟩
  have hp : 2 ^ (8 * (j % 8)) ≤ 2 ^ 56 := Nat.pow_le_pow_right (by omega) hs
  have h2 : y * 2 ^ (8 * (j % 8)) ≤ 255 * 2 ^ (8 * (j % 8)) := Nat.mul_le_mul (by omega) (Nat.le_refl _)
  refine dig_eq 18446744073709551616 (by decide) 4 _ _ (by simpa using hol) (lt_set (by rw [hos]; exact dig_lt _ (by decide) _ _) _ _ (by omega)) ?_
  have h3 := val_set 18446744073709551616 os (j / 8) (x + y * 2 ^ (8 * (j % 8))) (by omega)
  have h4 : val 18446744073709551616 os = v := by
    rw [hos, val_dig]
    refine Nat.mod_eq_of_lt (Nat.lt_of_lt_of_le hv ?_)
    exact Nat.le_trans (Nat.pow_le_pow_right (by decide) (show j ≤ 32 by omega)) (by decide)
  have h5 : 18446744073709551616 ^ (j / 8) * (y * 2 ^ (8 * (j % 8))) = 256 ^ j * y := by rw [e, Nat.mul_comm y, Nat.mul_assoc]
  rw [hx, h4, Nat.mul_add, h5] at h3
  omega

set_option maxRecDepth 100000 in
set_option maxHeartbeats 1000000 in
theorem of_any (ks : List Nat) (w : World) (lk : ks.length = 32) (bk : ∀ x ∈ ks, x < 256) :
    Calls Tryd.prog 199 #[.agg (arr .u8 (nar ks))] w fun e w' => e = .returned (.agg (arr .u64 (nar (dig 18446744073709551616 4 (val 256 ks))))) ∧ Below w.heap.size w w' := by
  have S0 := Lib.hid (B3.start w (arr .u8 (nar ks)) (arr .u64 (List.replicate 4 0)) (arr .u64 (List.replicate 4 0)) 23 241 241)
  have LK := Lib.hid lk
  have BK := Lib.hid bk
  clear lk bk
  go_enter Tryd.func199, Tryd.ntmps199
  go_wp2_with (first | ((with_reducible show wpList _ _ _ (Oper.mk (some 2) _ _ _ _ _ :: _) _ _); refine wpList_alloc_row rfl 241 rfl _ (zero4 _) ?_) | ((with_reducible show wpList _ _ _ (Oper.mk (some 3) _ _ _ _ _ :: _) _ _); refine wpList_alloc_row rfl 241 rfl _ (zero4 _) ?_) | ((with_reducible show wpList _ _ _ (Oper.mk (some 6) _ _ _ _ _ :: _) _ _); refine wpList_load_part rfl 23 _ rfl (w.heap.size) 0 _ 23 (0, 0) _ S0.out.b0 rfl .u8 (nar ks) (arr_part _ _) Tryd.underlying23 rfl (nar32i ks LK.out) ?_))
  go_loopw [7] (fun i wr => ∃ (j : Nat) (os : List Nat), j ≤ 32 ∧ i = .int .i64 j ∧ os = dig 18446744073709551616 4 (val 256 (ks.take j)) ∧ B3 w wr (arr .u8 (nar ks)) (arr .u64 (List.replicate 4 0)) (arr .u64 (nar os)) 23 241 241) (fun i _ => 32 - (intOf i).toNat)
  case atStart => exact ⟨0, List.replicate 4 0, Nat.zero_le _, rfl, by rw [List.take_zero]; decide, by rw [nar_zeros]; exact S0.out⟩
  clear S0
  case round =>
  obtain ⟨j, os, hj, rfl, hos, hB⟩ := hrel
  have hol : os.length = 4 := by rw [hos, dig_len]
  by_cases hlt : j < 32
  · have q2 := blk_arr' hB.b2 (j / 8) (by rw [nar_len, hol]; omega)
    have q3 := free_blk hB.b2 (j / 8)
    rw [nar_get] at q2
    have x0 := fun (w : World) => run_index_arr (P := Tryd.prog) w 23 5 32 .u8 .u8 .i64 Tryd.underlying23 Tryd.underlying5 (fun w => by kernel_rfl) (nar ks) (by rw [nar_len]; exact LK.out) j hlt
    rw [nar_get] at x0
    have y1 := lt_getD BK.out (by omega) j
    generalize hy : ks.getD j 0 = y at x0 y1
    have hv : val 256 (ks.take j) < 256 ^ j := by
      have := val_lt 256 (ks.take j) (fun x hx => BK.out x (List.mem_of_mem_take hx))
      rwa [List.length_take, LK.out, Nat.min_eq_left hj] at this
    have x9 : val 256 (ks.take (j + 1)) = val 256 (ks.take j) + 256 ^ j * y := by rw [← hy]; exact val_take_succ 256 ks j (by rw [LK.out]; exact hlt)
    generalize hx : os.getD (j / 8) 0 = x at q2
    obtain ⟨hx1, hst⟩ := of_step _ j x y os hlt hos hv hx y1
    have hor := or_shl x y (8 * (j % 8)) (by omega) hx1 y1
    have hb1 := hB.set2 (j / 8) (.int .u64 (bits .or .u64 (x : Int) (IntKind.u64.wrap ((y : Int) * 2 ^ (8 * (j % 8))))))
    rw [arr_set, hor, ← nar_set, hst, ← x9] at hb1
    rw [← hor] at hb1
    have HB1 := Lib.hid hb1
    clear hB hol hb1 hst hx1 hor hx hv x9 hos hy
    go_wp2_with fail
    go_region
    go_wp2_with fail
    go_roundw
    case rel => exact ⟨j + 1, _, by omega, by go_num, rfl, HB1.out.drew⟩
    case measure => simp [intOf]; omega
  · have e4 : j = 32 := by omega
    rw [e4, List.take_of_length_le (by rw [LK.out]; exact Nat.le_refl _)] at hos
    have HB := Lib.hid hB
    have HOS := Lib.hid hos
    have HOL := Lib.hid hol
    clear hB hos hol e4
    go_wp2_with (first | ((with_reducible show wpList _ _ _ (Oper.mk (some 24) _ _ _ _ _ :: _) _ _); refine wpList_load_part rfl 241 _ rfl (w.heap.size + 1 + 1) 0 _ 241 (0, 0) _ HB.out.b2 rfl .u64 (nar os) (arr_part _ _) Tryd.underlying241 rfl (nar4i os HOL.out) ?_) | ((with_reducible show wpList _ _ _ (Oper.mk none _ _ _ _ _ :: _) _ _); refine wpList_store_whole rfl 241 _ _ rfl (w.heap.size + 1) _ _ 241 HB.out.b1 rfl rfl (nar4 os HOL.out) (nar4s os HOL.out) (all_arr _ _) ?_; intro w7 hb7 hk7 hz7; have HB7 := Lib.hid (HB.out.put1 hk7 hb7); clear hb7 hk7 hz7))
    (try simp only [Exit.inBlock, Exit.then])
    refine bodyPost_ret (results_cell_row rfl _ _ (w.heap.size + 1) 241 _ (0, 0) _ rfl HB7.out.b1 Tryd.underlying241 rfl (nar4s os HOL.out)) rfl ?_
    rw [HOS.out]
    exact ⟨rfl, HB7.out.below⟩
end Go.Proofs.YtoljnogpegemjaaDoor.Lm
namespace Go.Proofs.YtoljnogpegemjaaDoor.Lm
open Go.RowKit

/-- n places, of which the first j are made. -/
def upto (f : Nat → Nat) (n j : Nat) : List Nat := (List.range n).map fun i => if i < j then f i else 0
theorem upto_len (f : Nat → Nat) (n j : Nat) : (upto f n j).length = n := by simp [upto]
theorem upto_zero (f : Nat → Nat) (n : Nat) : upto f n 0 = List.replicate n 0 := by
  apply List.ext_getElem <;> simp [upto]
theorem upto_set (f : Nat → Nat) (n j : Nat) : (upto f n j).set j (f j) = upto f n (j + 1) := by
  apply List.ext_getElem
  · simp [upto]
  · intro i h1 h2
    simp only [upto, List.getElem_set, List.getElem_map, List.getElem_range]
    by_cases e : j = i
    · subst e; simp
    · rw [if_neg e]
      by_cases h : i < j
      · rw [if_pos h, if_pos (by omega)]
      · rw [if_neg h, if_neg (by omega)]
theorem upto_all (f : Nat → Nat) (n : Nat) : upto f n n = (List.range n).map f := by
  apply List.ext_getElem
  · simp [upto]
  · intro i h1 h2
    simp only [upto, List.getElem_map, List.getElem_range]
    rw [if_pos (by simpa [upto] using h1)]
theorem dig_upto (b n v : Nat) : dig b n v = upto (fun i => v / b ^ i % b) n n := by
  rw [upto_all]
  apply List.ext_getElem
  · simp [dig_len]
  · intro i h1 h2
    have hi : i < n := by simpa using h2
    have := dig_get b n v i hi
    rw [List.getD, List.getElem?_eq_getElem h1] at this
    simpa using this
theorem getD_zeros (n k : Nat) : (List.replicate n 0).getD k 0 = 0 := by
  simp only [List.getD, List.getElem?_replicate]
  split <;> rfl
/-- A byte out of a limb. -/
theorem byte_limb (v j x : Nat) (hx : x = v / 18446744073709551616 ^ (j / 8) % 18446744073709551616) (e : 256 ^ j = 18446744073709551616 ^ (j / 8) * 2 ^ (8 * (j % 8))) : x / 2 ^ (8 * (j % 8)) % 256 = v / 256 ^ j % 256 := by
  rw [e, ← Nat.div_div_eq_div_mul, hx]
  generalize v / 18446744073709551616 ^ (j / 8) = y
  have h8 : j % 8 < 8 := Nat.mod_lt _ (by decide)
  generalize j % 8 = s at h8 ⊢
  have hB : (18446744073709551616 : Nat) = 2 ^ (8 * s) * (256 * 2 ^ (56 - 8 * s)) := by
    rw [show (256 : Nat) = 2 ^ 8 by rfl, show (18446744073709551616 : Nat) = 2 ^ 64 by rfl, ← Nat.pow_add, ← Nat.pow_add]
    congr 1
    omega
  rw [hB, Nat.mod_mul_right_div_self, Nat.mod_mul_right_mod]
/-- One step of a product. -/
theorem mul_bits (P o c : Nat) (hP : P ≤ 18446744073709551615 * 18446744073709551615) (ho : o < 18446744073709551616) (hc : c < 18446744073709551616) :
    ((P % 18446744073709551616 + o) % 18446744073709551616 + c) % 18446744073709551616 + 18446744073709551616 * (P / 18446744073709551616 + (P % 18446744073709551616 + o) / 18446744073709551616 + ((P % 18446744073709551616 + o) % 18446744073709551616 + c) / 18446744073709551616) = P + o + c ∧
    P / 18446744073709551616 + (P % 18446744073709551616 + o) / 18446744073709551616 + ((P % 18446744073709551616 + o) % 18446744073709551616 + c) / 18446744073709551616 < 18446744073709551616 := by omega
theorem mul_step (b i j x y o c lo hi V0 V V' Yj : Nat) (h : V + b ^ (i + j) * c = V0 + b ^ i * x * Yj) (hs : V' + b ^ (i + j) * o = V + b ^ (i + j) * lo) (hl : lo + b * hi = x * y + o + c) :
    V' + b ^ (i + (j + 1)) * hi = V0 + b ^ i * x * (Yj + b ^ j * y) := by
  have e1 : b ^ (i + (j + 1)) = b ^ (i + j) * b := by rw [← Nat.add_assoc, Nat.pow_succ]
  have e2 : b ^ i * x * (b ^ j * y) = b ^ (i + j) * (x * y) := by rw [Nat.pow_add]; grind
  have e3 : b ^ (i + j) * (lo + b * hi) = b ^ (i + j) * (x * y + o + c) := by rw [hl]
  rw [Nat.mul_add, e1, e2, Nat.mul_assoc]
  rw [Nat.mul_add, Nat.mul_add, Nat.mul_add] at e3
  omega
end Go.Proofs.YtoljnogpegemjaaDoor.Lm
namespace Go.Proofs.YtoljnogpegemjaaDoor.Lm
open Go.RowKit
theorem zero32 (w : World) : (zeroValue 23).run Tryd.prog w = .ok (.agg (arr .u8 (List.replicate 32 0))) w := by kernel_rfl
theorem nar32 (xs : List Nat) (hl : xs.length = 32) : (arr .u8 (nar xs)).size = (arr .u8 (List.replicate 32 0)).size := by rw [arr_size, arr_size, nar_len, hl, List.length_replicate]
theorem nar32s (xs : List Nat) (hl : xs.length = 32) : (Tryd.prog.info? 23).map (·.size) = some (arr .u8 (nar xs)).size := by rw [arr_size, nar_len, hl]; kernel_rfl

set_option maxRecDepth 100000 in
set_option maxHeartbeats 1000000 in
theorem num_any (xs : List Nat) (w : World) (lx : xs.length = 4) (bx : ∀ x ∈ xs, x < 18446744073709551616) :
    Calls Tryd.prog 201 #[.agg (arr .u64 (nar xs))] w fun e w' => e = .returned (.agg (arr .u8 (nar (dig 256 32 (val 18446744073709551616 xs))))) ∧ Below w.heap.size w w' := by
  have S0 := Lib.hid (B3.start w (arr .u64 (nar xs)) (arr .u8 (List.replicate 32 0)) (arr .u8 (List.replicate 32 0)) 241 23 23)
  have hxs : xs = dig 18446744073709551616 4 (val 18446744073709551616 xs) := dig_eq _ (by decide) 4 _ _ lx bx rfl
  obtain ⟨v, hv⟩ : ∃ v, v = val 18446744073709551616 xs := ⟨_, rfl⟩
  rw [← hv] at hxs ⊢
  rw [dig_upto 256]
  obtain ⟨F, hF⟩ : ∃ F : Nat → Nat, F = fun i => v / 256 ^ i % 256 := ⟨_, rfl⟩
  rw [← hF]
  have LX := Lib.hid lx
  have HX := Lib.hid hxs
  have HF := Lib.hid hF
  clear lx bx hxs hv hF
  go_enter Tryd.func201, Tryd.ntmps201
  go_wp2_with (first | ((with_reducible show wpList _ _ _ (Oper.mk (some 2) _ _ _ _ _ :: _) _ _); refine wpList_alloc_row rfl 23 rfl _ (zero32 _) ?_) | ((with_reducible show wpList _ _ _ (Oper.mk (some 3) _ _ _ _ _ :: _) _ _); refine wpList_alloc_row rfl 23 rfl _ (zero32 _) ?_))
  go_loopw [5] (fun i wr => ∃ (j : Nat), j ≤ 32 ∧ i = .int .i64 j ∧ B3 w wr (arr .u64 (nar xs)) (arr .u8 (List.replicate 32 0)) (arr .u8 (nar (upto F 32 j))) 241 23 23) (fun i _ => 32 - (intOf i).toNat)
  case atStart => exact ⟨0, Nat.zero_le _, rfl, by rw [upto_zero, nar_zeros]; exact S0.out⟩
  clear S0
  case round =>
  obtain ⟨j, hj, rfl, hB⟩ := hrel
  by_cases hlt : j < 32
  · have q0 := blk_arr' hB.b0 (j / 8) (by rw [nar_len, LX.out]; omega)
    have q2 := blk_arr' hB.b2 j (by rw [nar_len, upto_len]; omega)
    have q3 := free_blk hB.b2 j
    rw [nar_get] at q0
    have hxj : xs.getD (j / 8) 0 = v / 18446744073709551616 ^ (j / 8) % 18446744073709551616 := by
      rw [HX.out]; exact dig_get _ _ _ _ (by omega)
    generalize xs.getD (j / 8) 0 = x at q0 hxj
    have hby := byte_limb v j x hxj (pow_split j)
    have hb1 := hB.set2 j (.int .u8 ((F j : Nat) : Int))
    rw [arr_set, ← nar_set, upto_set] at hb1
    have hFj : F j = x / 2 ^ (8 * (j % 8)) % 256 := by rw [HF.out, hby]
    rw [hFj] at hb1
    have HB := Lib.hid hB
    have HB1 := Lib.hid hb1
    have HXJ := Lib.hid hxj
    have HFJ := Lib.hid hFj
    clear hB hb1 hxj hby hFj
    go_wp2_with fail
    go_roundw
    case rel => exact ⟨j + 1, by omega, by go_num, HB1.out⟩
    case measure => simp [intOf]; omega
  · have e4 : j = 32 := by omega
    rw [e4] at hB
    have HB := Lib.hid hB
    have HOL : Hid ((upto F 32 32).length = 32) := Lib.hid (upto_len _ _ _)
    clear hB e4
    obtain ⟨os, hos⟩ : ∃ os, os = upto F 32 32 := ⟨_, rfl⟩
    rw [← hos] at HB HOL
    have HOS := Lib.hid hos
    clear hos
    go_wp2_with (first | ((with_reducible show wpList _ _ _ (Oper.mk (some 20) _ _ _ _ _ :: _) _ _); refine wpList_load_part rfl 23 _ rfl (w.heap.size + 1 + 1) 0 _ 23 (0, 0) _ HB.out.b2 rfl .u8 (nar os) (arr_part _ _) Tryd.underlying23 rfl (nar32i os HOL.out) ?_) | ((with_reducible show wpList _ _ _ (Oper.mk none _ _ _ _ _ :: _) _ _); refine wpList_store_whole rfl 23 _ _ rfl (w.heap.size + 1) _ _ 23 HB.out.b1 rfl rfl (nar32 os HOL.out) (nar32s os HOL.out) (all_arr _ _) ?_; intro w7 hb7 hk7 hz7; have HB7 := Lib.hid (HB.out.put1 hk7 hb7); clear hb7 hk7 hz7))
    (try simp only [Exit.inBlock, Exit.then])
    refine bodyPost_ret (results_cell_row rfl _ _ (w.heap.size + 1) 23 _ (0, 0) _ rfl HB7.out.b1 Tryd.underlying23 rfl (nar32s os HOL.out)) rfl ?_
    exact ⟨by rw [HOS.out], HB7.out.below⟩
end Go.Proofs.YtoljnogpegemjaaDoor.Lm
namespace Go.Proofs.YtoljnogpegemjaaDoor.Lm
open Go.RowKit
theorem zero8 (w : World) : (zeroValue 226).run Tryd.prog w = .ok (.agg (arr .u64 (List.replicate 8 0))) w := by kernel_rfl
theorem nar8 (xs : List Nat) (hl : xs.length = 8) : (arr .u64 (nar xs)).size = (arr .u64 (List.replicate 8 0)).size := by rw [arr_size, arr_size, nar_len, hl, List.length_replicate]
theorem nar8s (xs : List Nat) (hl : xs.length = 8) : (Tryd.prog.info? 226).map (·.size) = some (arr .u64 (nar xs)).size := by rw [arr_size, nar_len, hl]; kernel_rfl
theorem nar8i (xs : List Nat) (hl : xs.length = 8) : (Tryd.prog.info? 226).map (·.size) = some (nar xs).length := by rw [nar_len, hl]; kernel_rfl
theorem prod_le (x y : Nat) (hx : x < 18446744073709551616) (hy : y < 18446744073709551616) : x * y ≤ 18446744073709551615 * 18446744073709551615 := Nat.mul_le_mul (by omega) (by omega)

set_option maxRecDepth 100000 in
set_option maxHeartbeats 2000000 in
theorem lmul_any (xs ys : List Nat) (w : World) (lx : xs.length = 4) (ly : ys.length = 4) (bx : ∀ x ∈ xs, x < 18446744073709551616) (bby : ∀ x ∈ ys, x < 18446744073709551616) :
    Calls Tryd.prog 208 #[.agg (arr .u64 (nar xs)), .agg (arr .u64 (nar ys))] w fun e w' => e = .returned (.agg (arr .u64 (nar (dig 18446744073709551616 8 (val 18446744073709551616 xs * val 18446744073709551616 ys))))) ∧ Below w.heap.size w w' := by
  have S0 := Lib.hid (B4.start w (arr .u64 (nar xs)) (arr .u64 (nar ys)) (arr .u64 (List.replicate 8 0)) (arr .u64 (List.replicate 8 0)) 241 241 226 226)
  have LX := Lib.hid lx
  have LY := Lib.hid ly
  have BX := Lib.hid bx
  have BY := Lib.hid bby
  clear lx ly bx bby
  go_enter Tryd.func208, Tryd.ntmps208
  go_wp2_with (first | ((with_reducible show wpList _ _ _ (Oper.mk (some 4) _ _ _ _ _ :: _) _ _); refine wpList_alloc_row rfl 226 rfl _ (zero8 _) ?_) | ((with_reducible show wpList _ _ _ (Oper.mk (some 5) _ _ _ _ _ :: _) _ _); refine wpList_alloc_row rfl 226 rfl _ (zero8 _) ?_))
  go_loopw [12] (fun v wr => ∃ (i : Nat) (os : List Nat), i ≤ 4 ∧ v = .int .i64 i ∧ os.length = 8 ∧ (∀ x ∈ os, x < 18446744073709551616) ∧ (∀ k, i + 4 ≤ k → os.getD k 0 = 0) ∧ val 18446744073709551616 os = val 18446744073709551616 (xs.take i) * val 18446744073709551616 ys ∧ B4 w wr (arr .u64 (nar xs)) (arr .u64 (nar ys)) (arr .u64 (List.replicate 8 0)) (arr .u64 (nar os)) 241 241 226 226) (fun v _ => 4 - (intOf v).toNat)
  case atStart => exact ⟨0, List.replicate 8 0, Nat.zero_le _, rfl, by simp, by simp, fun k _ => getD_zeros 8 k, by rw [val_zeros, List.take_zero]; simp [val], by rw [nar_zeros]; exact S0.out⟩
  clear S0
  case round =>
  obtain ⟨i, os, hi, rfl, hol, hob, hoz, hv, hB⟩ := hrel
  by_cases hlt : i < 4
  · have xi := lt_getD BX.out (by omega) i
    generalize hx : xs.getD i 0 = x at xi
    have HX := Lib.hid hx
    have HB := Lib.hid hB
    have HOL := Lib.hid hol
    have HOB := Lib.hid hob
    have HOZ := Lib.hid hoz
    have HV := Lib.hid hv
    clear hx hB hol hob hoz hv
    go_wp2_with fail
    generalize Value.bool (decide ((i : Int) < 4)) = u13'
    go_loopw [7, 15] (fun cv jv wr => ∃ (j c : Nat) (ps : List Nat), j ≤ 4 ∧ jv = .int .i64 j ∧ cv = .int .u64 c ∧ c < 18446744073709551616 ∧ ps.length = 8 ∧ (∀ x ∈ ps, x < 18446744073709551616) ∧ (∀ k, i + 4 ≤ k → ps.getD k 0 = 0) ∧ val 18446744073709551616 ps + 18446744073709551616 ^ (i + j) * c = val 18446744073709551616 os + 18446744073709551616 ^ i * x * val 18446744073709551616 (ys.take j) ∧ B4 w wr (arr .u64 (nar xs)) (arr .u64 (nar ys)) (arr .u64 (List.replicate 8 0)) (arr .u64 (nar ps)) 241 241 226 226) (fun _ jv _ => 4 - (intOf jv).toNat)
    case atStart => exact ⟨0, 0, os, Nat.zero_le _, rfl, rfl, by decide, HOL.out, HOB.out, HOZ.out, by rw [List.take_zero]; simp [val], HB.out⟩
    case round =>
      obtain ⟨j, c, ps, hj, rfl, rfl, hc, hpl, hpb, hpz, hpv, hP⟩ := hrel
      by_cases hlj : j < 4
      · have q0 := blk_arr' hP.b0 i (by rw [nar_len, LX.out]; exact hlt)
        have q1 := blk_arr' hP.b1 j (by rw [nar_len, LY.out]; exact hlj)
        have q2 := blk_arr' hP.b3 (i + j) (by rw [nar_len, hpl]; omega)
        have q3 := free_blk hP.b3 (i + j)
        rw [nar_get] at q0 q1 q2
        rw [HX.out] at q0
        have yj := lt_getD BY.out (by omega) j
        have oj := lt_getD hpb (by omega) (i + j)
        generalize hy : ys.getD j 0 = y at q1 yj
        generalize ho : ps.getD (i + j) 0 = o at q2 oj
        obtain ⟨m1, m2⟩ := mul_bits (x * y) o c (prod_le x y xi yj) oj hc
        have M1 := fun w => mul64 x y xi yj w
        have a1 := add64 (x * y % 18446744073709551616) o 0 (by omega)
        have a2 := add64 ((x * y % 18446744073709551616 + o) % 18446744073709551616) c 0 (by omega)
        rw [Nat.add_zero] at a1 a2
        have e0 : ((0 : Nat) : Int) = 0 := rfl
        rw [e0] at a1 a2
        have k0 : x * y / 18446744073709551616 ≤ 18446744073709551616 - 2 := by have := prod_le x y xi yj; omega
        have k1 : (x * y % 18446744073709551616 + o) / 18446744073709551616 ≤ 1 := by omega
        have k2 : ((x * y % 18446744073709551616 + o) % 18446744073709551616 + c) / 18446744073709551616 ≤ 1 := by omega
        have k3 : ((x * y % 18446744073709551616 + o) % 18446744073709551616 + c) % 18446744073709551616 < 18446744073709551616 := Nat.mod_lt _ (by decide)
        have k4 : x * y % 18446744073709551616 < 18446744073709551616 := Nat.mod_lt _ (by decide)
        have k5 : (x * y % 18446744073709551616 + o) % 18446744073709551616 < 18446744073709551616 := Nat.mod_lt _ (by decide)
        generalize hP0 : x * y = P0 at M1 a1 a2 k0 k1 k2 k3 k4 k5 m1 m2
        generalize P0 / 18446744073709551616 = h0 at M1 a1 a2 k0 k1 k2 k3 k4 k5 m1 m2
        generalize P0 % 18446744073709551616 = l0 at M1 a1 a2 k1 k2 k3 k4 k5 m1 m2
        generalize (l0 + o) / 18446744073709551616 = c1 at a1 k1 m1 m2
        generalize (l0 + o) % 18446744073709551616 = s1 at a1 a2 k2 k3 k5 m1 m2
        generalize (s1 + c) / 18446744073709551616 = c2 at a2 k2 m1 m2
        generalize (s1 + c) % 18446744073709551616 = lo at a2 k3 m1
        subst hP0
        have hb1 := hP.set3 (i + j) (.int .u64 ((lo : Nat) : Int))
        rw [arr_set, ← nar_set] at hb1
        have hs := val_set 18446744073709551616 ps (i + j) lo (by omega)
        rw [ho] at hs
        have hst := mul_step 18446744073709551616 i j x y o c lo (h0 + c1 + c2) _ _ _ _ hpv hs m1
        rw [← hy, ← val_take_succ 18446744073709551616 ys j (by rw [LY.out]; exact hlj)] at hst
        have HB1 := Lib.hid hb1
        have HST := Lib.hid hst
        have HPL : Hid ((ps.set (i + j) lo).length = 8) := Lib.hid (by simpa using hpl)
        have HPB : Hid (∀ z ∈ ps.set (i + j) lo, z < 18446744073709551616) := Lib.hid (lt_set hpb _ _ k3)
        have HPZ : Hid (∀ k, i + 4 ≤ k → (ps.set (i + j) lo).getD k 0 = 0) := Lib.hid (by intro k hk; have e := hpz k hk; simp only [List.getD] at e ⊢; rw [List.getElem?_set_ne (by omega)]; exact e)
        clear hP hb1 hs hst hpl hpb hpz hpv hy ho m1
        go_wp2_with fail
        refine wp_region_still_lit (by kernel_rfl) (by kernel_rfl) ?_
        repeat still_step
        (refine wpStill_step (fun K hK => ?_); go_simp; refine Exists.intro _ (And.intro (M1 _) ?_); refine hK _ ?_; clear hK K)
        repeat still_step
        refine wpStill_nil ?_
        go_wp2_with fail
        go_roundw
        case rel => exact ⟨j + 1, h0 + c1 + c2, _, by omega, by go_num, by go_num, m2, HPL.out, HPB.out, HPZ.out, HST.out, HB1.out.drew⟩
        case measure => simp [intOf]; omega
      · have e4 : j = 4 := by omega
        have ty : ys.take 4 = ys := take4 ys LY.out
        rw [e4, ty] at hpv
        have hz4 := hpz (i + 4) (Nat.le_refl _)
        have hs := val_set 18446744073709551616 ps (i + 4) c (by omega)
        rw [hz4, Nat.mul_zero, Nat.add_zero, hpv, HV.out, ← HX.out, ← Nat.add_mul, ← val_take_succ 18446744073709551616 xs i (by rw [LX.out]; exact hlt)] at hs
        have q2 := blk_arr' hP.b3 (i + 4) (by rw [nar_len, hpl]; omega)
        have q3 := free_blk hP.b3 (i + 4)
        have hb1 := hP.set3 (i + 4) (.int .u64 ((c : Nat) : Int))
        rw [arr_set, ← nar_set] at hb1
        have HB1 := Lib.hid hb1
        have HS := Lib.hid hs
        have HPL : Hid ((ps.set (i + 4) c).length = 8) := Lib.hid (by simpa using hpl)
        have HPB : Hid (∀ z ∈ ps.set (i + 4) c, z < 18446744073709551616) := Lib.hid (lt_set hpb _ _ hc)
        have HPZ : Hid (∀ k, i + 1 + 4 ≤ k → (ps.set (i + 4) c).getD k 0 = 0) := Lib.hid (by intro k hk; have e := hpz k (by omega); simp only [List.getD] at e ⊢; rw [List.getElem?_set_ne (by omega)]; exact e)
        clear hP hb1 hs hpl hpb hpz hpv hz4 ty e4 HV HB HOL HOB HOZ
        go_wp2_with fail
        go_roundw
        case rel => exact ⟨i + 1, _, by omega, by go_num, HPL.out, HPB.out, HPZ.out, HS.out, HB1.out⟩
        case measure => simp [intOf]; omega
  · have e4 : i = 4 := by omega
    rw [e4, take4 xs LX.out] at hv
    have HD := Lib.hid (dig_eq 18446744073709551616 (by decide) 8 _ os hol hob hv)
    have HB := Lib.hid hB
    have HOL := Lib.hid hol
    clear hB hv hol hob hoz e4
    go_wp2_with (first | ((with_reducible show wpList _ _ _ (Oper.mk (some 61) _ _ _ _ _ :: _) _ _); refine wpList_load_part rfl 226 _ rfl (w.heap.size + 1 + 1 + 1) 0 _ 226 (0, 0) _ HB.out.b3 rfl .u64 (nar os) (arr_part _ _) Tryd.underlying226 rfl (nar8i os HOL.out) ?_) | ((with_reducible show wpList _ _ _ (Oper.mk none _ _ _ _ _ :: _) _ _); refine wpList_store_whole rfl 226 _ _ rfl (w.heap.size + 1 + 1) _ _ 226 HB.out.b2 rfl rfl (nar8 os HOL.out) (nar8s os HOL.out) (all_arr _ _) ?_; intro w7 hb7 hk7 hz7; have HB7 := Lib.hid (HB.out.put2 hk7 hb7); clear hb7 hk7 hz7))
    (try simp only [Exit.inBlock, Exit.then])
    refine bodyPost_ret (results_cell_row rfl _ _ (w.heap.size + 1 + 1) 226 _ (0, 0) _ rfl HB7.out.b2 Tryd.underlying226 rfl (nar8s os HOL.out)) rfl ?_
    exact ⟨by rw [← HD.out], HB7.out.below⟩
end Go.Proofs.YtoljnogpegemjaaDoor.Lm
