/- The hash of sha in plain words: lists of numbers. Condition: as each theorem says. -/
import Derived.Test.YtogebegdgfdijaaDoorMa
import Derived.Deep.LoopGhost
import Derived.ScopeJumps
import Derived.StillTailTactics
import Derived.BigRegion
set_option maxRecDepth 100000
set_option maxHeartbeats 16000000
set_option linter.unusedSimpArgs false
set_option linter.unusedVariables false
namespace Go.Proofs.YtogebegdgfdijaaDoor.Ha
open Go.RowKit
def K : List Int := [1116352408, 1899447441, 3049323471, 3921009573, 961987163, 1508970993, 2453635748, 2870763221, 3624381080, 310598401, 607225278, 1426881987, 1925078388, 2162078206, 2614888103, 3248222580, 3835390401, 4022224774, 264347078, 604807628, 770255983, 1249150122, 1555081692, 1996064986, 2554220882, 2821834349, 2952996808, 3210313671, 3336571891, 3584528711, 113926993, 338241895, 666307205, 773529912, 1294757372, 1396182291, 1695183700, 1986661051, 2177026350, 2456956037, 2730485921, 2820302411, 3259730800, 3345764771, 3516065817, 3600352804, 4094571909, 275423344, 430227734, 506948616, 659060556, 883997877, 958139571, 1322822218, 1537002063, 1747873779, 1955562222, 2024104815, 2227730452, 2361852424, 2428436474, 2756734187, 3204031479, 3329325298]
def H0 : List Int := [1779033703, 3144134277, 1013904242, 2773480762, 1359893119, 2600822924, 528734635, 1541459225]
def rot (x n m : Int) : Int := bits .or .u32 (IntKind.u32.wrap (x * m)) (x / n)
def add (x y : Int) : Int := IntKind.u32.wrap (x + y)
def s0 (x : Int) : Int := bits .xor .u32 (bits .xor .u32 (rot x 128 33554432) (rot x 262144 16384)) (x / 8)
def s1 (x : Int) : Int := bits .xor .u32 (bits .xor .u32 (rot x 131072 32768) (rot x 524288 8192)) (x / 1024)
def e1 (x : Int) : Int := bits .xor .u32 (bits .xor .u32 (rot x 64 67108864) (rot x 2048 2097152)) (rot x 33554432 128)
def e0 (x : Int) : Int := bits .xor .u32 (bits .xor .u32 (rot x 4 1073741824) (rot x 8192 524288)) (rot x 4194304 1024)
def ch (e f g : Int) : Int := bits .xor .u32 (bits .and .u32 e f) (bits .and .u32 (bits .xor .u32 (if IntKind.u32.signed = true then -1 else IntKind.u32.max) e) g)
def maj (a b c : Int) : Int := bits .xor .u32 (bits .xor .u32 (bits .and .u32 a b) (bits .and .u32 a c)) (bits .and .u32 b c)
def tx (k w : Int) (v : List Int) : Int := add (add (add (add (v.getD 7 0) (e1 (v.getD 4 0))) (ch (v.getD 4 0) (v.getD 5 0) (v.getD 6 0))) k) w
def ty (v : List Int) : Int := add (e0 (v.getD 0 0)) (maj (v.getD 0 0) (v.getD 1 0) (v.getD 2 0))
def rnd (k w : Int) (v : List Int) : List Int := [add (tx k w v) (ty v), v.getD 0 0, v.getD 1 0, v.getD 2 0, add (v.getD 3 0) (tx k w v), v.getD 4 0, v.getD 5 0, v.getD 6 0]
def next (ws : List Int) (t : Nat) : Int := add (add (add (s1 (ws.getD (t - 2) 0)) (ws.getD (t - 7) 0)) (s0 (ws.getD (t - 15) 0))) (ws.getD (t - 16) 0)
/-- The first n bytes of a word, from place o on. -/
def part (b : List Int) (o : Nat) : Nat → Int
  | 0 => 0
  | n + 1 => bits .or .u32 (IntKind.u32.wrap (part b o n * 256)) (b.getD (o + n) 0)
/-- The words behind the first i bytes. -/
def pre (b : List Int) (i : Nat) : List Int := (List.range 64).map fun j => part b (4 * j) (min 4 (i - 4 * j))
def sched (b : List Int) (n : Nat) : List Int := (List.range n).foldl (fun ws j => ws.set (16 + j) (next ws (16 + j))) (pre b 64)
def rounds (ws h : List Int) (n : Nat) : List Int := (List.range n).foldl (fun v t => rnd (K.getD t 0) (ws.getD t 0) v) h
/-- The first n words of the state are summed up. -/
def sums (h v : List Int) (n : Nat) : List Int := h.mapIdx fun i x => if i < n then add x (v.getD i 0) else x
def comp (h b : List Int) : List Int := sums h (rounds (sched b 48) h 64) 8
theorem pre_len (b : List Int) (i : Nat) : (pre b i).length = 64 := by simp [pre]
theorem pre_zero (b : List Int) : pre b 0 = List.replicate 64 0 := by
  unfold pre
  apply List.ext_getElem
  · simp
  · intro i h1 h2
    rw [List.getElem_replicate, List.getElem_map, Nat.zero_sub, Nat.min_zero]
    rfl
theorem pre_get (b : List Int) (i j : Nat) (hj : j < 64) : (pre b i).getD j 0 = part b (4 * j) (min 4 (i - 4 * j)) := by simp [pre, List.getD, hj]
theorem pre_succ (b : List Int) (i : Nat) (hi : i < 64) : pre b (i + 1) = (pre b i).set (i / 4) (bits .or .u32 (IntKind.u32.wrap ((pre b i).getD (i / 4) 0 * 256)) (b.getD i 0)) := by
  rw [pre_get _ _ _ (by omega)]
  apply List.ext_getElem
  · simp [pre]
  · intro j h1 h2
    simp only [pre, List.length_map, List.length_range] at h1
    rw [List.getElem_set]
    simp only [pre, List.getElem_map, List.getElem_range]
    by_cases e : i / 4 = j
    · subst e
      rw [if_pos rfl, show min 4 (i + 1 - 4 * (i / 4)) = i % 4 + 1 by omega, show min 4 (i - 4 * (i / 4)) = i % 4 by omega, part, show 4 * (i / 4) + i % 4 = i by omega]
    · rw [if_neg e]
      congr 1
      omega
theorem sched_succ (b : List Int) (n : Nat) : sched b (n + 1) = (sched b n).set (16 + n) (next (sched b n) (16 + n)) := by simp [sched, List.range_succ, List.foldl_append]
theorem sched_len (b : List Int) (n : Nat) : (sched b n).length = 64 := by
  induction n with
  | zero => simp [sched, pre]
  | succ n ih => rw [sched_succ, List.length_set, ih]
theorem rounds_succ (ws h : List Int) (n : Nat) : rounds ws h (n + 1) = rnd (K.getD n 0) (ws.getD n 0) (rounds ws h n) := by simp [rounds, List.range_succ, List.foldl_append]
theorem rounds_len (ws h : List Int) (hh : h.length = 8) (n : Nat) : (rounds ws h n).length = 8 := by
  cases n with
  | zero => simpa [rounds] using hh
  | succ n => rw [rounds_succ]; rfl
theorem sums_zero (h v : List Int) : sums h v 0 = h := by
  unfold sums
  apply List.ext_getElem <;> simp
theorem sums_len (h v : List Int) (n : Nat) : (sums h v n).length = h.length := by simp [sums]
theorem sums_get (h v : List Int) (n i : Nat) (hi : i < h.length) (hn : n ≤ i) : (sums h v n).getD i 0 = h.getD i 0 := by
  simp [sums, List.getD, hi]
  omega
theorem sums_succ (h v : List Int) (n : Nat) (_hn : n < h.length) : sums h v (n + 1) = (sums h v n).set n (add (h.getD n 0) (v.getD n 0)) := by
  apply List.ext_getElem
  · simp [sums]
  · intro i h1 h2
    simp only [sums, List.length_mapIdx] at h1
    rw [List.getElem_set]
    simp only [sums, List.getElem_mapIdx]
    by_cases e : n = i
    · subst e
      rw [if_pos (by omega), if_pos rfl]
      simp [List.getD, h1]
    · rw [if_neg e]
      by_cases e2 : i < n
      · rw [if_pos (by omega), if_pos e2]
      · rw [if_neg (by omega), if_neg e2]
theorem comp_len (h b : List Int) : (comp h b).length = h.length := sums_len _ _ _
theorem K_len : K.length = 64 := by decide
/-- What is under way: the state, the bytes that wait, how many they are. -/
structure S where
  h : List Int
  b : List Int
  n : Nat
def S.take (s : S) (x : Int) : S := if s.n + 1 = 64 then ⟨comp s.h (s.b.set s.n x), s.b.set s.n x, 0⟩ else ⟨s.h, s.b.set s.n x, s.n + 1⟩
def S.all (s : S) (xs : List Int) : S := xs.foldl S.take s
def S.new : S := ⟨H0, List.replicate 64 0, 0⟩
/-- The bytes behind a message of n bytes: 128, noughts, its length in bits. -/
def tail (n : Nat) : List Int := 128 :: List.replicate ((2 * 64 - 8 - 1 - n % 64) % 64) 0 ++ List.replicate (8 - 8) 0 ++ (List.range 8).map fun i => ((8 * n / 2 ^ (8 * (7 - i)) % 256 : Nat) : Int)
def digest (h : List Int) : List Int := (List.range 32).map fun i => h.getD (i / 4) 0 / 2 ^ (8 * (3 - i % 4)) % 256
def hash (m : List Int) : List Int := digest ((S.new.all (m ++ tail m.length)).h)
theorem hash_len (m : List Int) : (hash m).length = 32 := by simp [hash, digest]
structure S.Ok (s : S) : Prop where
  h : s.h.length = 8
  b : s.b.length = 64
  n : s.n < 64
  by0 : ∀ x ∈ s.b, 0 ≤ x ∧ x ≤ 255
theorem S.Ok.take {s : S} (h : s.Ok) (x : Int) (hx : 0 ≤ x ∧ x ≤ 255) : (s.take x).Ok := by
  have hn := h.n
  have hb : ∀ y ∈ s.b.set s.n x, 0 ≤ y ∧ y ≤ 255 := by
    intro y hy
    rcases List.mem_or_eq_of_mem_set hy with h1 | rfl
    · exact h.by0 y h1
    · exact hx
  unfold S.take
  split
  · exact ⟨(comp_len _ _).trans h.h, by rw [List.length_set]; exact h.b, by show 0 < _; omega, hb⟩
  · exact ⟨h.h, by rw [List.length_set]; exact h.b, by show s.n + 1 < _; omega, hb⟩
theorem S.Ok.all {s : S} (h : s.Ok) : ∀ (xs : List Int), (∀ x ∈ xs, 0 ≤ x ∧ x ≤ 255) → (s.all xs).Ok := by
  intro xs
  induction xs generalizing s with
  | nil => intro _; exact h
  | cons x xs ih => intro hx; exact ih (h.take x (hx x (by simp))) fun y hy => hx y (by simp [hy])
theorem S.Ok.new : S.new.Ok := by
  refine ⟨rfl, by simp [S.new], by simp [S.new], ?_⟩
  intro x hx
  have := List.eq_of_mem_replicate hx
  omega
theorem S.take_n (s : S) (h : s.n < 64) (x : Int) : (s.take x).n = (s.n + 1) % 64 := by
  unfold S.take
  split
  · rename_i e; rw [e]
  · show s.n + 1 = _; omega
theorem S.all_n : ∀ (xs : List Int) (s : S), s.n < 64 → (s.all xs).n = (s.n + xs.length) % 64
  | [], s, h => by show s.n = _; simp; omega
  | x :: xs, s, h => by
    have h1 : (s.take x).n < 64 := by rw [S.take_n s h]; omega
    have := S.all_n xs (s.take x) h1
    show ((s.take x).all xs).n = _
    rw [this, S.take_n s h, List.length_cons]
    omega
theorem S.all_append (s : S) (xs ys : List Int) : s.all (xs ++ ys) = (s.all xs).all ys := by simp [S.all, List.foldl_append]
theorem S.all_snoc (s : S) (xs : List Int) (x : Int) : s.all (xs ++ [x]) = (s.all xs).take x := by simp [S.all, List.foldl_append]
theorem abc : (hash [97, 98, 99]).take 8 = [186, 120, 22, 191, 143, 1, 207, 234] := by decide +kernel
end Go.Proofs.YtogebegdgfdijaaDoor.Ha
namespace Go.Proofs.YtogebegdgfdijaaDoor.Ha
open Go.RowKit
theorem S.take_len (s : S) (x : Int) : (s.take x).h.length = s.h.length ∧ (s.take x).b.length = s.b.length := by
  unfold S.take
  split
  · exact ⟨comp_len _ _, by simp⟩
  · exact ⟨rfl, by simp⟩
theorem S.all_len : ∀ (xs : List Int) (s : S), (s.all xs).h.length = s.h.length ∧ (s.all xs).b.length = s.b.length
  | [], _ => ⟨rfl, rfl⟩
  | x :: xs, s => by
    have := S.all_len xs (s.take x)
    have h := S.take_len s x
    exact ⟨this.1.trans h.1, this.2.trans h.2⟩
theorem set_mid (a b : List Int) (i : Nat) (x : Int) (ha : a.length = i) (hb : i < b.length) : (a ++ b.drop i).set i x = a ++ [x] ++ b.drop (i + 1) := by
  rw [List.set_append_right _ _ (by omega), ha, Nat.sub_self, List.drop_eq_getElem_cons hb, List.set_cons_zero]
  simp
theorem S.all_pre (s : S) (bl : List Int) (hn : s.n = 0) (hb : s.b.length = 64) (hl : bl.length = 64) : ∀ i, i < 64 → s.all (bl.take i) = ⟨s.h, bl.take i ++ s.b.drop i, i⟩ := by
  intro i
  induction i with
  | zero =>
    intro _
    obtain ⟨h, b, n⟩ := s
    simp only at hn
    subst hn
    simp [S.all]
  | succ i ih =>
    intro hi
    have e : bl.take (i + 1) = bl.take i ++ [bl.getD i 0] := by
      rw [List.take_succ_eq_append_getElem (by omega)]
      simp [List.getD, show i < bl.length by omega]
    rw [e, S.all_snoc, ih (by omega), S.take, if_neg (by show ¬ i + 1 = _; omega)]
    simp only
    rw [set_mid _ _ _ _ (by simp; omega) (by omega)]
theorem S.all_block (s : S) (bl : List Int) (hn : s.n = 0) (hb : s.b.length = 64) (hl : bl.length = 64) : s.all bl = ⟨comp s.h bl, bl, 0⟩ := by
  have e : bl = bl.take (64 - 1) ++ [bl.getD (64 - 1) 0] := by
    have : bl.take (64 - 1 + 1) = bl.take (64 - 1) ++ [bl.getD (64 - 1) 0] := by
      rw [List.take_succ_eq_append_getElem (by omega)]
      simp [List.getD, hl]
    rw [← this, List.take_of_length_le (by omega)]
  have hd : (bl.take (64 - 1) ++ s.b.drop (64 - 1)).set (64 - 1) (bl.getD (64 - 1) 0) = bl := by
    rw [set_mid _ _ _ _ (by simp; omega) (by omega), List.drop_eq_nil_of_le (by omega), List.append_nil, ← e]
  have h1 : s.all bl = (s.all (bl.take (64 - 1))).take (bl.getD (64 - 1) 0) := by rw [← S.all_snoc, ← e]
  rw [h1, S.all_pre s bl hn hb hl _ (by omega), S.take, if_pos rfl]
  simp only [hd]
def blkOf (pm : List Int) (q : Nat) : List Int := (pm.drop (64 * q)).take 64
def hsOf (pm : List Int) (q : Nat) : List Int := (S.new.all (pm.take (64 * q))).h
theorem hs_len (pm : List Int) (q : Nat) : (hsOf pm q).length = 8 := (S.all_len _ _).1
theorem hs_zero (pm : List Int) : hsOf pm 0 = H0 := by simp [hsOf, S.all, S.new]
theorem hs_succ (pm : List Int) (q : Nat) (h : 64 * (q + 1) ≤ pm.length) : hsOf pm (q + 1) = comp (hsOf pm q) (blkOf pm q) := by
  unfold hsOf blkOf
  have e : pm.take (64 * (q + 1)) = pm.take (64 * q) ++ (pm.drop (64 * q)).take 64 := by rw [Nat.mul_succ, List.take_add]
  rw [e, S.all_append, S.all_block _ _ ?_ ?_ ?_]
  · rw [S.all_n _ _ S.Ok.new.n, List.length_take, Nat.min_eq_left (by omega)]
    show (0 + 64 * q) % 64 = 0
    omega
  · rw [(S.all_len _ _).2]; simp [S.new]
  · rw [List.length_take, List.length_drop]; omega
theorem hs_end (pm : List Int) (q : Nat) (h : pm.length = 64 * q) : (S.new.all pm).h = hsOf pm q := by
  unfold hsOf
  rw [List.take_of_length_le (by omega)]
theorem blk_get (pm : List Int) (q j : Nat) (hj : j < 64) : (blkOf pm q).getD j 0 = pm.getD (64 * q + j) 0 := by
  unfold blkOf
  simp only [List.getD, List.getElem?_take, hj, if_true, List.getElem?_drop]
theorem tail_len (n : Nat) : ∃ q, n + (tail n).length = 64 * q := by
  refine ⟨(n + (tail n).length) / 64, ?_⟩
  have : (tail n).length = 1 + (2 * 64 - 8 - 1 - n % 64) % 64 + 8 := by simp [tail]; omega
  rw [this]
  omega
theorem tail_bytes (n : Nat) : ∀ x ∈ tail n, 0 ≤ x ∧ x ≤ 255 := by
  intro x hx
  simp only [tail, List.mem_append, List.mem_cons, List.mem_replicate, List.mem_map, List.mem_range] at hx
  rcases hx with ((rfl | ⟨_, rfl⟩) | ⟨_, rfl⟩) | ⟨i, _, rfl⟩
  all_goals omega
end Go.Proofs.YtogebegdgfdijaaDoor.Ha
namespace Go.Proofs.YtogebegdgfdijaaDoor.Ha
open Go.RowKit
def stC (h b : List Int) (n l : Int) : Array Value := (h.map (Value.int .u32) ++ (K.map (Value.int .u32) ++ (b.map (Value.int .u8) ++ [Value.int .i64 n, Value.int .u64 l]))).toArray
/-- Block p is a state. -/
structure IsSt (w : World) (p : Nat) (h b : List Int) (n l : Int) : Prop where
  blk : w.heap[p]? = some (.cells (stC h b n l) 117 (0, 0))
  hl : h.length = 8
  bl : b.length = 64
theorem IsSt.fr {w : World} {p : Nat} {h b : List Int} {n l : Int} (s : IsSt w p h b n l) (o : Nat) : w.frozen? ⟨p, o, none⟩ = false := free_blk s.blk o
theorem IsSt.kept {T : Nat → Prop} {w w' : World} {p : Nat} {h b : List Int} {n l : Int} (s : IsSt w p h b n l) (k : Kept T w w') (hp : ¬ T p) : IsSt w' p h b n l := ⟨k.blk s.blk hp, s.hl, s.bl⟩
theorem IsSt.below {w w' : World} {p : Nat} {h b : List Int} {n l : Int} (s : IsSt w p h b n l) (k : Below w.heap.size w w') : IsSt w' p h b n l := ⟨Below.blk k s.blk (blk_lt s.blk), s.hl, s.bl⟩
theorem IsSt.drewN {w : World} {p : Nat} {h b : List Int} {n l : Int} (s : IsSt w p h b n l) (k : Nat) : IsSt (w.drewN k) p h b n l := ⟨s.blk, s.hl, s.bl⟩
theorem IsSt.drew {w : World} {p : Nat} {h b : List Int} {n l : Int} (s : IsSt w p h b n l) : IsSt w.drew p h b n l := ⟨s.blk, s.hl, s.bl⟩
theorem IsSt.alloc {w : World} {p : Nat} {h b : List Int} {n l : Int} (s : IsSt w p h b n l) (o : Obj) : IsSt (w.alloc o) p h b n l := ⟨blk_alloc s.blk o, s.hl, s.bl⟩
theorem mapget (k : IntKind) (xs : List Int) (i : Nat) (hi : i < xs.length) : (xs.map (Value.int k))[i]? = some (.int k (xs.getD i 0)) := by simp [List.getD, hi]
theorem stC_h {h b : List Int} (n l : Int) (hl : h.length = 8) (i : Nat) (hi : i < 8) : (stC h b n l)[i]? = some (.int .u32 (h.getD i 0)) := by
  unfold stC
  rw [List.getElem?_toArray, List.getElem?_append_left (by simp; omega), mapget _ _ _ (by omega)]
theorem stC_k {h b : List Int} (n l : Int) (hl : h.length = 8) (i : Nat) (hi : i < 64) : (stC h b n l)[8 + i]? = some (.int .u32 (K.getD i 0)) := by
  unfold stC
  have kl := K_len
  rw [List.getElem?_toArray, List.getElem?_append_right (by simp; omega), List.getElem?_append_left (by simp; omega), List.length_map, hl, Nat.add_sub_cancel_left, mapget _ _ _ (by omega)]
theorem stC_b {h b : List Int} (n l : Int) (hl : h.length = 8) (bl : b.length = 64) (i : Nat) (hi : i < 64) : (stC h b n l)[72 + i]? = some (.int .u8 (b.getD i 0)) := by
  unfold stC
  have kl := K_len
  rw [List.getElem?_toArray, List.getElem?_append_right (by simp; omega), List.getElem?_append_right (by simp; omega), List.getElem?_append_left (by simp; omega), List.length_map, List.length_map, hl, kl, show 72 + i - 8 - 64 = i by omega, mapget _ _ _ (by omega)]
theorem stC_n {h b : List Int} (n l : Int) (hl : h.length = 8) (bl : b.length = 64) : (stC h b n l)[136]? = some (.int .i64 n) ∧ (stC h b n l)[137]? = some (.int .u64 l) := by
  unfold stC
  have kl := K_len
  constructor <;> rw [List.getElem?_toArray, List.getElem?_append_right (by simp; omega), List.getElem?_append_right (by simp; omega), List.getElem?_append_right (by simp; omega)] <;> simp [hl, kl, bl]
theorem stC_size {h b : List Int} (n l : Int) (hl : h.length = 8) (bl : b.length = 64) : (stC h b n l).size = 138 := by
  have kl := K_len
  simp [stC, hl, kl, bl]
theorem stC_toList (h b : List Int) (n l : Int) : (stC h b n l).toList = h.map (Value.int .u32) ++ (K.map (Value.int .u32) ++ (b.map (Value.int .u8) ++ [Value.int .i64 n, Value.int .u64 l])) := rfl
theorem setA (cs : List Value) (i : Nat) (v : Value) : cs.toArray.setIfInBounds i v = (cs.set i v).toArray := by simp
theorem stC_seth {h b : List Int} (n l : Int) (hl : h.length = 8) (i : Nat) (hi : i < 8) (x : Int) : (stC h b n l).setIfInBounds i (.int .u32 x) = stC (h.set i x) b n l := by
  unfold stC
  rw [setA, List.set_append_left _ _ (by simp; omega), List.map_set]
theorem stC_setb {h b : List Int} (n l : Int) (hl : h.length = 8) (bl : b.length = 64) (i : Nat) (hi : i < 64) (x : Int) : (stC h b n l).setIfInBounds (72 + i) (.int .u8 x) = stC h (b.set i x) n l := by
  unfold stC
  have kl := K_len
  rw [setA, List.set_append_right _ _ (by simp; omega), List.set_append_right _ _ (by simp; omega), List.set_append_left _ _ (by simp; omega), List.map_set, List.length_map, List.length_map, hl, kl, show 72 + i - 8 - 64 = i by omega]
theorem stC_setn {h b : List Int} (n l : Int) (hl : h.length = 8) (bl : b.length = 64) (x : Int) : (stC h b n l).setIfInBounds 136 (.int .i64 x) = stC h b x l ∧ (stC h b n l).setIfInBounds 137 (.int .u64 x) = stC h b n x := by
  unfold stC
  have kl := K_len
  constructor <;> rw [setA, List.set_append_right _ _ (by simp; omega), List.set_append_right _ _ (by simp; omega), List.set_append_right _ _ (by simp; omega)] <;> simp [hl, kl, bl]
theorem IsSt.at_h {w : World} {p : Nat} {h b : List Int} {n l : Int} (s : IsSt w p h b n l) (i : Nat) (hi : i < 8) : w.cell? ⟨p, i, none⟩ = some (.int .u32 (h.getD i 0)) := by rw [cell_blk s.blk, stC_h n l s.hl i hi]
theorem IsSt.at_k {w : World} {p : Nat} {h b : List Int} {n l : Int} (s : IsSt w p h b n l) (i : Nat) (hi : i < 64) : w.cell? ⟨p, 8 + i, none⟩ = some (.int .u32 (K.getD i 0)) := by rw [cell_blk s.blk, stC_k n l s.hl i hi]
theorem IsSt.at_b {w : World} {p : Nat} {h b : List Int} {n l : Int} (s : IsSt w p h b n l) (i : Nat) (hi : i < 64) : w.cell? ⟨p, 72 + i, none⟩ = some (.int .u8 (b.getD i 0)) := by rw [cell_blk s.blk, stC_b n l s.hl s.bl i hi]
theorem IsSt.at_n {w : World} {p : Nat} {h b : List Int} {n l : Int} (s : IsSt w p h b n l) : w.cell? ⟨p, 136, none⟩ = some (.int .i64 n) := by rw [cell_blk s.blk, (stC_n n l s.hl s.bl).1]
theorem IsSt.at_l {w : World} {p : Nat} {h b : List Int} {n l : Int} (s : IsSt w p h b n l) : w.cell? ⟨p, 137, none⟩ = some (.int .u64 l) := by rw [cell_blk s.blk, (stC_n n l s.hl s.bl).2]
theorem IsSt.set_h {w : World} {p : Nat} {h b : List Int} {n l : Int} (s : IsSt w p h b n l) (i : Nat) (hi : i < 8) (x : Int) : IsSt (w.setCell ⟨p, i, none⟩ (.int .u32 x)) p (h.set i x) b n l :=
  ⟨by rw [blk_setCell s.blk, stC_seth n l s.hl i hi], by rw [List.length_set]; exact s.hl, s.bl⟩
theorem IsSt.set_b {w : World} {p : Nat} {h b : List Int} {n l : Int} (s : IsSt w p h b n l) (i : Nat) (hi : i < 64) (x : Int) : IsSt (w.setCell ⟨p, 72 + i, none⟩ (.int .u8 x)) p h (b.set i x) n l :=
  ⟨by rw [blk_setCell s.blk, stC_setb n l s.hl s.bl i hi], s.hl, by rw [List.length_set]; exact s.bl⟩
theorem IsSt.set_n {w : World} {p : Nat} {h b : List Int} {n l : Int} (s : IsSt w p h b n l) (x : Int) : IsSt (w.setCell ⟨p, 136, none⟩ (.int .i64 x)) p h b x l :=
  ⟨by rw [blk_setCell s.blk, (stC_setn n l s.hl s.bl x).1], s.hl, s.bl⟩
theorem IsSt.set_l {w : World} {p : Nat} {h b : List Int} {n l : Int} (s : IsSt w p h b n l) (x : Int) : IsSt (w.setCell ⟨p, 137, none⟩ (.int .u64 x)) p h b n x :=
  ⟨by rw [blk_setCell s.blk, (stC_setn n l s.hl s.bl x).2], s.hl, s.bl⟩
theorem rl_2 (x : Int) (w : World) : Calls Tryd.prog 86 #[.int .u32 x, .int .i64 (-2)] w fun e w' => e = .returned (.int .u32 (rot x 4 1073741824)) ∧ w = w' := by
  have hb : bits .and .u64 (IntKind.u64.wrap (-2)) 31 = 30 := by decide +kernel
  go_enter Tryd.func86, Tryd.ntmps86
  go_wp2
  go_ret
  exact ⟨rfl, rfl⟩
theorem rl_6 (x : Int) (w : World) : Calls Tryd.prog 86 #[.int .u32 x, .int .i64 (-6)] w fun e w' => e = .returned (.int .u32 (rot x 64 67108864)) ∧ w = w' := by
  have hb : bits .and .u64 (IntKind.u64.wrap (-6)) 31 = 26 := by decide +kernel
  go_enter Tryd.func86, Tryd.ntmps86
  go_wp2
  go_ret
  exact ⟨rfl, rfl⟩
theorem rl_7 (x : Int) (w : World) : Calls Tryd.prog 86 #[.int .u32 x, .int .i64 (-7)] w fun e w' => e = .returned (.int .u32 (rot x 128 33554432)) ∧ w = w' := by
  have hb : bits .and .u64 (IntKind.u64.wrap (-7)) 31 = 25 := by decide +kernel
  go_enter Tryd.func86, Tryd.ntmps86
  go_wp2
  go_ret
  exact ⟨rfl, rfl⟩
theorem rl_11 (x : Int) (w : World) : Calls Tryd.prog 86 #[.int .u32 x, .int .i64 (-11)] w fun e w' => e = .returned (.int .u32 (rot x 2048 2097152)) ∧ w = w' := by
  have hb : bits .and .u64 (IntKind.u64.wrap (-11)) 31 = 21 := by decide +kernel
  go_enter Tryd.func86, Tryd.ntmps86
  go_wp2
  go_ret
  exact ⟨rfl, rfl⟩
theorem rl_13 (x : Int) (w : World) : Calls Tryd.prog 86 #[.int .u32 x, .int .i64 (-13)] w fun e w' => e = .returned (.int .u32 (rot x 8192 524288)) ∧ w = w' := by
  have hb : bits .and .u64 (IntKind.u64.wrap (-13)) 31 = 19 := by decide +kernel
  go_enter Tryd.func86, Tryd.ntmps86
  go_wp2
  go_ret
  exact ⟨rfl, rfl⟩
theorem rl_17 (x : Int) (w : World) : Calls Tryd.prog 86 #[.int .u32 x, .int .i64 (-17)] w fun e w' => e = .returned (.int .u32 (rot x 131072 32768)) ∧ w = w' := by
  have hb : bits .and .u64 (IntKind.u64.wrap (-17)) 31 = 15 := by decide +kernel
  go_enter Tryd.func86, Tryd.ntmps86
  go_wp2
  go_ret
  exact ⟨rfl, rfl⟩
theorem rl_18 (x : Int) (w : World) : Calls Tryd.prog 86 #[.int .u32 x, .int .i64 (-18)] w fun e w' => e = .returned (.int .u32 (rot x 262144 16384)) ∧ w = w' := by
  have hb : bits .and .u64 (IntKind.u64.wrap (-18)) 31 = 14 := by decide +kernel
  go_enter Tryd.func86, Tryd.ntmps86
  go_wp2
  go_ret
  exact ⟨rfl, rfl⟩
theorem rl_19 (x : Int) (w : World) : Calls Tryd.prog 86 #[.int .u32 x, .int .i64 (-19)] w fun e w' => e = .returned (.int .u32 (rot x 524288 8192)) ∧ w = w' := by
  have hb : bits .and .u64 (IntKind.u64.wrap (-19)) 31 = 13 := by decide +kernel
  go_enter Tryd.func86, Tryd.ntmps86
  go_wp2
  go_ret
  exact ⟨rfl, rfl⟩
theorem rl_22 (x : Int) (w : World) : Calls Tryd.prog 86 #[.int .u32 x, .int .i64 (-22)] w fun e w' => e = .returned (.int .u32 (rot x 4194304 1024)) ∧ w = w' := by
  have hb : bits .and .u64 (IntKind.u64.wrap (-22)) 31 = 10 := by decide +kernel
  go_enter Tryd.func86, Tryd.ntmps86
  go_wp2
  go_ret
  exact ⟨rfl, rfl⟩
theorem rl_25 (x : Int) (w : World) : Calls Tryd.prog 86 #[.int .u32 x, .int .i64 (-25)] w fun e w' => e = .returned (.int .u32 (rot x 33554432 128)) ∧ w = w' := by
  have hb : bits .and .u64 (IntKind.u64.wrap (-25)) 31 = 7 := by decide +kernel
  go_enter Tryd.func86, Tryd.ntmps86
  go_wp2
  go_ret
  exact ⟨rfl, rfl⟩
theorem zeroR (w : World) : (zeroValue 115).run Tryd.prog w = .ok (.agg (arr .u32 (List.replicate 64 0))) w := by kernel_rfl
theorem sizeR : (Tryd.prog.info? 115).map (·.size) = some 64 := by kernel_rfl
theorem size8 : (Tryd.prog.info? 114).map (·.size) = some 8 := by kernel_rfl
theorem sizeB : (Tryd.prog.info? 64).map (·.size) = some 64 := by kernel_rfl
theorem size_u8 (w : World) : (sizeOf 5).run Tryd.prog w = .ok 1 w := by kernel_rfl
def KV : Array (Nat × Value) := ((K.map (Value.int .u32)).zipIdx.map fun x => (x.2, x.1)).toArray
theorem build_K (w : World) : (Instr.build 115 KV).run Tryd.prog w = .ok (.agg (arr .u32 K)) w := by kernel_rfl
theorem build_st (w : World) : (Instr.build 117 #[(0, .agg (arr .u32 H0)), (1, .agg (arr .u32 K))]).run Tryd.prog w = .ok (.agg (stC H0 (List.replicate 64 0) 0 0)) w := by kernel_rfl
theorem consts_any (w : World) : Calls Tryd.prog 93 #[] w fun e w' => e = .returned (.agg (arr .u32 K)) ∧ Below w.heap.size w w' := by
  have z1 : (Tryd.prog.info? 115).map (·.size) = some (arr .u32 K).size := by rw [arr_size, K_len]; exact sizeR
  have s1 : (arr .u32 K).size = (arr .u32 (List.replicate 64 0)).size := by rw [arr_size, arr_size, K_len, List.length_replicate]
  have b1 : (w.alloc (.cells (arr .u32 (List.replicate 64 0)) 115)).heap[w.heap.size]? = some (.cells (arr .u32 (List.replicate 64 0)) 115 (0, 0)) := blk_new w _
  have Z1 := Lib.hid z1
  have S1 := Lib.hid s1
  have B1 := Lib.hid b1
  clear z1 s1 b1
  go_enter Tryd.func93, Tryd.ntmps93
  go_wp2_with (first | ((with_reducible refine aS 0 ?_); refine wpList_alloc_row rfl 115 rfl _ (zeroR _) ?_) | ((with_reducible refine aS 1 ?_); refine wpList_build rfl 115 _ rfl KV (by kernel_rfl) _ (build_K _) ?_) | ((with_reducible show wpList _ _ _ (Oper.mk none _ _ _ _ _ :: _) _ _); refine wpList_store_whole rfl 115 _ _ rfl w.heap.size _ _ 115 B1.out rfl rfl S1.out Z1.out (all_arr _ _) ?_; intro w2 hb2 hk2 hz2; have HB2 := Lib.hid hb2; have HK2 := Lib.hid hk2; clear hb2 hk2 hz2))
  (try simp only [Exit.inBlock, Exit.then])
  refine bodyPost_ret (results_cell_row rfl _ _ w.heap.size 115 _ (0, 0) _ rfl HB2.out Tryd.underlying115 rfl Z1.out) rfl ?_
  exact ⟨rfl, (((Kept.refl (fun i => i = w.heap.size) w).alloc _).trans HK2.out).toBelow (Nat.le_refl _) (by rintro i rfl; exact Nat.le_refl _)⟩
theorem begin_any (w : World) : Calls Tryd.prog 87 #[] w fun e w' => ∃ p, e = .returned (.pointer (some ⟨p, 0, none⟩)) ∧ IsSt w' p H0 (List.replicate 64 0) 0 0 ∧ w.heap.size ≤ p ∧ Below w.heap.size w w' := by
  go_enter Tryd.func87, Tryd.ntmps87
  go_wp2_with (first | (go_at_call 93; refine (consts_any _).mono ?_; rintro e w1 ⟨rfl, hb1⟩) | ((with_reducible refine aS 3 ?_); refine wpList_build rfl 117 _ rfl #[(0, .agg (arr .u32 H0)), (1, .agg (arr .u32 K))] rfl _ (build_st _) ?_))
  go_ret
  refine ⟨w1.heap.size, rfl, ⟨blk_new _ _, rfl, by simp⟩, hb1.size, hb1.alloc hb1.size _⟩
end Go.Proofs.YtogebegdgfdijaaDoor.Ha
namespace Go.Proofs.YtogebegdgfdijaaDoor.Ha
open Go.RowKit
theorem arr_set (k : IntKind) (xs : List Int) (i : Nat) (v : Int) : (arr k xs).setIfInBounds i (.int k v) = arr k (xs.set i v) := by
  unfold arr
  rw [setA, List.map_set]
theorem stC_partb {h b : List Int} (n l : Int) (hl : h.length = 8) : ((stC h b n l).toList.drop 72).take b.length = b.map (Value.int .u8) := by
  have kl := K_len
  rw [stC_toList, ← List.append_assoc, List.drop_append_of_le_length (by simp [hl, kl]), List.drop_eq_nil_of_le (by simp [hl, kl])]
  simp
theorem stC_parth (h b : List Int) (n l : Int) : ((stC h b n l).toList.drop 0).take h.length = h.map (Value.int .u32) := by
  rw [stC_toList]
  simp
theorem blk_arr {w : World} {g : Nat} {k : IntKind} {xs : List Int} {t : TypeId} {fr : Nat × Nat} (h : w.heap[g]? = some (.cells (arr k xs) t fr)) (i : Nat) (hi : i < xs.length) : w.cell? ⟨g, i, none⟩ = some (.int k (xs.getD i 0)) := by
  rw [cell_blk h, arr_get _ _ _ hi]
theorem blk_arr_set {w : World} {g : Nat} {k : IntKind} {xs : List Int} {t : TypeId} (h : w.heap[g]? = some (.cells (arr k xs) t (0, 0))) (i : Nat) (v : Int) : (w.setCell ⟨g, i, none⟩ (.int k v)).heap[g]? = some (.cells (arr k (xs.set i v)) t (0, 0)) := by
  rw [blk_setCell h, arr_set]
theorem byte_at {b : List Int} (hb : ∀ x ∈ b, 0 ≤ x ∧ x ≤ 255) (j : Nat) : 0 ≤ b.getD j 0 ∧ b.getD j 0 ≤ 255 := by
  simp only [List.getD]
  cases e : b[j]? with
  | none => simp
  | some y => simpa using hb y (List.mem_of_getElem? e)
theorem flat4 (a b c d : Int) : (a + b + c + d) % 4294967296 = add (add (add a b) c) d := by
  simp only [add, IntKind.wrap_u32]
  omega
theorem sched_any (p : Nat) (h b : List Int) (n l : Int) (w : World) (s : IsSt w p h b n l) (hb : ∀ x ∈ b, 0 ≤ x ∧ x ≤ 255) :
    Calls Tryd.prog 95 #[.pointer (some ⟨p, 0, none⟩)] w fun e w' => e = .returned (.agg (arr .u32 (sched b 48))) ∧ Below w.heap.size w w' := by
  have hs2 := ((s.alloc (.cells (arr .u32 (List.replicate 64 0)) 115)).alloc (.cells (arr .u32 (List.replicate 64 0)) 115)).blk
  have hp2 := stC_partb (b := b) n l s.hl
  have hz2 : (Tryd.prog.info? 64).map (·.size) = some b.length := by rw [s.bl]; exact sizeB
  have hst : ((w.alloc (.cells (arr .u32 (List.replicate 64 0)) 115)).alloc (.cells (arr .u32 (List.replicate 64 0)) 115)).heap[w.heap.size + 1]? = some (.cells (arr .u32 (pre b 0)) 115 (0, 0)) ∧
      ((w.alloc (.cells (arr .u32 (List.replicate 64 0)) 115)).alloc (.cells (arr .u32 (List.replicate 64 0)) 115)).heap[w.heap.size]? = some (.cells (arr .u32 (List.replicate 64 0)) 115 (0, 0)) ∧
      Below w.heap.size w ((w.alloc (.cells (arr .u32 (List.replicate 64 0)) 115)).alloc (.cells (arr .u32 (List.replicate 64 0)) 115)) := by
    refine ⟨?_, blk_alloc (blk_new w _) _, ((Below.refl _ w).alloc (Nat.le_refl _) _).alloc (by simp) _⟩
    have := blk_new (w.alloc (.cells (arr .u32 (List.replicate 64 0)) 115)) (.cells (arr .u32 (List.replicate 64 0)) 115)
    rw [show (w.alloc (.cells (arr .u32 (List.replicate 64 0)) 115)).heap.size = w.heap.size + 1 by simp] at this
    rw [pre_zero]
    exact this
  have hix := fun (j : Nat) (hj : j < 64) (w : World) => run_index_arr (P := Tryd.prog) w 64 5 64 .u8 .u8 .i64 Tryd.underlying64 Tryd.underlying5 size_u8 b s.bl j hj
  have HS2 := Lib.hid hs2
  have HP2 := Lib.hid hp2
  have HZ2 := Lib.hid hz2
  have HST := Lib.hid hst
  have HIX := Lib.hid hix
  clear hs2 hp2 hz2 hst hix s
  go_enter Tryd.func95, Tryd.ntmps95
  go_wp2_with (first | ((with_reducible refine aS 2 ?_); refine wpList_alloc_row rfl 115 rfl _ (zeroR _) ?_) | ((with_reducible refine aS 3 ?_); refine wpList_alloc_row rfl 115 rfl _ (zeroR _) ?_) | ((with_reducible refine aS 14 ?_); refine wpList_load_part rfl 64 _ rfl p 72 _ 117 (0, 0) _ HS2.out rfl .u8 b HP2.out Tryd.underlying64 rfl HZ2.out ?_))
  go_loopw [15] (fun i wr => ∃ j : Nat, j ≤ 64 ∧ i = .int .i64 j ∧ wr.heap[w.heap.size + 1]? = some (.cells (arr .u32 (pre b j)) 115 (0, 0)) ∧ wr.heap[w.heap.size]? = some (.cells (arr .u32 (List.replicate 64 0)) 115 (0, 0)) ∧ Below w.heap.size w wr) (fun i _ => 64 - (intOf i).toNat)
  case atStart => exact ⟨0, Nat.zero_le _, rfl, HST.out.1, HST.out.2.1, HST.out.2.2⟩
  case round =>
    obtain ⟨j, hj, rfl, g1, g2, hbw⟩ := hrel
    by_cases hlt : j < 64
    · have x0 := HIX.out j hlt
      have x1 := blk_arr g1 (j / 4) (by rw [pre_len]; omega)
      have x2 := free_blk g1 (j / 4)
      obtain ⟨b0, b1⟩ := byte_at hb j
      have G1 := Lib.hid (blk_arr_set g1 (j / 4) (bits .or .u32 (IntKind.u32.wrap ((pre b j).getD (j / 4) 0 * 256)) (b.getD j 0)))
      rw [← pre_succ b j hlt] at G1
      have G2 := Lib.hid g2
      have HBW := Lib.hid hbw
      clear g1 g2 hbw
      generalize (pre b j).getD (j / 4) 0 = y at x1 G1
      generalize b.getD j 0 = x at x0 b0 b1 G1
      go_wp2
      go_roundw
      case rel => exact ⟨j + 1, by omega, by go_num, G1.out, blk_setCell_ne G2.out _ (by omega), HBW.out.setCell (p := ⟨w.heap.size + 1, j / 4, none⟩) (by simp) _⟩
      case measure => simp [intOf]; omega
    · have ej : j = 64 := by omega
      obtain ⟨wo, rfl⟩ : ∃ wo : World, wo = wr := ⟨_, rfl⟩
      rw [ej] at g1
      clear ej
      have G1 := Lib.hid g1
      have G2 := Lib.hid g2
      have HBW := Lib.hid hbw
      clear g1 g2 hbw
      go_wp2_with fail
      go_loopw [6] (fun i wr => ∃ t : Nat, 16 ≤ t ∧ t ≤ 64 ∧ i = .int .i64 t ∧ wr.heap[w.heap.size + 1]? = some (.cells (arr .u32 (sched b (t - 16))) 115 (0, 0)) ∧ wr.heap[w.heap.size]? = some (.cells (arr .u32 (List.replicate 64 0)) 115 (0, 0)) ∧ Below w.heap.size w wr) (fun i _ => 64 - (intOf i).toNat)
      case atStart => exact ⟨16, by omega, by omega, rfl, G1.out, G2.out, HBW.out⟩
      case round =>
        obtain ⟨t, h16, ht, rfl, g1, g2, hbw⟩ := hrel
        by_cases hlt : t < 64
        · have hsl := sched_len b (t - 16)
          have x2 := blk_arr g1 (t - 2) (by omega)
          have x7 := blk_arr g1 (t - 7) (by omega)
          have x15 := blk_arr g1 (t - 15) (by omega)
          have x16 := blk_arr g1 (t - 16) (by omega)
          have xt := blk_arr g1 t (by omega)
          have xf := free_blk g1 t
          have hnx : sched b (t - 16 + 1) = (sched b (t - 16)).set t (next (sched b (t - 16)) t) := by
            have := sched_succ b (t - 16)
            rwa [show 16 + (t - 16) = t by omega] at this
          have g1' := blk_arr_set g1 t (next (sched b (t - 16)) t)
          rw [← hnx, show t - 16 + 1 = t + 1 - 16 by omega] at g1'
          have G1 : Hid (∀ v, v = next (sched b (t - 16)) t → (wr.setCell ⟨w.heap.size + 1, t, none⟩ (.int .u32 v)).heap[w.heap.size + 1]? = some (.cells (arr .u32 (sched b (t + 1 - 16))) 115 (0, 0))) := Lib.hid (by rintro v rfl; exact g1')
          have G2 := Lib.hid g2
          have HBW := Lib.hid hbw
          clear g1 g1' g2 hbw hsl hnx
          unfold next at G1
          generalize (sched b (t - 16)).getD (t - 2) 0 = y2 at x2 G1
          generalize (sched b (t - 16)).getD (t - 7) 0 = y7 at x7 G1
          generalize (sched b (t - 16)).getD (t - 15) 0 = y15 at x15 G1
          generalize (sched b (t - 16)).getD (t - 16) 0 = y16 at x16 G1
          have i15 : IntKind.i64.wrap ((t : Int) - 15) = (t : Int) - 15 := IntWalk.i64_in _ (by omega)
          have i2 : IntKind.i64.wrap ((t : Int) - 2) = (t : Int) - 2 := IntWalk.i64_in _ (by omega)
          have i7 : IntKind.i64.wrap ((t : Int) - 7) = (t : Int) - 7 := IntWalk.i64_in _ (by omega)
          have i16 : IntKind.i64.wrap ((t : Int) - 16) = (t : Int) - 16 := IntWalk.i64_in _ (by omega)
          have n15 : ((t : Int) - 15).toNat = t - 15 := by omega
          have n2 : ((t : Int) - 2).toNat = t - 2 := by omega
          have n7 : ((t : Int) - 7).toNat = t - 7 := by omega
          have n16 : ((t : Int) - 16).toNat = t - 16 := by omega
          go_wp2_with fail
          go_region
          go_wp2_with (go_at_call 86; first | ((with_reducible refine (rl_7 _ _).mono ?_); rintro e w' ⟨rfl, rfl⟩) | ((with_reducible refine (rl_17 _ _).mono ?_); rintro e w' ⟨rfl, rfl⟩) | ((with_reducible refine (rl_18 _ _).mono ?_); rintro e w' ⟨rfl, rfl⟩) | ((with_reducible refine (rl_19 _ _).mono ?_); rintro e w' ⟨rfl, rfl⟩))
          go_region
          clear i15 i2 i7 i16 n15 n2 n7 n16
          go_wp2_with fail
          go_roundw
          case rel => exact ⟨t + 1, by omega, by omega, by go_num, G1.out _ (flat4 (s1 y2) y7 (s0 y15) y16), blk_setCell_ne G2.out _ (by omega), ((HBW.out.setCell (p := ⟨w.heap.size + 1, t, none⟩) (by simp) _).drew).drew⟩
          case measure => simp [intOf]; omega
        · obtain rfl : t = 64 := by omega
          have z1 : (Tryd.prog.info? 115).map (·.size) = some (sched b 48).length := by rw [sched_len]; exact sizeR
          have z2 : (Tryd.prog.info? 115).map (·.size) = some (arr .u32 (sched b 48)).size := by rw [arr_size, sched_len]; exact sizeR
          have z3 : (arr .u32 (sched b 48)).size = (arr .u32 (List.replicate 64 0)).size := by rw [arr_size, arr_size, sched_len, List.length_replicate]
          have z4 : ((arr .u32 (sched b 48)).toList.drop 0).take (sched b 48).length = (sched b 48).map (Value.int .u32) := by rw [arr_toList, List.drop_zero, List.take_of_length_le (by simp)]
          have G1 := Lib.hid g1
          have G2 := Lib.hid g2
          have HBW := Lib.hid hbw
          have Z1 := Lib.hid z1
          have Z2 := Lib.hid z2
          have Z3 := Lib.hid z3
          have Z4 := Lib.hid z4
          clear g1 g2 hbw z1 z2 z3 z4
          go_wp2_with (first | ((with_reducible refine aS 74 ?_); refine wpList_load_part rfl 115 _ rfl (w.heap.size + 1) 0 _ 115 (0, 0) _ G1.out rfl .u32 (sched b 48) Z4.out Tryd.underlying115 rfl Z1.out ?_) | ((with_reducible show wpList _ _ _ (Oper.mk none _ _ _ _ _ :: _) _ _); refine wpList_store_whole rfl 115 _ _ rfl w.heap.size _ _ 115 G2.out rfl rfl Z3.out Z2.out (all_arr _ _) ?_; intro w2 hb2 hk2 hz2; have HB2 := Lib.hid hb2; have HK2 := Lib.hid hk2; clear hb2 hk2 hz2))
          (try simp only [Exit.inBlock, Exit.then])
          refine bodyPost_ret (results_cell_row rfl _ _ w.heap.size 115 _ (0, 0) _ rfl HB2.out Tryd.underlying115 rfl Z2.out) rfl ?_
          exact ⟨rfl, HBW.out.trans (HK2.out.toBelow HBW.out.size (by rintro i rfl; exact Nat.le_refl _))⟩
end Go.Proofs.YtogebegdgfdijaaDoor.Ha
namespace Go.Proofs.YtogebegdgfdijaaDoor.Ha
open Go.RowKit
theorem zero8 (w : World) : (zeroValue 114).run Tryd.prog w = .ok (.agg (arr .u32 (List.replicate 8 0))) w := by kernel_rfl
theorem list8_eq {a0 a1 a2 a3 a4 a5 a6 a7 b0 b1 b2 b3 b4 b5 b6 b7 : Int} (h0 : a0 = b0) (h1 : a1 = b1) (h2 : a2 = b2) (h3 : a3 = b3) (h4 : a4 = b4) (h5 : a5 = b5) (h6 : a6 = b6) (h7 : a7 = b7) :
    [a0, a1, a2, a3, a4, a5, a6, a7] = [b0, b1, b2, b3, b4, b5, b6, b7] := by
  subst h0 h1 h2 h3 h4 h5 h6 h7
  rfl
theorem flat1 (a b : Int) : (a + b) % 4294967296 = add a b := by simp only [add, IntKind.wrap_u32]
theorem flat6 (a b c d e f : Int) : (a + (b + c + d + e + f)) % 4294967296 = add a (add (add (add (add b c) d) e) f) := by
  simp only [add, IntKind.wrap_u32]
  omega
theorem flat7 (a b c d e x y : Int) : (a + b + c + d + e + (x + y)) % 4294967296 = add (add (add (add (add a b) c) d) e) (add x y) := by
  simp only [add, IntKind.wrap_u32]
  omega
/-- A store of eight integers over an array of eight. -/
theorem wpList_store8 {P : Program} {ops : Array Oper} {rest : List Oper} {o : Oper} {a : Act} {w : World} {Q : Exit → Act → World → Prop} (hgd : o.guard = none) (ty : TypeId) (x y : Operand) (ho : o.op = .store ty x y)
    (g : Nat) (k : IntKind) (ys : List Int) (t : TypeId) (hb : w.heap[g]? = some (.cells (arr k ys) t (0, 0))) (hx : a.eval x = .pointer (some ⟨g, 0, none⟩)) (a0 a1 a2 a3 a4 a5 a6 a7 : Int)
    (hy : a.eval y = .agg #[Value.int k a0, .int k a1, .int k a2, .int k a3, .int k a4, .int k a5, .int k a6, .int k a7]) (hl : ys.length = 8) (hi : (P.info? ty).map (·.size) = some 8)
    (h : ∀ w', w'.heap[g]? = some (.cells (arr k [a0, a1, a2, a3, a4, a5, a6, a7]) t (0, 0)) → Kept (fun i => i = g) w w' → w'.heap.size = w.heap.size → wpList P ops Q rest (a.put o.dst undef) w') :
    wpList P ops Q (o :: rest) a w := by
  refine wpList_store_whole hgd ty x y ho g (arr k ys) (arr k [a0, a1, a2, a3, a4, a5, a6, a7]) t hb hx hy ?_ ?_ (all_arr _ _) h
  · rw [arr_size, arr_size, hl]; rfl
  · rw [arr_size]; exact hi
/-- What holds at the label: t rounds are done. -/
structure TurnJ (w w' : World) (p g2 g3 : Nat) (h b ws : List Int) (n l : Int) (t : Nat) : Prop where
  le : t ≤ 64
  b2 : w'.heap[g2]? = some (.cells (arr .u32 ws) 115 (0, 0))
  b3 : w'.heap[g3]? = some (.cells (arr .u32 (rounds ws h t)) 114 (0, 0))
  st : IsSt w' p h b n l
  below : Below w.heap.size w w'
  d2 : w.heap.size ≤ g2
  d3 : g2 < g3
def TJ (w : World) (p : Nat) (h b ws : List Int) (n l : Int) (a' : Act) (w' : World) : Prop :=
  a'.defers = [] ∧ a'.tmps.size = 122 ∧ ∃ (g2 g3 t : Nat), a'.tmps.getD 0 undef = .pointer (some ⟨p, 0, none⟩) ∧ a'.tmps.getD 2 undef = .pointer (some ⟨g2, 0, none⟩) ∧ a'.tmps.getD 3 undef = .pointer (some ⟨g3, 0, none⟩) ∧ a'.tmps.getD 4 undef = .int .i64 (t : Int) ∧ TurnJ w w' p g2 g3 h b ws n l t
theorem list_range (n : Nat) (l : List Value) (h : l.length = n) : l = (List.range n).map fun i => l.getD i undef := by
  apply List.ext_getElem
  · simp [h]
  · intro i h1 h2
    simp [List.getD, h1]
/-- A frame of so many slots, slot by slot. -/
theorem frame122 {motive : Act → Prop} (h : ∀ u0 u1 u2 u3 u4 u5 u6 u7 u8 u9 u10 u11 u12 u13 u14 u15 u16 u17 u18 u19 u20 u21 u22 u23 u24 u25 u26 u27 u28 u29 u30 u31 u32 u33 u34 u35 u36 u37 u38 u39 u40 u41 u42 u43 u44 u45 u46 u47 u48 u49 u50 u51 u52 u53 u54 u55 u56 u57 u58 u59 u60 u61 u62 u63 u64 u65 u66 u67 u68 u69 u70 u71 u72 u73 u74 u75 u76 u77 u78 u79 u80 u81 u82 u83 u84 u85 u86 u87 u88 u89 u90 u91 u92 u93 u94 u95 u96 u97 u98 u99 u100 u101 u102 u103 u104 u105 u106 u107 u108 u109 u110 u111 u112 u113 u114 u115 u116 u117 u118 u119 u120 u121 : Value, motive { tmps := #[u0, u1, u2, u3, u4, u5, u6, u7, u8, u9, u10, u11, u12, u13, u14, u15, u16, u17, u18, u19, u20, u21, u22, u23, u24, u25, u26, u27, u28, u29, u30, u31, u32, u33, u34, u35, u36, u37, u38, u39, u40, u41, u42, u43, u44, u45, u46, u47, u48, u49, u50, u51, u52, u53, u54, u55, u56, u57, u58, u59, u60, u61, u62, u63, u64, u65, u66, u67, u68, u69, u70, u71, u72, u73, u74, u75, u76, u77, u78, u79, u80, u81, u82, u83, u84, u85, u86, u87, u88, u89, u90, u91, u92, u93, u94, u95, u96, u97, u98, u99, u100, u101, u102, u103, u104, u105, u106, u107, u108, u109, u110, u111, u112, u113, u114, u115, u116, u117, u118, u119, u120, u121], defers := [] }) (a : Act) (hd : a.defers = []) (hs : a.tmps.size = 122) : motive a := by
  obtain ⟨⟨l⟩, d⟩ := a
  simp only at hd
  subst hd
  have e := list_range 122 l hs
  have e2 : ((List.range 122).map fun i => l.getD i undef) = [l.getD 0 undef, l.getD 1 undef, l.getD 2 undef, l.getD 3 undef, l.getD 4 undef, l.getD 5 undef, l.getD 6 undef, l.getD 7 undef, l.getD 8 undef, l.getD 9 undef, l.getD 10 undef, l.getD 11 undef, l.getD 12 undef, l.getD 13 undef, l.getD 14 undef, l.getD 15 undef, l.getD 16 undef, l.getD 17 undef, l.getD 18 undef, l.getD 19 undef, l.getD 20 undef, l.getD 21 undef, l.getD 22 undef, l.getD 23 undef, l.getD 24 undef, l.getD 25 undef, l.getD 26 undef, l.getD 27 undef, l.getD 28 undef, l.getD 29 undef, l.getD 30 undef, l.getD 31 undef, l.getD 32 undef, l.getD 33 undef, l.getD 34 undef, l.getD 35 undef, l.getD 36 undef, l.getD 37 undef, l.getD 38 undef, l.getD 39 undef, l.getD 40 undef, l.getD 41 undef, l.getD 42 undef, l.getD 43 undef, l.getD 44 undef, l.getD 45 undef, l.getD 46 undef, l.getD 47 undef, l.getD 48 undef, l.getD 49 undef, l.getD 50 undef, l.getD 51 undef, l.getD 52 undef, l.getD 53 undef, l.getD 54 undef, l.getD 55 undef, l.getD 56 undef, l.getD 57 undef, l.getD 58 undef, l.getD 59 undef, l.getD 60 undef, l.getD 61 undef, l.getD 62 undef, l.getD 63 undef, l.getD 64 undef, l.getD 65 undef, l.getD 66 undef, l.getD 67 undef, l.getD 68 undef, l.getD 69 undef, l.getD 70 undef, l.getD 71 undef, l.getD 72 undef, l.getD 73 undef, l.getD 74 undef, l.getD 75 undef, l.getD 76 undef, l.getD 77 undef, l.getD 78 undef, l.getD 79 undef, l.getD 80 undef, l.getD 81 undef, l.getD 82 undef, l.getD 83 undef, l.getD 84 undef, l.getD 85 undef, l.getD 86 undef, l.getD 87 undef, l.getD 88 undef, l.getD 89 undef, l.getD 90 undef, l.getD 91 undef, l.getD 92 undef, l.getD 93 undef, l.getD 94 undef, l.getD 95 undef, l.getD 96 undef, l.getD 97 undef, l.getD 98 undef, l.getD 99 undef, l.getD 100 undef, l.getD 101 undef, l.getD 102 undef, l.getD 103 undef, l.getD 104 undef, l.getD 105 undef, l.getD 106 undef, l.getD 107 undef, l.getD 108 undef, l.getD 109 undef, l.getD 110 undef, l.getD 111 undef, l.getD 112 undef, l.getD 113 undef, l.getD 114 undef, l.getD 115 undef, l.getD 116 undef, l.getD 117 undef, l.getD 118 undef, l.getD 119 undef, l.getD 120 undef, l.getD 121 undef] := rfl
  rw [e2] at e
  have := h (l.getD 0 undef) (l.getD 1 undef) (l.getD 2 undef) (l.getD 3 undef) (l.getD 4 undef) (l.getD 5 undef) (l.getD 6 undef) (l.getD 7 undef) (l.getD 8 undef) (l.getD 9 undef) (l.getD 10 undef) (l.getD 11 undef) (l.getD 12 undef) (l.getD 13 undef) (l.getD 14 undef) (l.getD 15 undef) (l.getD 16 undef) (l.getD 17 undef) (l.getD 18 undef) (l.getD 19 undef) (l.getD 20 undef) (l.getD 21 undef) (l.getD 22 undef) (l.getD 23 undef) (l.getD 24 undef) (l.getD 25 undef) (l.getD 26 undef) (l.getD 27 undef) (l.getD 28 undef) (l.getD 29 undef) (l.getD 30 undef) (l.getD 31 undef) (l.getD 32 undef) (l.getD 33 undef) (l.getD 34 undef) (l.getD 35 undef) (l.getD 36 undef) (l.getD 37 undef) (l.getD 38 undef) (l.getD 39 undef) (l.getD 40 undef) (l.getD 41 undef) (l.getD 42 undef) (l.getD 43 undef) (l.getD 44 undef) (l.getD 45 undef) (l.getD 46 undef) (l.getD 47 undef) (l.getD 48 undef) (l.getD 49 undef) (l.getD 50 undef) (l.getD 51 undef) (l.getD 52 undef) (l.getD 53 undef) (l.getD 54 undef) (l.getD 55 undef) (l.getD 56 undef) (l.getD 57 undef) (l.getD 58 undef) (l.getD 59 undef) (l.getD 60 undef) (l.getD 61 undef) (l.getD 62 undef) (l.getD 63 undef) (l.getD 64 undef) (l.getD 65 undef) (l.getD 66 undef) (l.getD 67 undef) (l.getD 68 undef) (l.getD 69 undef) (l.getD 70 undef) (l.getD 71 undef) (l.getD 72 undef) (l.getD 73 undef) (l.getD 74 undef) (l.getD 75 undef) (l.getD 76 undef) (l.getD 77 undef) (l.getD 78 undef) (l.getD 79 undef) (l.getD 80 undef) (l.getD 81 undef) (l.getD 82 undef) (l.getD 83 undef) (l.getD 84 undef) (l.getD 85 undef) (l.getD 86 undef) (l.getD 87 undef) (l.getD 88 undef) (l.getD 89 undef) (l.getD 90 undef) (l.getD 91 undef) (l.getD 92 undef) (l.getD 93 undef) (l.getD 94 undef) (l.getD 95 undef) (l.getD 96 undef) (l.getD 97 undef) (l.getD 98 undef) (l.getD 99 undef) (l.getD 100 undef) (l.getD 101 undef) (l.getD 102 undef) (l.getD 103 undef) (l.getD 104 undef) (l.getD 105 undef) (l.getD 106 undef) (l.getD 107 undef) (l.getD 108 undef) (l.getD 109 undef) (l.getD 110 undef) (l.getD 111 undef) (l.getD 112 undef) (l.getD 113 undef) (l.getD 114 undef) (l.getD 115 undef) (l.getD 116 undef) (l.getD 117 undef) (l.getD 118 undef) (l.getD 119 undef) (l.getD 120 undef) (l.getD 121 undef)
  rwa [← e] at this
theorem turn_any (p : Nat) (h b : List Int) (n l : Int) (w : World) (s : IsSt w p h b n l) (hb : ∀ x ∈ b, 0 ≤ x ∧ x ≤ 255) :
    Calls Tryd.prog 94 #[.pointer (some ⟨p, 0, none⟩)] w fun e w' => e = .returned (.tuple #[]) ∧ IsSt w' p (comp h b) b n l ∧ Kept (fun x => x = p) w w' := by
  have hsc := sched_any p h b n l w s hb
  obtain ⟨ws, ews⟩ : ∃ ws, ws = sched b 48 := ⟨_, rfl⟩
  have hwl : ws.length = 64 := by rw [ews]; exact sched_len _ _
  rw [← ews] at hsc
  have hp8 := stC_parth h b n l
  have hz8 : (Tryd.prog.info? 114).map (·.size) = some h.length := by rw [s.hl]; exact size8
  have z1 : (Tryd.prog.info? 115).map (·.size) = some (arr .u32 ws).size := by rw [arr_size, hwl]; exact sizeR
  have z2 : (arr .u32 ws).size = (arr .u32 (List.replicate 64 0)).size := by rw [arr_size, arr_size, hwl, List.length_replicate]
  have z3 : (Tryd.prog.info? 114).map (·.size) = some (arr .u32 h).size := by rw [arr_size, s.hl]; exact size8
  have z4 : (arr .u32 h).size = (arr .u32 (List.replicate 8 0)).size := by rw [arr_size, arr_size, s.hl, List.length_replicate]
  have HSC := Lib.hid hsc
  have HP8 := Lib.hid hp8
  have HZ8 := Lib.hid hz8
  have Z1 := Lib.hid z1
  have Z2 := Lib.hid z2
  have Z3 := Lib.hid z3
  have Z4 := Lib.hid z4
  have HWL := Lib.hid hwl
  have HE := Lib.hid ews
  have HS := Lib.hid s
  clear hsc hp8 hz8 z1 z2 z3 z4 hwl ews s
  go_enter Tryd.func94, Tryd.ntmps94
  refine wp_scope_jumps 0 (TJ w p h b ws n l) (fun a' _ => (64 - intOf (a'.tmps.getD 4 undef)).toNat) rfl ?_ ?_
  · go_wp2_with (first | (go_at_call 95; refine HSC.out.mono ?_; rintro e w1 ⟨rfl, hb1⟩; have hst1 := HS.out.below hb1; have HST1 := Lib.hid hst1; have HB1 := Lib.hid hb1; clear hst1 hb1) | ((with_reducible refine aS 2 ?_); refine wpList_alloc_row rfl 115 rfl _ (zeroR _) ?_; have HA1 := Lib.hid (blk_new w1 (.cells (arr .u32 (List.replicate 64 0)) 115))) | ((with_reducible show wpList _ _ _ (Oper.mk none _ _ _ _ _ :: _) _ _); refine wpList_store_whole rfl 115 _ _ rfl w1.heap.size _ _ 115 HA1.out rfl rfl Z2.out Z1.out (all_arr _ _) ?_; intro w2 hb2 hk2 hz2; have hst2 := (HST1.out.alloc _).kept hk2 (by have := blk_lt HST1.out.blk; omega); have HST2 := Lib.hid hst2; have HB2 := Lib.hid hb2; have HK2 := Lib.hid hk2; have HZ2 := Lib.hid hz2; clear hst2 hb2 hk2 hz2) | ((with_reducible refine aS 17 ?_); refine wpList_load_part rfl 114 _ rfl p 0 _ 117 (0, 0) _ HST2.out.blk rfl .u32 h HP8.out Tryd.underlying114 rfl HZ8.out ?_) | ((with_reducible refine aS 3 ?_); refine wpList_alloc_row rfl 114 rfl _ (zero8 _) ?_; have HA3 := Lib.hid (blk_new w2 (.cells (arr .u32 (List.replicate 8 0)) 114))) | ((with_reducible show wpList _ _ _ (Oper.mk none _ _ _ _ _ :: _) _ _); refine wpList_store_whole rfl 114 _ _ rfl w2.heap.size _ _ 114 HA3.out rfl rfl Z4.out Z3.out (all_arr _ _) ?_; intro w3 hb3 hk3 hz3; have HB3 := Lib.hid hb3; have HK3 := Lib.hid hk3; have HZ3 := Lib.hid hz3; clear hb3 hk3 hz3))
    refine (fun (H : ∀ (a : Act) (w' : World), TJ w p h b ws n l a w' → Code.wp Tryd.prog (Code.label 0) _ a w') => H _ _ ?hj0) ?hmain
    case hj0 =>
      have e2 : w2.heap.size = w1.heap.size + 1 := by rw [HZ2.out]; simp
      have l1 := HB1.out.size
      have lp := blk_lt HST2.out.blk
      have lp1 := blk_lt HS.out.blk
      refine ⟨rfl, rfl, w1.heap.size, w2.heap.size, 0, rfl, rfl, rfl, rfl, ⟨by omega, HK3.out.blk (blk_alloc HB2.out _) (by omega), HB3.out, (HST2.out.alloc _).kept HK3.out (by omega), ?_, l1, by omega⟩⟩
      have q1 : Below w.heap.size w w2 := (HB1.out.alloc HB1.out.size _).trans (HK2.out.toBelow (by simp; omega) (by rintro i rfl; exact l1))
      exact (q1.alloc q1.size _).trans (HK3.out.toBelow (by simp; omega) (by rintro i rfl; omega))
    clear HST2 HB2 HK2 HZ2 HB3 HK3 HZ3 HA1 HA3 HST1 HB1
    intro a w' hj
    obtain ⟨hfd, hfs, g2, g3, t, h0, h2, h3, h4, hJ⟩ := hj
    obtain ⟨ht, hb2, hb3, hst, hbw, hd2, hd3⟩ := hJ
    refine frame122 (motive := fun a => a.tmps.getD 0 undef = .pointer (some ⟨p, 0, none⟩) → a.tmps.getD 2 undef = .pointer (some ⟨g2, 0, none⟩) → a.tmps.getD 3 undef = .pointer (some ⟨g3, 0, none⟩) → a.tmps.getD 4 undef = .int .i64 (t : Int) → Code.wp _ _ _ a w') ?_ a hfd hfs h0 h2 h3 h4
    clear h0 h2 h3 h4 hfd hfs
    intro u0 u1 u2 u3 u4 u5 u6 u7 u8 u9 u10 u11 u12 u13 u14 u15 u16 u17 u18 u19 u20 u21 u22 u23 u24 u25 u26 u27 u28 u29 u30 u31 u32 u33 u34 u35 u36 u37 u38 u39 u40 u41 u42 u43 u44 u45 u46 u47 u48 u49 u50 u51 u52 u53 u54 u55 u56 u57 u58 u59 u60 u61 u62 u63 u64 u65 u66 u67 u68 u69 u70 u71 u72 u73 u74 u75 u76 u77 u78 u79 u80 u81 u82 u83 u84 u85 u86 u87 u88 u89 u90 u91 u92 u93 u94 u95 u96 u97 u98 u99 u100 u101 u102 u103 u104 u105 u106 u107 u108 u109 u110 u111 u112 u113 u114 u115 u116 u117 u118 u119 u120 u121 h0 h2 h3 h4
    have k0 : u0 = .pointer (some ⟨p, 0, none⟩) := h0
    have k2 : u2 = .pointer (some ⟨g2, 0, none⟩) := h2
    have k3 : u3 = .pointer (some ⟨g3, 0, none⟩) := h3
    have k4 : u4 = .int .i64 (t : Int) := h4
    clear h0 h2 h3 h4
    subst k0 k2 k3 k4
    go_step3
    have hpl := blk_lt HS.out.blk
    by_cases hlt : t < 64
    · have hvl := rounds_len ws h HS.out.hl t
      have x0 := blk_arr hb3 0 (by omega)
      have x1 := blk_arr hb3 1 (by omega)
      have x2 := blk_arr hb3 2 (by omega)
      have x3 := blk_arr hb3 3 (by omega)
      have x4 := blk_arr hb3 4 (by omega)
      have x5 := blk_arr hb3 5 (by omega)
      have x6 := blk_arr hb3 6 (by omega)
      have x7 := blk_arr hb3 7 (by omega)
      have xk := hst.at_k t hlt
      have xw := blk_arr hb2 t (by rw [HWL.out]; omega)
      have HN : Hid (∀ cs, cs = arr .u32 (rnd (K.getD t 0) (ws.getD t 0) (rounds ws h t)) → cs = arr .u32 (rounds ws h (t + 1))) := Lib.hid (by rintro cs rfl; rw [rounds_succ])
      have HV8 := Lib.hid hvl
      have HB2 := Lib.hid hb2
      have HB3 := Lib.hid hb3
      have HST := Lib.hid hst
      have HBW := Lib.hid hbw
      clear hb2 hb3 hst hbw hvl
      unfold rnd tx ty at HN
      generalize (rounds ws h t).getD 0 0 = v0 at x0 HN
      generalize (rounds ws h t).getD 1 0 = v1 at x1 HN
      generalize (rounds ws h t).getD 2 0 = v2 at x2 HN
      generalize (rounds ws h t).getD 3 0 = v3 at x3 HN
      generalize (rounds ws h t).getD 4 0 = v4 at x4 HN
      generalize (rounds ws h t).getD 5 0 = v5 at x5 HN
      generalize (rounds ws h t).getD 6 0 = v6 at x6 HN
      generalize (rounds ws h t).getD 7 0 = v7 at x7 HN
      generalize K.getD t 0 = kt at xk HN
      generalize ws.getD t 0 = wt at xw HN
      go_wp2_with fail
      go_region
      go_wp2_with (go_at_call 86; first | ((with_reducible refine (rl_2 _ _).mono ?_); rintro e w' ⟨rfl, rfl⟩) | ((with_reducible refine (rl_6 _ _).mono ?_); rintro e w' ⟨rfl, rfl⟩) | ((with_reducible refine (rl_11 _ _).mono ?_); rintro e w' ⟨rfl, rfl⟩) | ((with_reducible refine (rl_13 _ _).mono ?_); rintro e w' ⟨rfl, rfl⟩) | ((with_reducible refine (rl_22 _ _).mono ?_); rintro e w' ⟨rfl, rfl⟩) | ((with_reducible refine (rl_25 _ _).mono ?_); rintro e w' ⟨rfl, rfl⟩))
      go_quiet (fail)
      go_wp2_with ((with_reducible show wpList _ _ _ (Oper.mk none _ _ _ _ _ :: _) _ _); refine wpList_store8 rfl 114 _ _ rfl g3 .u32 _ 114 HB3.out rfl _ _ _ _ _ _ _ _ rfl HV8.out size8 ?_; intro w4 hb4 hk4 hz4; have HB4 := Lib.hid hb4; have HK4 := Lib.hid hk4; clear hb4 hk4 hz4)
      go_step3
      refine ⟨rfl, rfl, rfl, g2, g3, t + 1, rfl, rfl, rfl, by go_num, ⟨by omega, HK4.out.blk HB2.out (by omega), ?_, HST.out.kept (w := w') ⟨HK4.out.os, HK4.out.tape, HK4.out.output, HK4.out.size, HK4.out.block⟩ (by omega), HBW.out.trans (Kept.toBelow (a := w') ⟨HK4.out.os, HK4.out.tape, HK4.out.output, HK4.out.size, HK4.out.block⟩ HBW.out.size (by rintro i rfl; omega)), hd2, hd3⟩⟩
      · rw [HB4.out]
        exact congrArg (fun c => some (Obj.cells c 114 (0, 0))) (HN.out _ (congrArg (arr .u32) (list8_eq (flat7 v7 (e1 v4) (ch v4 v5 v6) kt wt (e0 v0) (maj v0 v1 v2)) rfl rfl rfl (flat6 v3 v7 (e1 v4) (ch v4 v5 v6) kt wt) rfl rfl rfl)))
    · have et : t = 64 := by omega
      obtain ⟨vv, evv⟩ : ∃ vv, vv = rounds ws h 64 := ⟨_, rfl⟩
      rw [et, ← evv] at hb3
      have hcomp : sums h vv 8 = comp h b := by rw [evv, HE.out]; rfl
      have hvl : vv.length = 8 := by rw [evv]; exact rounds_len ws h HS.out.hl _
      have HCOMP := Lib.hid hcomp
      have HVL := Lib.hid hvl
      have HB3 := Lib.hid hb3
      have HST := Lib.hid hst
      have HBW := Lib.hid hbw
      clear et evv hcomp hvl hb2 hb3 hst hbw
      go_wp2_with fail
      go_loopw [105] (fun i wr => ∃ j : Nat, j ≤ 8 ∧ i = .int .i64 j ∧ wr.heap[g3]? = some (.cells (arr .u32 vv) 114 (0, 0)) ∧ IsSt wr p (sums h vv j) b n l ∧ Kept (fun x => x = p) w wr) (fun i _ => 8 - (intOf i).toNat)
      case atStart => exact ⟨0, Nat.zero_le _, rfl, HB3.out, by rw [sums_zero]; exact HST.out, Kept.of_below HBW.out⟩
      case round =>
        obtain ⟨j, hj8, rfl, hg, hs, hkp⟩ := hrel
        by_cases hl8 : j < 8
        · have y0 := hs.at_h j hl8
          rw [sums_get h vv j j (by rw [HS.out.hl]; exact hl8) (Nat.le_refl _)] at y0
          have y1 := blk_arr hg j (by rw [HVL.out]; exact hl8)
          have y2 := hs.fr j
          have S1 : Hid (∀ x, x = add (h.getD j 0) (vv.getD j 0) → IsSt (wr.setCell ⟨p, j, none⟩ (.int .u32 x)) p (sums h vv (j + 1)) b n l) :=
            Lib.hid (by rintro x rfl; rw [sums_succ h vv j (by rw [HS.out.hl]; exact hl8)]; exact hs.set_h j hl8 _)
          have HG := Lib.hid hg
          have HKP := Lib.hid hkp
          clear hg hs hkp
          generalize h.getD j 0 = hj0 at y0 S1
          generalize vv.getD j 0 = vj at y1 S1
          go_wp2_with fail
          go_region
          go_wp2_with fail
          go_roundw
          case rel => exact ⟨j + 1, by omega, by go_num, blk_setCell_ne HG.out _ (by omega), (S1.out _ (flat1 _ _)).drew, (HKP.out.setCell (p := ⟨p, j, none⟩) (.inl rfl) _).drew⟩
          case measure => simp [intOf]; omega
        · have e8 : j = 8 := by omega
          rw [e8, HCOMP.out] at hs
          have HSE := Lib.hid hs
          have HKP := Lib.hid hkp
          clear e8 hg hs hkp
          go_wp2_with fail
          (try simp only [Exit.jump])
          go_end0
          exact ⟨rfl, HSE.out, HKP.out⟩
  · intro a w' hj
    obtain ⟨hfd, hfs, g2, g3, t, h0, h2, h3, h4, hJ⟩ := hj
    obtain ⟨ht, hb2, hb3, hst, hbw, hd2, hd3⟩ := hJ
    refine frame122 (motive := fun a => a.tmps.getD 0 undef = .pointer (some ⟨p, 0, none⟩) → a.tmps.getD 2 undef = .pointer (some ⟨g2, 0, none⟩) → a.tmps.getD 3 undef = .pointer (some ⟨g3, 0, none⟩) → a.tmps.getD 4 undef = .int .i64 (t : Int) → Code.wp _ _ (Exit.jump 0 (fun a' w'' => TJ w p h b ws n l a' w'' ∧ (64 - intOf (a'.tmps.getD 4 undef)).toNat < (64 - intOf (a.tmps.getD 4 undef)).toNat) _) a w') ?_ a hfd hfs h0 h2 h3 h4
    clear h0 h2 h3 h4 hfd hfs
    intro u0 u1 u2 u3 u4 u5 u6 u7 u8 u9 u10 u11 u12 u13 u14 u15 u16 u17 u18 u19 u20 u21 u22 u23 u24 u25 u26 u27 u28 u29 u30 u31 u32 u33 u34 u35 u36 u37 u38 u39 u40 u41 u42 u43 u44 u45 u46 u47 u48 u49 u50 u51 u52 u53 u54 u55 u56 u57 u58 u59 u60 u61 u62 u63 u64 u65 u66 u67 u68 u69 u70 u71 u72 u73 u74 u75 u76 u77 u78 u79 u80 u81 u82 u83 u84 u85 u86 u87 u88 u89 u90 u91 u92 u93 u94 u95 u96 u97 u98 u99 u100 u101 u102 u103 u104 u105 u106 u107 u108 u109 u110 u111 u112 u113 u114 u115 u116 u117 u118 u119 u120 u121 h0 h2 h3 h4
    have k0 : u0 = .pointer (some ⟨p, 0, none⟩) := h0
    have k2 : u2 = .pointer (some ⟨g2, 0, none⟩) := h2
    have k3 : u3 = .pointer (some ⟨g3, 0, none⟩) := h3
    have k4 : u4 = .int .i64 (t : Int) := h4
    clear h0 h2 h3 h4
    subst k0 k2 k3 k4
    have hpl := blk_lt HS.out.blk
    by_cases hlt : t < 64
    · have hvl := rounds_len ws h HS.out.hl t
      have x0 := blk_arr hb3 0 (by omega)
      have x1 := blk_arr hb3 1 (by omega)
      have x2 := blk_arr hb3 2 (by omega)
      have x3 := blk_arr hb3 3 (by omega)
      have x4 := blk_arr hb3 4 (by omega)
      have x5 := blk_arr hb3 5 (by omega)
      have x6 := blk_arr hb3 6 (by omega)
      have x7 := blk_arr hb3 7 (by omega)
      have xk := hst.at_k t hlt
      have xw := blk_arr hb2 t (by rw [HWL.out]; omega)
      have HN : Hid (∀ cs, cs = arr .u32 (rnd (K.getD t 0) (ws.getD t 0) (rounds ws h t)) → cs = arr .u32 (rounds ws h (t + 1))) := Lib.hid (by rintro cs rfl; rw [rounds_succ])
      have HV8 := Lib.hid hvl
      have HB2 := Lib.hid hb2
      have HB3 := Lib.hid hb3
      have HST := Lib.hid hst
      have HBW := Lib.hid hbw
      clear hb2 hb3 hst hbw hvl
      unfold rnd tx ty at HN
      generalize (rounds ws h t).getD 0 0 = v0 at x0 HN
      generalize (rounds ws h t).getD 1 0 = v1 at x1 HN
      generalize (rounds ws h t).getD 2 0 = v2 at x2 HN
      generalize (rounds ws h t).getD 3 0 = v3 at x3 HN
      generalize (rounds ws h t).getD 4 0 = v4 at x4 HN
      generalize (rounds ws h t).getD 5 0 = v5 at x5 HN
      generalize (rounds ws h t).getD 6 0 = v6 at x6 HN
      generalize (rounds ws h t).getD 7 0 = v7 at x7 HN
      generalize K.getD t 0 = kt at xk HN
      generalize ws.getD t 0 = wt at xw HN
      go_wp2_with fail
      go_region
      go_wp2_with (go_at_call 86; first | ((with_reducible refine (rl_2 _ _).mono ?_); rintro e w' ⟨rfl, rfl⟩) | ((with_reducible refine (rl_6 _ _).mono ?_); rintro e w' ⟨rfl, rfl⟩) | ((with_reducible refine (rl_11 _ _).mono ?_); rintro e w' ⟨rfl, rfl⟩) | ((with_reducible refine (rl_13 _ _).mono ?_); rintro e w' ⟨rfl, rfl⟩) | ((with_reducible refine (rl_22 _ _).mono ?_); rintro e w' ⟨rfl, rfl⟩) | ((with_reducible refine (rl_25 _ _).mono ?_); rintro e w' ⟨rfl, rfl⟩))
      go_quiet (fail)
      go_wp2_with ((with_reducible show wpList _ _ _ (Oper.mk none _ _ _ _ _ :: _) _ _); refine wpList_store8 rfl 114 _ _ rfl g3 .u32 _ 114 HB3.out rfl _ _ _ _ _ _ _ _ rfl HV8.out size8 ?_; intro w4 hb4 hk4 hz4; have HB4 := Lib.hid hb4; have HK4 := Lib.hid hk4; clear hb4 hk4 hz4)
      go_step3
      refine ⟨rfl, ⟨rfl, rfl, g2, g3, t + 1, rfl, rfl, rfl, by go_num, ⟨by omega, HK4.out.blk HB2.out (by omega), ?_, HST.out.kept (w := w') ⟨HK4.out.os, HK4.out.tape, HK4.out.output, HK4.out.size, HK4.out.block⟩ (by omega), HBW.out.trans (Kept.toBelow (a := w') ⟨HK4.out.os, HK4.out.tape, HK4.out.output, HK4.out.size, HK4.out.block⟩ HBW.out.size (by rintro i rfl; omega)), hd2, hd3⟩⟩, by simp [intOf]; omega⟩
      · rw [HB4.out]
        exact congrArg (fun c => some (Obj.cells c 114 (0, 0))) (HN.out _ (congrArg (arr .u32) (list8_eq (flat7 v7 (e1 v4) (ch v4 v5 v6) kt wt (e0 v0) (maj v0 v1 v2)) rfl rfl rfl (flat6 v3 v7 (e1 v4) (ch v4 v5 v6) kt wt) rfl rfl rfl)))
    · have et : t = 64 := by omega
      obtain ⟨vv, evv⟩ : ∃ vv, vv = rounds ws h 64 := ⟨_, rfl⟩
      rw [et, ← evv] at hb3
      have hcomp : sums h vv 8 = comp h b := by rw [evv, HE.out]; rfl
      have hvl : vv.length = 8 := by rw [evv]; exact rounds_len ws h HS.out.hl _
      have HCOMP := Lib.hid hcomp
      have HVL := Lib.hid hvl
      have HB3 := Lib.hid hb3
      have HST := Lib.hid hst
      have HBW := Lib.hid hbw
      clear et evv hcomp hvl hb2 hb3 hst hbw
      go_wp2_with fail
      go_loopw [105] (fun i wr => ∃ j : Nat, j ≤ 8 ∧ i = .int .i64 j ∧ wr.heap[g3]? = some (.cells (arr .u32 vv) 114 (0, 0)) ∧ IsSt wr p (sums h vv j) b n l ∧ Kept (fun x => x = p) w wr) (fun i _ => 8 - (intOf i).toNat)
      case atStart => exact ⟨0, Nat.zero_le _, rfl, HB3.out, by rw [sums_zero]; exact HST.out, Kept.of_below HBW.out⟩
      case round =>
        obtain ⟨j, hj8, rfl, hg, hs, hkp⟩ := hrel
        by_cases hl8 : j < 8
        · have y0 := hs.at_h j hl8
          rw [sums_get h vv j j (by rw [HS.out.hl]; exact hl8) (Nat.le_refl _)] at y0
          have y1 := blk_arr hg j (by rw [HVL.out]; exact hl8)
          have y2 := hs.fr j
          have S1 : Hid (∀ x, x = add (h.getD j 0) (vv.getD j 0) → IsSt (wr.setCell ⟨p, j, none⟩ (.int .u32 x)) p (sums h vv (j + 1)) b n l) :=
            Lib.hid (by rintro x rfl; rw [sums_succ h vv j (by rw [HS.out.hl]; exact hl8)]; exact hs.set_h j hl8 _)
          have HG := Lib.hid hg
          have HKP := Lib.hid hkp
          clear hg hs hkp
          generalize h.getD j 0 = hj0 at y0 S1
          generalize vv.getD j 0 = vj at y1 S1
          go_wp2_with fail
          go_region
          go_wp2_with fail
          go_roundw
          case rel => exact ⟨j + 1, by omega, by go_num, blk_setCell_ne HG.out _ (by omega), (S1.out _ (flat1 _ _)).drew, (HKP.out.setCell (p := ⟨p, j, none⟩) (.inl rfl) _).drew⟩
          case measure => simp [intOf]; omega
        · have e8 : j = 8 := by omega
          rw [e8, HCOMP.out] at hs
          have HSE := Lib.hid hs
          have HKP := Lib.hid hkp
          clear e8 hg hs hkp
          go_wp2_with fail
          (try simp only [Exit.jump])
          go_end0
          exact ⟨rfl, HSE.out, HKP.out⟩
end Go.Proofs.YtogebegdgfdijaaDoor.Ha
namespace Go.Proofs.YtogebegdgfdijaaDoor.Ha
open Go.RowKit
theorem set_ok {s : S} (h : s.Ok) {x : Int} (hx : 0 ≤ x ∧ x ≤ 255) : ∀ y ∈ s.b.set s.n x, 0 ≤ y ∧ y ≤ 255 := by
  intro y hy
  rcases List.mem_or_eq_of_mem_set hy with h1 | rfl
  · exact h.by0 y h1
  · exact hx
theorem take_any (p : Nat) (s : S) (l x : Int) (w : World) (st : IsSt w p s.h s.b s.n l) (ok : s.Ok) (hx : 0 ≤ x ∧ x ≤ 255) :
    Calls Tryd.prog 88 #[.pointer (some ⟨p, 0, none⟩), .int .u8 x] w fun e w' => e = .returned (.tuple #[]) ∧ IsSt w' p (s.take x).h (s.take x).b (s.take x).n l ∧ Kept (fun i => i = p) w w' := by
  have hok := set_ok ok hx
  obtain ⟨h, b, n⟩ := s
  simp only at st hok ⊢
  have hn : n < 64 := ok.n
  have x0 := st.at_n
  have x1 := st.at_b n hn
  have x2 := st.fr (72 + n)
  have x3 := st.fr 136
  have s1 := (st.set_b n hn x).drew
  have k1 : Kept (fun i => i = p) w (w.setCell ⟨p, 72 + n, none⟩ (.int .u8 x)).drew := ((Kept.refl _ w).at _ _).drew
  by_cases hf : n + 1 = 64
  · have e1 : S.take ⟨h, b, n⟩ x = ⟨comp h (b.set n x), b.set n x, 0⟩ := by unfold S.take; rw [if_pos hf]
    have f1 : (n : Int) + 1 = 64 := by omega
    have E1 := Lib.hid e1
    have F1 := Lib.hid f1
    have ht := fun w st => turn_any p h (b.set n x) ((n : Int) + 1) l w st hok
    have HT := Lib.hid ht
    have f2 : 64 ≤ (n : Int) + 1 := by omega
    clear e1 f1 hf ht hok ok
    go_enter Tryd.func88, Tryd.ntmps88
    go_wp2_with fail
    go_region
    generalize (w.setCell ⟨p, 72 + n, none⟩ (.int .u8 x)).drew = w1 at s1 k1 ⊢
    have y0 := s1.at_n
    have y1 := s1.fr 136
    have S2 := Lib.hid (s1.set_n ((n : Int) + 1))
    have K2 := Lib.hid (k1.at 136 (.int .i64 ((n : Int) + 1)))
    clear s1 k1 x0 x1 x2 x3
    go_wp2_with (go_at_call 94; refine (HT.out _ S2.out).mono ?_; rintro e w3 ⟨rfl, s3, k3⟩; have z0 := s3.at_n; have z1 := s3.fr 136; have S3 := Lib.hid (s3.set_n 0); have K3 := Lib.hid ((K2.out.trans k3).at 136 (.int .i64 0)); clear s3 k3)
    go_end0
    rw [E1.out]
    exact ⟨rfl, S3.out, K3.out⟩
  · have e1 : S.take ⟨h, b, n⟩ x = ⟨h, b.set n x, n + 1⟩ := by unfold S.take; rw [if_neg hf]
    have E1 := Lib.hid e1
    have f2 : (n : Int) + 1 < 64 := by omega
    clear e1 hf hok ok
    go_enter Tryd.func88, Tryd.ntmps88
    go_wp2_with fail
    go_region
    generalize (w.setCell ⟨p, 72 + n, none⟩ (.int .u8 x)).drew = w1 at s1 k1 ⊢
    have y0 := s1.at_n
    have y1 := s1.fr 136
    have S2 := Lib.hid (s1.set_n ((n : Int) + 1))
    have K2 := Lib.hid (k1.at 136 (.int .i64 ((n : Int) + 1)))
    clear s1 k1 x0 x1 x2 x3
    go_wp2_with fail
    go_end0
    rw [E1.out]
    exact ⟨rfl, by simpa using S2.out, K2.out⟩
end Go.Proofs.YtogebegdgfdijaaDoor.Ha
namespace Go.Proofs.YtogebegdgfdijaaDoor.Ha
open Go.RowKit
theorem zeroOut (w : World) : (zeroValue 23).run Tryd.prog w = .ok (.agg (arr .u8 (List.replicate 32 0))) w := by kernel_rfl
theorem sizeOut : (Tryd.prog.info? 23).map (·.size) = some 32 := by kernel_rfl
/-- What holds while bytes are taken in. -/
structure SumR (w wr : World) (p : Nat) (s : S) (T : Int) : Prop where
  st : IsSt wr p s.h s.b s.n T
  ok : s.Ok
  res : wr.heap[w.heap.size]? = some (.cells (arr .u8 (List.replicate 32 0)) 23 (0, 0))
  below : Below w.heap.size w wr
  ne : w.heap.size < p
theorem SumR.take {w wr w' : World} {p : Nat} {s : S} {T x : Int} (h : SumR w wr p s T) (hx : 0 ≤ x ∧ x ≤ 255) (st : IsSt w' p (s.take x).h (s.take x).b (s.take x).n T) (k : Kept (fun i => i = p) wr w') : SumR w w' p (s.take x) T :=
  ⟨st, h.ok.take x hx, k.blk h.res (by have := h.ne; omega), h.below.trans (k.toBelow h.below.size (by rintro i rfl; have := h.ne; omega)), h.ne⟩
theorem SumR.long {w wr : World} {p : Nat} {s : S} {T : Int} (h : SumR w wr p s T) (x : Int) : SumR w (wr.setCell ⟨p, 137, none⟩ (.int .u64 x)) p s x :=
  ⟨h.st.set_l x, h.ok, blk_setCell_ne h.res _ (by have := h.ne; omega), h.below.setCell (p := ⟨p, 137, none⟩) (by have := h.ne; show w.heap.size ≤ p; omega) _, h.ne⟩
theorem SumR.alloc {w wr : World} {p : Nat} {s : S} {T : Int} (h : SumR w wr p s T) (o : Obj) : SumR w (wr.alloc o) p s T := ⟨h.st.alloc o, h.ok, blk_alloc h.res o, h.below.alloc h.below.size o, h.ne⟩
theorem SumR.far {w wr : World} {p g : Nat} {s : S} {T : Int} (h : SumR w wr p s T) (i : Nat) (v : Value) (hg : g ≠ p) (hw : w.heap.size < g) : SumR w (wr.setCell ⟨g, i, none⟩ v) p s T :=
  ⟨h.st.kept ((Kept.refl (fun x => x = g) wr).at i v) (fun e => hg e.symm), h.ok, blk_setCell_ne h.res _ (by omega), h.below.setCell (p := ⟨g, i, none⟩) (by show w.heap.size ≤ g; omega) _, h.ne⟩
def zs (n : Nat) : Nat := (2 * 64 - 8 - 1 - n % 64) % 64
theorem tail_eq (n : Nat) : tail n = ((128 :: List.replicate (zs n) 0) ++ List.replicate (8 - 8) 0) ++ (List.range 8).map fun i => ((8 * n / 2 ^ (8 * (7 - i)) % 256 : Nat) : Int) := by simp [tail, zs]
theorem byte_wrap (x : Int) : 0 ≤ IntKind.u8.wrap x ∧ IntKind.u8.wrap x ≤ 255 := by rw [IntKind.wrap_u8]; omega
theorem len_byte (n j : Nat) : IntKind.u8.wrap ((n : Int) * 8 / 2 ^ (8 * (7 - j))) = ((8 * n / 2 ^ (8 * (7 - j)) % 256 : Nat) : Int) := by
  rw [IntKind.wrap_u8, Nat.mul_comm 8 n, Int.natCast_emod, Int.natCast_ediv, Int.natCast_mul, Int.natCast_pow]
  rfl
theorem rep_snoc (k : Nat) : (128 : Int) :: List.replicate (k + 1) 0 = (128 :: List.replicate k 0) ++ [0] := by rw [List.replicate_succ', List.cons_append]
theorem dig_set (h : List Int) (i : Nat) (hi : i < 32) (v : Int) (hv : v = (digest h).getD i 0) : ((digest h).take i ++ List.replicate (32 - i) 0).set i v = (digest h).take (i + 1) ++ List.replicate (32 - (i + 1)) 0 := by
  have hl : (digest h).length = 32 := by simp [digest]
  rw [take_snoc _ i 0 (by omega), ← hv, List.set_append_right _ _ (by simp; omega), show 32 - i = (32 - (i + 1)) + 1 by omega, List.replicate_succ]
  simp [hl, Nat.min_eq_left (Nat.le_of_lt hi)]
theorem dig_get (h : List Int) (i : Nat) (hi : i < 32) : (digest h).getD i 0 = h.getD (i / 4) 0 / 2 ^ (8 * (3 - i % 4)) % 256 := by simp [digest, List.getD, hi]
theorem sum_any (sa : Option Addr) (n c : Nat) (L : List (List Int)) (w : World) (hs : SrcL w sa n L) (hx : ∀ l ∈ L, bytes l) (hN : L.flatten.length ≤ 1152921504606846976) (hn : n ≤ 1099511627776) :
    Calls Tryd.prog 74 #[.slice sa n c] w fun e w' => e = .returned (.agg (arr .u8 (hash L.flatten))) ∧ Below w.heap.size w w' := by
  have hres := blk_new w (.cells (arr .u8 (List.replicate 32 0)) 23)
  have hLn := hs.len
  have HB := Lib.hid (fun w => begin_any w)
  have HT := Lib.hid (fun p s l x w st ok hx => take_any p s l x w st ok hx)
  have HRES := Lib.hid hres
  have HS := Lib.hid hs
  have HX := Lib.hid hx
  have HLN := Lib.hid hLn
  clear hres hs hx hLn
  go_enter Tryd.func74, Tryd.ntmps74
  go_wp2_with (first | ((with_reducible refine aS 2 ?_); refine wpList_alloc_row rfl 23 rfl _ (zeroOut _) ?_) | (go_at_call 87; refine (HB.out _).mono ?_; rintro e w1 ⟨p, rfl, st1, hp1, hb1⟩))
  have hR0 : SumR w w1 p S.new 0 := ⟨st1, S.Ok.new, Below.blk hb1 HRES.out (by simp), ((Below.refl _ w).alloc (Nat.le_refl _) _).trans (hb1.mono (by simp)), by simp at hp1; omega⟩
  have HR0 := Lib.hid hR0
  clear hR0 st1 hp1 hb1
  go_loopw [14] (fun i wr => ∃ j : Nat, j ≤ n ∧ i = .int .i64 j ∧ SumR w wr p (S.new.all (L.take j).flatten) ((L.take j).flatten.length : Int)) (fun i _ => n - (intOf i).toNat)
  case atStart => exact ⟨0, Nat.zero_le _, rfl, HR0.out⟩
  case round =>
    obtain ⟨j, hj, rfl, hR⟩ := hrel
    obtain ⟨wo, rfl⟩ : ∃ wo : World, wo = wr := ⟨_, rfl⟩
    by_cases hlt : j < n
    · obtain ⟨a, si, ci, rfl, hc, hlc, hsi⟩ := HS.out.cell j hlt
      have x1 := below_cell hR.below hc
      have hfl := flat_le L j (by rw [HLN.out]; exact hlt)
      have hbl : bytes (L.getD j []) := by
        have hjl : j < L.length := by rw [HLN.out]; exact hlt
        simp only [List.getD, List.getElem?_eq_getElem hjl, Option.getD_some]
        exact HX.out _ (List.getElem_mem hjl)
      have HFS := Lib.hid (flat_snoc L j (by rw [HLN.out]; exact hlt))
      obtain ⟨T, hT⟩ : ∃ T, T = (L.take j).flatten.length := ⟨_, rfl⟩
      obtain ⟨s0, hs0⟩ : ∃ s0, s0 = S.new.all (L.take j).flatten := ⟨_, rfl⟩
      rw [← hT, ← hs0] at hR
      rw [← hT] at hfl
      have HTT := Lib.hid hT
      have HS0 := Lib.hid hs0
      clear hT hs0
      generalize L.getD j [] = l at x1 hfl hbl HFS hsi hlc
      obtain ⟨m, hm⟩ : ∃ m, m = l.length := ⟨_, rfl⟩
      rw [← hm] at x1 hfl hsi hlc
      have HM := Lib.hid hm
      have HR := Lib.hid hR
      have HSI := Lib.hid hsi
      have HBL := Lib.hid hbl
      clear hm hR hsi hbl hc
      go_wp2_with fail
      go_loopw [20] (fun i wr => ∃ k : Nat, k ≤ m ∧ i = .int .i64 k ∧ SumR w wr p (s0.all (l.take k)) T) (fun i _ => m - (intOf i).toNat)
      case atStart => exact ⟨0, Nat.zero_le _, rfl, HR.out⟩
      case round =>
        obtain ⟨k, hk, rfl, hR⟩ := hrel
        by_cases hlt2 : k < m
        · obtain ⟨ad, rfl, hcc⟩ := HSI.out.cell k hlt2
          have x2 := below_cell hR.below hcc
          have hby := bytes_at HBL.out k
          have HTS := Lib.hid (take_snoc l k 0 (by rw [← HM.out]; exact hlt2))
          have HR2 := Lib.hid hR
          have HBY := Lib.hid hby
          clear hR hcc hby
          generalize l.getD k 0 = x at x2 HTS HBY
          go_wp2_with (go_at_call 88; refine (HT.out _ _ _ _ _ HR2.out.st HR2.out.ok HBY.out).mono ?_; rintro e w5 ⟨rfl, st5, k5⟩; have HR5 := Lib.hid (HR2.out.take HBY.out st5 k5); clear st5 k5)
          go_roundw
          case rel => exact ⟨k + 1, by omega, by go_num, by rw [HTS.out, S.all_snoc]; exact HR5.out⟩
          case measure => simp [intOf]; omega
        · have ek : k = m := by omega
          rw [ek, HM.out, List.take_length] at hR
          have y0 := hR.st.at_l
          have y1 := hR.st.fr 137
          have HR3 := Lib.hid (hR.long ((T : Int) + (m : Int)))
          clear ek hR
          go_wp2_with fail
          go_roundw
          case rel =>
            refine ⟨j + 1, by omega, by go_num, ?_⟩
            rw [HFS.out, S.all_append, ← HS0.out, List.length_append, ← HTT.out, ← HM.out]
            simpa using HR3.out
          case measure => simp [intOf]; omega
    · have ej : L.take j = L := List.take_of_length_le (by rw [HLN.out]; omega)
      rw [ej] at hR
      obtain ⟨m, hm⟩ : ∃ m, m = L.flatten := ⟨_, rfl⟩
      rw [← hm] at hR hN
      have HMM := Lib.hid hm
      have HR := Lib.hid hR
      clear ej hR hm
      go_wp2_with (go_at_call 88; refine (HT.out _ _ _ _ _ HR.out.st HR.out.ok ⟨by omega, by omega⟩).mono ?_; rintro e w5 ⟨rfl, st5, k5⟩; have HR5 := Lib.hid (HR.out.take ⟨by omega, by omega⟩ st5 k5); clear st5 k5)
      go_loopg [] (zs m.length) (fun g wr => ∃ k : Nat, g + k = zs m.length ∧ SumR w wr p (S.new.all (m ++ (128 :: List.replicate k 0))) (m.length : Int))
      case atStart => exact ⟨0, by omega, by rw [List.replicate_zero, S.all_snoc]; exact HR5.out⟩
      case round =>
        obtain ⟨k, hk, hR⟩ := hrel
        obtain ⟨wo3, rfl⟩ : ∃ wo3 : World, wo3 = wr := ⟨_, rfl⟩
        have hnn : (S.new.all (m ++ (128 :: List.replicate k 0))).n = (m.length + 1 + k) % 64 := by
          rw [S.all_n _ _ S.Ok.new.n]
          simp [S.new]
          omega
        have hzs : zs m.length = (2 * 64 - 8 - 1 - m.length % 64) % 64 := rfl
        have y0 := hR.st.at_n
        by_cases hlt : k < zs m.length
        · have t1 : (((S.new.all (m ++ (128 :: List.replicate k 0))).n : Int) == 56) = false := by rw [hnn]; simp; omega
          have t2 : (((S.new.all (m ++ (128 :: List.replicate k 0))).n : Int) != 56) = true := by rw [hnn]; simp; omega
          have HR2 := Lib.hid hR
          clear hR hnn hzs
          generalize (((S.new.all (m ++ (128 :: List.replicate k 0))).n : Nat) : Int) = nn at y0 t1 t2
          go_wp2_with (go_at_call 88; refine (HT.out _ _ _ _ _ HR2.out.st HR2.out.ok ⟨by omega, by omega⟩).mono ?_; rintro e w6 ⟨rfl, st6, k6⟩; have HR6 := Lib.hid (HR2.out.take ⟨by omega, by omega⟩ st6 k6); clear st6 k6)
          go_roundg (gk - 1)
          case measure => omega
          case rel => exact ⟨k + 1, by omega, by rw [rep_snoc, ← List.append_assoc, S.all_snoc]; exact HR6.out⟩
        · have ek : k = zs m.length := by omega
          have t1 : (((S.new.all (m ++ (128 :: List.replicate k 0))).n : Int) == 56) = true := by rw [hnn]; simp; omega
          have t2 : (((S.new.all (m ++ (128 :: List.replicate k 0))).n : Int) != 56) = false := by rw [hnn]; simp; omega
          obtain ⟨m1, hm1⟩ : ∃ m1, m1 = m ++ (128 :: List.replicate k 0) := ⟨_, rfl⟩
          rw [← hm1] at hR y0 t1 t2
          rw [ek] at hm1
          have HM1 := Lib.hid hm1
          have HR2 := Lib.hid hR
          clear hR hnn hzs hm1 ek
          generalize (((S.new.all m1).n : Nat) : Int) = nn at y0 t1 t2
          go_wp2_with fail
          obtain ⟨m2, hm2⟩ : ∃ m2, m2 = m1 ++ List.replicate (8 - 8) 0 := ⟨_, rfl⟩
          have hr2 : SumR w wo3 p (S.new.all m2) (m.length : Int) := by
            rw [hm2, show 8 - 8 = 0 from rfl, List.replicate_zero, List.append_nil]
            exact HR2.out
          rw [HM1.out] at hm2
          have HM2 := Lib.hid hm2
          have HR3 := Lib.hid hr2
          clear hm2 hr2
          go_loopw [8] (fun i wr => ∃ j5 : Nat, j5 ≤ 8 ∧ i = .int .i64 (7 - (j5 : Int)) ∧ SumR w wr p (S.new.all (m2 ++ (List.range j5).map fun i => ((8 * m.length / 2 ^ (8 * (7 - i)) % 256 : Nat) : Int))) (m.length : Int)) (fun i _ => (1 + intOf i).toNat)
          case atStart => exact ⟨0, Nat.zero_le _, rfl, by simpa using HR3.out⟩
          case round =>
            obtain ⟨j5, hj5, rfl, hR⟩ := hrel
            by_cases hlt5 : j5 < 8
            · have y1 := hR.st.at_l
              have HR4 := Lib.hid hR
              have e1 : (8 * (7 - (j5 : Int))).toNat = 8 * (7 - j5) := by omega
              have e2 : 0 ≤ 8 * (7 - (j5 : Int)) := by omega
              have e3 : 8 * (7 - (j5 : Int)) ≤ 56 := by omega
              clear hR
              go_wp2_with (go_at_call 88; refine (HT.out _ _ _ _ _ HR4.out.st HR4.out.ok (byte_wrap _)).mono ?_; rintro e w6 ⟨rfl, st6, k6⟩; have HR6 := Lib.hid (HR4.out.take (byte_wrap _) st6 k6); clear st6 k6)
              clear e1 e2 e3
              go_roundw
              case rel => exact ⟨j5 + 1, by omega, by go_num, by rw [List.range_succ, List.map_append, ← List.append_assoc, List.map_singleton, S.all_snoc, ← len_byte]; exact HR6.out⟩
              case measure => simp [intOf]; omega
            · obtain ⟨wo5, rfl⟩ : ∃ wo5 : World, wo5 = wr := ⟨_, rfl⟩
              have e5 : m2 ++ ((List.range j5).map fun i => ((8 * m.length / 2 ^ (8 * (7 - i)) % 256 : Nat) : Int)) = m ++ tail m.length := by
                rw [show j5 = 8 by omega, tail_eq, HM2.out]
                simp only [List.append_assoc]
              rw [e5] at hR
              have hh : hash m = digest (S.new.all (m ++ tail m.length)).h := rfl
              generalize S.new.all (m ++ tail m.length) = sf at hR hh
              have HR7 := Lib.hid hR
              have HH := Lib.hid hh
              clear hR e5 hh
              go_wp2_with ((with_reducible refine aS 9 ?_); refine wpList_alloc_row rfl 23 rfl _ (zeroOut _) ?_)
              have hl5 := HR7.out.below.size
              have hpl := blk_lt HR7.out.st.blk
              have hwp := HR7.out.ne
              have hR8 : SumR w (wo5.alloc (.cells (arr .u8 (List.replicate 32 0)) 23)) p sf (m.length : Int) := HR7.out.alloc _
              have hb9 : (wo5.alloc (.cells (arr .u8 (List.replicate 32 0)) 23)).heap[wo5.heap.size]? = some (.cells (arr .u8 ((digest sf.h).take 0 ++ List.replicate (32 - 0) 0)) 23 (0, 0)) := blk_new _ _
              have HR8 := Lib.hid hR8
              have HB9 := Lib.hid hb9
              clear hR8 hb9
              go_loopw [63] (fun i wr => ∃ i9 : Nat, i9 ≤ 32 ∧ i = .int .i64 i9 ∧ wr.heap[wo5.heap.size]? = some (.cells (arr .u8 ((digest sf.h).take i9 ++ List.replicate (32 - i9) 0)) 23 (0, 0)) ∧ SumR w wr p sf (m.length : Int)) (fun i _ => 32 - (intOf i).toNat)
              case atStart => exact ⟨0, Nat.zero_le _, rfl, HB9.out, HR8.out⟩
              case round =>
                obtain ⟨i9, hi9, rfl, hb, hR⟩ := hrel
                have hdl : (digest sf.h).length = 32 := by simp [digest]
                by_cases hlt9 : i9 < 32
                · have y0 := hR.st.at_h (i9 / 4) (by omega)
                  have y1 := blk_arr hb i9 (by simp [hdl]; omega)
                  have y2 := free_blk hb i9
                  have G1 : Hid (∀ v, v = sf.h.getD (i9 / 4) 0 / 2 ^ (8 * (3 - i9 % 4)) % 256 → (wr.setCell ⟨wo5.heap.size, i9, none⟩ (.int .u8 v)).heap[wo5.heap.size]? = some (.cells (arr .u8 ((digest sf.h).take (i9 + 1) ++ List.replicate (32 - (i9 + 1)) 0)) 23 (0, 0))) := Lib.hid (by
                    rintro v rfl
                    rw [blk_arr_set hb, dig_set sf.h i9 hlt9 _ (dig_get sf.h i9 hlt9).symm])
                  have HRS := Lib.hid (fun v => hR.far (g := wo5.heap.size) i9 v (by omega) (by omega))
                  have e1 : (24 - 8 * ((i9 : Int) % 4)).toNat = 8 * (3 - i9 % 4) := by omega
                  have e2 : 0 ≤ 24 - 8 * ((i9 : Int) % 4) := by omega
                  have e3 : 24 - 8 * ((i9 : Int) % 4) ≤ 24 := by omega
                  clear hb hR hdl
                  generalize sf.h.getD (i9 / 4) 0 = x at y0 G1
                  go_wp2_with fail
                  clear e1 e2 e3
                  go_roundw
                  case rel => exact ⟨i9 + 1, by omega, by go_num, G1.out _ (IntKind.wrap_u8 _), HRS.out _⟩
                  case measure => simp [intOf]; omega
                · rw [show i9 = 32 by omega, Nat.sub_self, List.replicate_zero, List.append_nil, List.take_of_length_le (by omega)] at hb
                  have z1 : (Tryd.prog.info? 23).map (·.size) = some (digest sf.h).length := by rw [hdl]; exact sizeOut
                  have z2 : (Tryd.prog.info? 23).map (·.size) = some (arr .u8 (digest sf.h)).size := by rw [arr_size, hdl]; exact sizeOut
                  have z3 : (arr .u8 (digest sf.h)).size = (arr .u8 (List.replicate 32 0)).size := by rw [arr_size, arr_size, hdl, List.length_replicate]
                  have z4 : ((arr .u8 (digest sf.h)).toList.drop 0).take (digest sf.h).length = (digest sf.h).map (Value.int .u8) := by rw [arr_toList, List.drop_zero, List.take_of_length_le (by simp)]
                  have HB := Lib.hid hb
                  have HRE := Lib.hid hR
                  have Z1 := Lib.hid z1
                  have Z2 := Lib.hid z2
                  have Z3 := Lib.hid z3
                  have Z4 := Lib.hid z4
                  clear hb hR z1 z2 z3 z4 hdl
                  go_wp2_with (first | ((with_reducible refine aS 82 ?_); refine wpList_load_part rfl 23 _ rfl wo5.heap.size 0 _ 23 (0, 0) _ HB.out rfl .u8 (digest sf.h) Z4.out Tryd.underlying23 rfl Z1.out ?_) | ((with_reducible show wpList _ _ _ (Oper.mk none _ _ _ _ _ :: _) _ _); refine wpList_store_whole rfl 23 _ _ rfl w.heap.size _ _ 23 HRE.out.res rfl rfl Z3.out Z2.out (all_arr _ _) ?_; intro w7 hb7 hk7 hz7; have HB7 := Lib.hid hb7; have HK7 := Lib.hid hk7; clear hb7 hk7 hz7))
                  (try simp only [Exit.inBlock, Exit.then])
                  refine bodyPost_ret (results_cell_row rfl _ _ w.heap.size 23 _ (0, 0) _ rfl HB7.out Tryd.underlying23 rfl Z2.out) rfl ?_
                  rw [← HMM.out, HH.out]
                  exact ⟨rfl, HRE.out.below.trans (HK7.out.toBelow HRE.out.below.size (by rintro i rfl; exact Nat.le_refl _))⟩
end Go.Proofs.YtogebegdgfdijaaDoor.Ha
namespace Go.Proofs.YtogebegdgfdijaaDoor.Ha
open Go.RowKit
theorem or_comm (k : IntKind) (a b : Int) : bits .or k a b = bits .or k b a := by
  unfold bits
  simp only
  rw [BitVec.or_comm]
theorem ror_2 (x : Int) (w : World) : Calls Tryd.prog 92 #[.int .u32 x, .int .u64 2] w fun e w' => e = .returned (.int .u32 (rot x 4 1073741824)) ∧ w = w' := by
  go_enter Tryd.func92, Tryd.ntmps92
  go_wp2
  go_ret
  exact ⟨by unfold rot; rw [or_comm]; rfl, rfl⟩
theorem ror_6 (x : Int) (w : World) : Calls Tryd.prog 92 #[.int .u32 x, .int .u64 6] w fun e w' => e = .returned (.int .u32 (rot x 64 67108864)) ∧ w = w' := by
  go_enter Tryd.func92, Tryd.ntmps92
  go_wp2
  go_ret
  exact ⟨by unfold rot; rw [or_comm]; rfl, rfl⟩
theorem ror_7 (x : Int) (w : World) : Calls Tryd.prog 92 #[.int .u32 x, .int .u64 7] w fun e w' => e = .returned (.int .u32 (rot x 128 33554432)) ∧ w = w' := by
  go_enter Tryd.func92, Tryd.ntmps92
  go_wp2
  go_ret
  exact ⟨by unfold rot; rw [or_comm]; rfl, rfl⟩
theorem ror_11 (x : Int) (w : World) : Calls Tryd.prog 92 #[.int .u32 x, .int .u64 11] w fun e w' => e = .returned (.int .u32 (rot x 2048 2097152)) ∧ w = w' := by
  go_enter Tryd.func92, Tryd.ntmps92
  go_wp2
  go_ret
  exact ⟨by unfold rot; rw [or_comm]; rfl, rfl⟩
theorem ror_13 (x : Int) (w : World) : Calls Tryd.prog 92 #[.int .u32 x, .int .u64 13] w fun e w' => e = .returned (.int .u32 (rot x 8192 524288)) ∧ w = w' := by
  go_enter Tryd.func92, Tryd.ntmps92
  go_wp2
  go_ret
  exact ⟨by unfold rot; rw [or_comm]; rfl, rfl⟩
theorem ror_17 (x : Int) (w : World) : Calls Tryd.prog 92 #[.int .u32 x, .int .u64 17] w fun e w' => e = .returned (.int .u32 (rot x 131072 32768)) ∧ w = w' := by
  go_enter Tryd.func92, Tryd.ntmps92
  go_wp2
  go_ret
  exact ⟨by unfold rot; rw [or_comm]; rfl, rfl⟩
theorem ror_18 (x : Int) (w : World) : Calls Tryd.prog 92 #[.int .u32 x, .int .u64 18] w fun e w' => e = .returned (.int .u32 (rot x 262144 16384)) ∧ w = w' := by
  go_enter Tryd.func92, Tryd.ntmps92
  go_wp2
  go_ret
  exact ⟨by unfold rot; rw [or_comm]; rfl, rfl⟩
theorem ror_19 (x : Int) (w : World) : Calls Tryd.prog 92 #[.int .u32 x, .int .u64 19] w fun e w' => e = .returned (.int .u32 (rot x 524288 8192)) ∧ w = w' := by
  go_enter Tryd.func92, Tryd.ntmps92
  go_wp2
  go_ret
  exact ⟨by unfold rot; rw [or_comm]; rfl, rfl⟩
theorem ror_22 (x : Int) (w : World) : Calls Tryd.prog 92 #[.int .u32 x, .int .u64 22] w fun e w' => e = .returned (.int .u32 (rot x 4194304 1024)) ∧ w = w' := by
  go_enter Tryd.func92, Tryd.ntmps92
  go_wp2
  go_ret
  exact ⟨by unfold rot; rw [or_comm]; rfl, rfl⟩
theorem ror_25 (x : Int) (w : World) : Calls Tryd.prog 92 #[.int .u32 x, .int .u64 25] w fun e w' => e = .returned (.int .u32 (rot x 33554432 128)) ∧ w = w' := by
  go_enter Tryd.func92, Tryd.ntmps92
  go_wp2
  go_ret
  exact ⟨by unfold rot; rw [or_comm]; rfl, rfl⟩
def zs' (n : Nat) : Nat := (2 * 64 - 8 - 1 - n % 64) % 64
/-- The length's bytes, the first so many of them. -/
def lenB (n j : Nat) : List Int := (List.range j).map fun i => if 8 - 1 - i < 8 then ((8 * n / 2 ^ (8 * (8 - 1 - i)) % 256 : Nat) : Int) else 0
theorem lenB_succ (n j : Nat) : lenB n (j + 1) = lenB n j ++ [if 8 - 1 - j < 8 then ((8 * n / 2 ^ (8 * (8 - 1 - j)) % 256 : Nat) : Int) else 0] := by simp [lenB, List.range_succ]
theorem lenB_all (n : Nat) : (128 :: List.replicate (zs' n) 0) ++ lenB n 8 = tail n := by
  unfold tail lenB zs'
  rw [List.append_assoc]
  congr 1
theorem rep_snoc' (k : Nat) : (128 : Int) :: List.replicate (k + 1) 0 = (128 :: List.replicate k 0) ++ [0] := by rw [List.replicate_succ', List.cons_append]
theorem and255 (x : Nat) (hx : x < 9223372036854775808) : bits .and .i64 (x : Int) 255 = ((x % 256 : Nat) : Int) := by
  have e : x &&& 255 = x % 256 := Nat.and_two_pow_sub_one_eq_mod x 8
  have h1 : (BitVec.ofInt 64 (x : Int)).toNat = x := by
    rw [BitVec.ofInt_natCast, BitVec.toNat_ofNat]; exact Nat.mod_eq_of_lt (by omega)
  have h2 : (BitVec.ofInt 64 (255 : Int)).toNat = 255 := by decide
  show IntKind.i64.wrap ((BitVec.ofInt 64 (x : Int) &&& BitVec.ofInt 64 (255 : Int)).toNat : Int) = _
  rw [BitVec.toNat_and, h1, h2, e, IntKind.wrap_i64]
  omega
/-- The padded bytes while they are made. -/
structure PadR (w wr : World) (v : Value) (ys : List Int) : Prop where
  own : Own8 wr w.heap.size v ys
  below : Below w.heap.size w wr
theorem PadR.snoc {w wr w' : World} {v v' : Value} {ys : List Int} {x : Int} (h : PadR w wr v ys) (o : Obj) (h1 : Own8 w' w.heap.size v' (ys ++ [x])) (hg : (wr.alloc o).grownBy w' v.ownBlock) : PadR w w' v' (ys ++ [x]) :=
  ⟨h1, app8_below (h.own.alloc o) hg (h.below.alloc h.below.size o) (Nat.le_trans h.below.size (by simp))⟩
theorem padded_any (sa : Option Addr) (n c : Nat) (xs : List Int) (w : World) (hs : Src w sa n xs) (hn : n ≤ 70368744177664) :
    Calls Tryd.prog 91 #[.slice sa n c, .int .i64 64, .int .i64 8] w fun e w' => ∃ v, e = .returned v ∧ Own8 w' w.heap.size v (xs ++ tail n) ∧ Below w.heap.size w w' := by
  have hxl := hs.len
  have HS := Lib.hid hs
  have HXL := Lib.hid hxl
  clear hs hxl
  go_enter Tryd.func91, Tryd.ntmps91
  go_wp2_with (first | ((with_reducible refine aS 12 ?_); refine wpList_app8 rfl _ _ rfl w.heap.size (.slice none 0 0) [] rfl (Own8.nil _ _) sa n _ xs rfl HS.out ?_ (Nat.le_refl _) ?_; (simp; omega); intro v1 w1 hown1 hgrow1 hnil1 hat1; rw [List.nil_append] at hown1; have hb1 : Below w.heap.size w w1 := (Below.refl _ w).grown hgrow1 (Nat.le_refl _) (fun k hk => by cases hk); have HO1 := Lib.hid hown1; clear hown1 hgrow1 hnil1 hat1) | ((with_reducible refine aS 14 ?_); refine wpList_app8 rfl _ _ rfl w.heap.size v1 xs rfl (HO1.out.alloc _) (some ⟨w1.heap.size, 0, none⟩) 1 _ [128] rfl (src_one _ _) ?_ (Nat.le_trans hb1.size (by simp)) ?_; (rw [HXL.out]; omega); intro v2 w2 hown2 hgrow2 hnil2 hat2; have HP2 := Lib.hid (PadR.snoc ⟨HO1.out, hb1⟩ _ hown2 hgrow2); clear hown2 hgrow2 hnil2 hat2))
  obtain ⟨s2, c2, hv2, -⟩ := HP2.out.own.form
  rw [List.length_append, HXL.out, List.length_singleton] at hv2
  subst hv2
  go_loopg [7] (zs' n) (fun g m wr => ∃ (k l : Nat) (sv : Option Addr) (cv : Nat), g + k = zs' n ∧ l = n + 1 + k ∧ m = .slice sv l cv ∧ PadR w wr (.slice sv l cv) (xs ++ (128 :: List.replicate k 0)))
  case atStart => exact ⟨0, n + 1, s2, c2, by omega, rfl, rfl, HP2.out⟩
  case round =>
    obtain ⟨k, l, sv, cv, hk, hl, rfl, hp⟩ := hrel
    obtain ⟨wo, rfl⟩ : ∃ wo : World, wo = wr := ⟨_, rfl⟩
    have hzs : zs' n = (2 * 64 - 8 - 1 - n % 64) % 64 := rfl
    have hmod : ((l : Int) % 64) = (((n + 1 + k) % 64 : Nat) : Int) := by rw [hl]; omega
    have hl1 : l ≤ 140737488355000 := by rw [hl]; omega
    have HL := Lib.hid hl
    by_cases hlt : k < zs' n
    · have t1 : (((l : Int) % 64) == 56) = false := by rw [hmod]; simp; omega
      have t2 : (((l : Int) % 64) != 56) = true := by rw [hmod]; simp; omega
      have HP := Lib.hid hp
      clear hzs hmod hp hl
      go_wp2_with ((with_reducible refine aS 25 ?_); refine wpList_app8 rfl _ _ rfl w.heap.size (.slice sv l cv) (xs ++ (128 :: List.replicate k 0)) rfl (HP.out.own.alloc _) (some ⟨wo.heap.size, 0, none⟩) 1 _ [0] rfl (src_one _ _) ?_ (Nat.le_trans HP.out.below.size (by simp)) ?_; (rw [List.length_append, HXL.out, List.length_cons, List.length_replicate]; have := HL.out; omega); intro v5 w5 hown5 hgrow5 hnil5 hat5; have hp5 := PadR.snoc HP.out _ hown5 hgrow5; clear hown5 hgrow5 hnil5 hat5; rw [List.append_assoc, ← rep_snoc'] at hp5; obtain ⟨s5, c5, hv5, -⟩ := hp5.own.form; rw [List.length_append, HXL.out, List.length_cons, List.length_replicate, show n + (k + 1 + 1) = l + 1 by have := HL.out; omega] at hv5; subst hv5; have HP5 := Lib.hid hp5; clear hp5)
      go_roundg (gk - 1)
      case measure => omega
      case rel => exact ⟨k + 1, l + 1, s5, c5, by omega, by have := HL.out; omega, rfl, HP5.out⟩
    · have t1 : (((l : Int) % 64) == 56) = true := by rw [hmod]; simp; omega
      have t2 : (((l : Int) % 64) != 56) = false := by rw [hmod]; simp; omega
      have ek : k = zs' n := by omega
      obtain ⟨ys, hys⟩ : ∃ ys, ys = xs ++ (128 :: List.replicate k 0) := ⟨_, rfl⟩
      rw [← hys] at hp
      rw [ek] at hys
      have hyl : ys.length = l := by rw [hys, hl, ek, List.length_append, HXL.out]; simp; omega
      have HYS := Lib.hid hys
      have HYL := Lib.hid hyl
      have HP := Lib.hid hp
      clear hzs hmod hp hl ek hys hyl
      go_wp2_with fail
      go_loopg [7, 9] 8 (fun g m i wr => ∃ (j l' : Nat) (sv : Option Addr) (cv : Nat), g + j = 8 ∧ l' = l + j ∧ i = .int .i64 (7 - (j : Int)) ∧ m = .slice sv l' cv ∧ PadR w wr (.slice sv l' cv) (ys ++ lenB n j))
      case atStart => exact ⟨0, l, sv, cv, rfl, rfl, rfl, rfl, by simpa [lenB] using HP.out⟩
      case round =>
        obtain ⟨j, l', sv', cv', hj, hl', rfl, rfl, hp⟩ := hrel
        obtain ⟨wo2, rfl⟩ : ∃ wo2 : World, wo2 = wr := ⟨_, rfl⟩
        have hll : (lenB n j).length = j := by simp [lenB]
        have HLL := Lib.hid hll
        have HL' := Lib.hid hl'
        have HP3 := Lib.hid hp
        clear hll hl' hp
        by_cases hlt2 : j < 8
        · by_cases h8 : 7 - j < 8
          · have e1 : (8 * (7 - (j : Int))).toNat = 8 * (7 - j) := by omega
            have e2 : 0 ≤ 8 * (7 - (j : Int)) := by omega
            have e3 : 8 * (7 - (j : Int)) ≤ 56 := by omega
            have e4 : (7 : Int) - (j : Int) < 8 := by omega
            have e5 : bits .and .i64 (8 * (n : Int) / 2 ^ (8 * (7 - j))) 255 = ((8 * n / 2 ^ (8 * (7 - j)) % 256 : Nat) : Int) := by
              rw [show (8 * (n : Int) / 2 ^ (8 * (7 - j))) = ((8 * n / 2 ^ (8 * (7 - j)) : Nat) : Int) by rw [Int.natCast_ediv, Int.natCast_mul, Int.natCast_pow]; rfl]
              exact and255 _ (Nat.lt_of_le_of_lt (Nat.div_le_self _ _) (by omega))
            have e6 : lenB n (j + 1) = lenB n j ++ [((8 * n / 2 ^ (8 * (7 - j)) % 256 : Nat) : Int)] := by rw [lenB_succ, if_pos h8]
            obtain ⟨x, hx⟩ : ∃ x, x = 8 * n / 2 ^ (8 * (7 - j)) % 256 := ⟨_, rfl⟩
            have hx1 : x < 256 := by rw [hx]; exact Nat.mod_lt _ (by omega)
            rw [← hx] at e5 e6
            have E6 := Lib.hid e6
            clear hx e6
            go_wp2_with ((with_reducible refine aS 47 ?_); refine wpList_app8 rfl _ _ rfl w.heap.size (.slice sv' l' cv') (ys ++ lenB n j) rfl (HP3.out.own.alloc _) (some ⟨wo2.heap.size, 0, none⟩) 1 _ [(x : Int)] rfl (src_one _ _) ?_ (Nat.le_trans HP3.out.below.size (by simp)) ?_; (rw [List.length_append, HYL.out, HLL.out]; omega); intro v5 w5 hown5 hgrow5 hnil5 hat5; have hp5 := PadR.snoc HP3.out _ hown5 hgrow5; clear hown5 hgrow5 hnil5 hat5; rw [List.append_assoc, ← E6.out] at hp5; obtain ⟨s5, c5, hv5, -⟩ := hp5.own.form; rw [List.length_append, HYL.out, E6.out, List.length_append, HLL.out, List.length_singleton, show l + (j + 1) = l' + 1 by have := HL'.out; omega] at hv5; subst hv5; have HP5 := Lib.hid hp5; clear hp5)
            go_roundg (gk - 1)
            case measure => omega
            case rel => exact ⟨j + 1, l' + 1, s5, c5, by omega, by have := HL'.out; omega, by congr 1; omega, rfl, HP5.out⟩
          · exfalso; omega
        · have ej : j = 8 := by omega
          have hfin : Own8 wo2 w.heap.size (.slice sv' l' cv') (xs ++ tail n) := by
            have := HP3.out.own
            rwa [ej, HYS.out, List.append_assoc, lenB_all] at this
          have hbe := HP3.out.below
          have HF := Lib.hid hfin
          clear ej hfin
          go_wp2_with fail
          go_ret
          exact ⟨_, rfl, HF.out, hbe⟩
end Go.Proofs.YtogebegdgfdijaaDoor.Ha
namespace Go.Proofs.YtogebegdgfdijaaDoor.Ha
open Go.RowKit
/-- The table's numbers. -/
def TabK (w : World) : Prop := ∀ t, t < 64 → w.cell? ⟨0, t, none⟩ = some (.int .u32 (K.getD t 0))
/-- What holds all along. -/
structure RefR (w wr : World) (lim : Nat) (sm : Option Addr) (lm cm : Nat) (pm hs : List Int) : Prop where
  h : wr.heap[w.heap.size + 1]? = some (.cells (arr .u32 hs) 114 (0, 0))
  own : Own8 wr (w.heap.size + 2) (.slice sm lm cm) pm
  res : wr.heap[w.heap.size]? = some (.cells (arr .u8 (List.replicate 32 0)) 23 (0, 0))
  below : Below w.heap.size w wr
  tab : TabK wr
  lt3 : w.heap.size + 1 < lim
  ltO : ∀ k, (Value.slice sm lm cm).ownBlock = some k → k < lim
  ltG : 0 < w.heap.size
  sz : lim ≤ wr.heap.size
  hl : hs.length = 8
theorem RefR.kept {T : Nat → Prop} {w wr w' : World} {lim : Nat} {sm : Option Addr} {lm cm : Nat} {pm hs : List Int} (h : RefR w wr lim sm lm cm pm hs) (k : Kept T wr w') (hT : ∀ i, T i → lim ≤ i) : RefR w w' lim sm lm cm pm hs := by
  have l3 := h.lt3
  have lg := h.ltG
  refine ⟨k.blk h.h (fun e => by have := hT _ e; omega), h.own.kept k (fun g hg e => by have := hT _ e; have := h.ltO g hg; omega), k.blk h.res (fun e => by have := hT _ e; omega), ?_, ?_, l3, h.ltO, lg, Nat.le_trans h.sz k.size, h.hl⟩
  · exact h.below.trans (k.toBelow h.below.size (fun i e => by have := hT i e; omega))
  · intro t ht
    exact k.cellX (h.tab t ht) (fun e => by have : lim ≤ 0 := hT _ e; omega)
theorem RefR.alloc {w wr : World} {lim : Nat} {sm : Option Addr} {lm cm : Nat} {pm hs : List Int} (h : RefR w wr lim sm lm cm pm hs) (o : Obj) : RefR w (wr.alloc o) lim sm lm cm pm hs := h.kept (T := fun _ => False) ((Kept.refl _ _).alloc o) (fun _ e => e.elim)
theorem RefR.drewN {w wr : World} {lim : Nat} {sm : Option Addr} {lm cm : Nat} {pm hs : List Int} (h : RefR w wr lim sm lm cm pm hs) (n : Nat) : RefR w (wr.drewN n) lim sm lm cm pm hs := h.kept (T := fun _ => False) ((Kept.refl _ _).drewN n) (fun _ e => e.elim)
theorem RefR.drew {w wr : World} {lim : Nat} {sm : Option Addr} {lm cm : Nat} {pm hs : List Int} (h : RefR w wr lim sm lm cm pm hs) : RefR w wr.drew lim sm lm cm pm hs := h.kept (T := fun _ => False) ((Kept.refl _ _).drew) (fun _ e => e.elim)
theorem RefR.far {w wr : World} {lim : Nat} {sm : Option Addr} {lm cm : Nat} {pm hs : List Int} (h : RefR w wr lim sm lm cm pm hs) (g i : Nat) (hg : lim ≤ g) (v : Value) : RefR w (wr.setCell ⟨g, i, none⟩ v) lim sm lm cm pm hs :=
  h.kept ((Kept.refl (fun x => x = g) wr).at i v) (by rintro i rfl; exact hg)
theorem RefR.seth {w wr : World} {lim : Nat} {sm : Option Addr} {lm cm : Nat} {pm hs : List Int} (h : RefR w wr lim sm lm cm pm hs) (i : Nat) (x : Int) : RefR w (wr.setCell ⟨w.heap.size + 1, i, none⟩ (.int .u32 x)) lim sm lm cm pm (hs.set i x) := by
  have k : Kept (fun x => x = w.heap.size + 1) wr (wr.setCell ⟨w.heap.size + 1, i, none⟩ (.int .u32 x)) := (Kept.refl _ _).at _ _
  refine ⟨blk_arr_set h.h i x, h.own.kept k (fun g hg e => ?_), k.blk h.res (by omega), h.below.setCell (p := ⟨w.heap.size + 1, i, none⟩) (by simp) _, fun t ht => ?_, h.lt3, h.ltO, h.ltG, by rw [show (wr.setCell ⟨w.heap.size + 1, i, none⟩ (.int .u32 x)).heap.size = wr.heap.size by simp [World.setCell]]; exact h.sz, by rw [List.length_set]; exact h.hl⟩
  · have := (h.own.lt g hg).1
    omega
  · refine k.cellX (h.tab t ht) (fun e => ?_)
    have e : 0 = w.heap.size + 1 := e
    have := h.ltG
    omega
theorem TabK.lt {w : World} (h : TabK w) : 0 < w.heap.size := World.block_lt_of_cell? _ _ (h 0 (by omega))
theorem build_H0 (w : World) : (Instr.build 114 #[(0, .int .u32 1779033703), (1, .int .u32 3144134277), (2, .int .u32 1013904242), (3, .int .u32 2773480762), (4, .int .u32 1359893119), (5, .int .u32 2600822924), (6, .int .u32 528734635), (7, .int .u32 1541459225)]).run Tryd.prog w = .ok (.agg (arr .u32 H0)) w := by kernel_rfl
theorem quiet_add_same {P : Program} {f : FuncId} {args : Array Value} {w : World} {a n : Nat} {v : Value}
    (h : Calls P f args (w.drewN (a + n)) fun e w' => e = .returned v ∧ w.drewN (a + n) = w') : Calls P f args (w.drewN (a + n)) fun e w'' => e = .returned v ∧ ∃ m, w'' = w.drewN (a + m) :=
  h.mono fun _ _ ⟨he, hm⟩ => ⟨he, n, hm.symm⟩
theorem quiet_same {P : Program} {f : FuncId} {args : Array Value} {w : World} {n : Nat} {v : Value}
    (h : Calls P f args (w.drewN n) fun e w' => e = .returned v ∧ w.drewN n = w') : Calls P f args (w.drewN n) fun e w'' => e = .returned v ∧ ∃ m, w'' = w.drewN m :=
  h.mono fun _ _ ⟨he, hm⟩ => ⟨he, n, hm.symm⟩
theorem and255w (y : Int) : IntKind.u8.wrap (bits .and .u32 y 255) = y % 256 := by
  have h2 : (BitVec.ofInt 32 (255 : Int)).toNat = 255 := by decide
  have e : ∀ x : Nat, x &&& 255 = x % 256 := fun x => Nat.and_two_pow_sub_one_eq_mod x 8
  show IntKind.u8.wrap (IntKind.u32.wrap ((BitVec.ofInt 32 y &&& BitVec.ofInt 32 (255 : Int)).toNat : Int)) = _
  rw [BitVec.toNat_and, h2, e, BitVec.toNat_ofInt, IntKind.wrap_u8, IntKind.wrap_u32]
  omega
theorem RefR.cell {w wr : World} {lim : Nat} {sm : Option Addr} {lm cm : Nat} {pm hs : List Int} (h : RefR w wr lim sm lm cm pm hs) (i : Nat) (hi : i < pm.length) : ∃ a, sm = some a ∧ wr.cell? (a.add i) = some (.int .u8 (pm.getD i 0)) := by
  obtain ⟨sa, c, hv, -, -, hs, -⟩ := h.own.form
  cases hv
  exact hs.cell i hi
theorem sti {P : Program} {f : FuncId} {args : Array Value} {w : World} {v : Value} (h : Calls P f args w fun e w' => e = .returned v ∧ w = w') : Calls P f args w fun e w'' => e = .returned v ∧ w'' = w := h.mono fun _ _ h => ⟨h.1, h.2.symm⟩
theorem hash_end (xs pm : List Int) (n Q : Nat) (hn : xs.length = n) (hp : pm = xs ++ tail n) (hl : pm.length = 64 * Q) : hash xs = digest (hsOf pm Q) := by
  subst hn hp
  unfold hash
  rw [hs_end _ Q hl]
theorem pm_bytes (xs pm : List Int) (n : Nat) (hx : bytes xs) (hp : pm = xs ++ tail n) : ∀ x ∈ pm, 0 ≤ x ∧ x ≤ 255 := by
  subst hp
  intro x h
  rcases List.mem_append.1 h with h | h
  · exact hx x h
  · exact tail_bytes n x h
theorem flatn (a b c d : Int) : (a + b + c + d) % 4294967296 = add (add (add d c) b) a := by
  simp only [add, IntKind.wrap_u32]
  omega
theorem or_add (k x y : Nat) (hy : y < 2 ^ k) (h : x * 2 ^ k + y < 4294967296) : bits .or .u32 ((x * 2 ^ k : Nat) : Int) (y : Int) = ((x * 2 ^ k + y : Nat) : Int) := by
  show IntKind.u32.wrap ((BitVec.ofInt 32 ((x * 2 ^ k : Nat) : Int) ||| BitVec.ofInt 32 (y : Int)).toNat : Int) = _
  rw [BitVec.ofInt_natCast, BitVec.ofInt_natCast, BitVec.toNat_or, BitVec.toNat_ofNat, BitVec.toNat_ofNat, Nat.mod_eq_of_lt (by omega), Nat.mod_eq_of_lt (by omega), Nat.mul_comm x, ← Nat.two_pow_add_eq_or_of_lt hy, IntKind.wrap_u32, Nat.mul_comm (2 ^ k) x]
  generalize x * 2 ^ k = z at h ⊢
  omega
theorem word4n (a b c d : Nat) (ha : a ≤ 255) (hb : b ≤ 255) (hc : c ≤ 255) :
    bits .or .u32 (bits .or .u32 (bits .or .u32 (IntKind.u32.wrap ((a : Int) * 16777216)) (IntKind.u32.wrap ((b : Int) * 65536))) (IntKind.u32.wrap ((c : Int) * 256))) (d : Int) =
    bits .or .u32 (IntKind.u32.wrap (bits .or .u32 (IntKind.u32.wrap (bits .or .u32 (IntKind.u32.wrap (bits .or .u32 (IntKind.u32.wrap (0 * 256)) (a : Int) * 256)) (b : Int) * 256)) (c : Int) * 256)) (d : Int) := by
  have m1 : ((a * 2 ^ 24 + b * 2 ^ 16 : Nat) : Int) = (((a * 2 ^ 8 + b) * 2 ^ 16 : Nat) : Int) := congrArg Int.ofNat (by omega)
  have m2 : (((a * 2 ^ 8 + b) * 2 ^ 16 + c * 2 ^ 8 : Nat) : Int) = ((((a * 2 ^ 8 + b) * 2 ^ 8 + c) * 2 ^ 8 : Nat) : Int) := congrArg Int.ofNat (by omega)
  have r0 : IntKind.u32.wrap (0 * 256) = ((0 * 2 ^ 8 : Nat) : Int) := by rw [IntKind.wrap_u32]; omega
  have r1 : IntKind.u32.wrap (((0 * 2 ^ 8 + a : Nat) : Int) * 256) = ((a * 2 ^ 8 : Nat) : Int) := by rw [IntKind.wrap_u32]; omega
  have r2 : IntKind.u32.wrap (((a * 2 ^ 8 + b : Nat) : Int) * 256) = (((a * 2 ^ 8 + b) * 2 ^ 8 : Nat) : Int) := by rw [IntKind.wrap_u32]; omega
  have r3 : IntKind.u32.wrap ((((a * 2 ^ 8 + b) * 2 ^ 8 + c : Nat) : Int) * 256) = ((((a * 2 ^ 8 + b) * 2 ^ 8 + c) * 2 ^ 8 : Nat) : Int) := by rw [IntKind.wrap_u32]; omega
  have l1 : IntKind.u32.wrap ((a : Int) * 16777216) = ((a * 2 ^ 24 : Nat) : Int) := by rw [IntKind.wrap_u32]; omega
  have l2 : IntKind.u32.wrap ((b : Int) * 65536) = ((b * 2 ^ 16 : Nat) : Int) := by rw [IntKind.wrap_u32]; omega
  have l3 : IntKind.u32.wrap ((c : Int) * 256) = ((c * 2 ^ 8 : Nat) : Int) := by rw [IntKind.wrap_u32]; omega
  rw [l1, l2, l3, or_add 24 a (b * 2 ^ 16) (by omega) (by omega), m1, or_add 16 (a * 2 ^ 8 + b) (c * 2 ^ 8) (by omega) (by omega), m2]
  rw [r0, or_add 8 0 a (by omega) (by omega), r1, or_add 8 a b (by omega) (by omega), r2, or_add 8 (a * 2 ^ 8 + b) c (by omega) (by omega), r3]
theorem wr24 (a : Int) (h : 0 ≤ a) (h2 : a ≤ 255) : IntKind.u32.wrap (a * 16777216) = a * 16777216 := by rw [IntKind.wrap_u32]; omega
theorem wr16 (a : Int) (h : 0 ≤ a) (h2 : a ≤ 255) : IntKind.u32.wrap (a * 65536) = a * 65536 := by rw [IntKind.wrap_u32]; omega
theorem wr8 (a : Int) (h : 0 ≤ a) (h2 : a ≤ 255) : IntKind.u32.wrap (a * 256) = a * 256 := by rw [IntKind.wrap_u32]; omega
theorem word4 (b : List Int) (o : Nat) (h : ∀ j, 0 ≤ b.getD j 0 ∧ b.getD j 0 ≤ 255) :
    bits .or .u32 (bits .or .u32 (bits .or .u32 (IntKind.u32.wrap (b.getD o 0 * 16777216)) (IntKind.u32.wrap (b.getD (o + 1) 0 * 65536))) (IntKind.u32.wrap (b.getD (o + 2) 0 * 256))) (b.getD (o + 3) 0) = part b o 4 := by
  obtain ⟨x0, e0⟩ := Int.eq_ofNat_of_zero_le (h o).1
  obtain ⟨x1, e1⟩ := Int.eq_ofNat_of_zero_le (h (o + 1)).1
  obtain ⟨x2, e2⟩ := Int.eq_ofNat_of_zero_le (h (o + 2)).1
  obtain ⟨x3, e3⟩ := Int.eq_ofNat_of_zero_le (h (o + 3)).1
  have l0 := (h o).2
  have l1 := (h (o + 1)).2
  have l2 := (h (o + 2)).2
  simp only [part, Nat.add_zero]
  rw [e0] at l0 ⊢
  rw [e1] at l1 ⊢
  rw [e2] at l2 ⊢
  rw [e3]
  exact word4n x0 x1 x2 x3 (by omega) (by omega) (by omega)
theorem pre_word (b : List Int) (j : Nat) (_hj : j < 16) : pre b (4 * (j + 1)) = (pre b (4 * j)).set j (part b (4 * j) 4) := by
  apply List.ext_getElem
  · simp [pre]
  · intro i h1 h2
    rw [List.getElem_set]
    simp only [pre, List.getElem_map, List.getElem_range]
    by_cases e : j = i
    · subst e
      rw [if_pos rfl, show min 4 (4 * (j + 1) - 4 * j) = 4 by omega]
    · rw [if_neg e, show min 4 (4 * (j + 1) - 4 * i) = min 4 (4 * j - 4 * i) by omega]
theorem ref_any (sa : Option Addr) (n c : Nat) (xs : List Int) (w : World) (hs : Src w sa n xs) (hx : bytes xs) (hn : n ≤ 70368744177664) (hk : TabK w) :
    Calls Tryd.prog 84 #[.slice sa n c] w fun e w' => e = .returned (.agg (arr .u8 (hash xs))) ∧ Below w.heap.size w w' := by
  have hg := hk.lt
  have hxl := hs.len
  have z1 : (Tryd.prog.info? 114).map (·.size) = some (arr .u32 H0).size := size8
  have z2 : (arr .u32 H0).size = (arr .u32 (List.replicate 8 0)).size := rfl
  have HS := Lib.hid hs
  have HX := Lib.hid hx
  have HK := Lib.hid hk
  have HG := Lib.hid hg
  have HXL := Lib.hid hxl
  have Z1 := Lib.hid z1
  have Z2 := Lib.hid z2
  have B1 := Lib.hid (blk_new w (.cells (arr .u8 (List.replicate 32 0)) 23))
  have B2 := Lib.hid (blk_new (w.alloc (.cells (arr .u8 (List.replicate 32 0)) 23)) (.cells (arr .u32 (List.replicate 8 0)) 114))
  have eA : (w.alloc (.cells (arr .u8 (List.replicate 32 0)) 23)).heap.size = w.heap.size + 1 := by simp
  rw [eA] at B2
  have EA := Lib.hid eA
  clear hs hx hk hg hxl z1 z2 eA
  go_enter Tryd.func84, Tryd.ntmps84
  go_wp2_with (first | ((with_reducible refine aS 2 ?_); refine wpList_alloc_row rfl 23 rfl _ (zeroOut _) ?_) | ((with_reducible refine aS 21 ?_); refine wpList_build rfl 114 _ rfl #[(0, .int .u32 1779033703), (1, .int .u32 3144134277), (2, .int .u32 1013904242), (3, .int .u32 2773480762), (4, .int .u32 1359893119), (5, .int .u32 2600822924), (6, .int .u32 528734635), (7, .int .u32 1541459225)] rfl _ (build_H0 _) ?_) | ((with_reducible refine aS 3 ?_); refine wpList_alloc_row rfl 114 rfl _ (zero8 _) ?_; rw [EA.out]) | ((with_reducible show wpList _ _ _ (Oper.mk none _ _ _ _ _ :: _) _ _); refine wpList_store_whole rfl 114 _ _ rfl (w.heap.size + 1) _ _ 114 B2.out rfl rfl Z2.out Z1.out (all_arr _ _) ?_; intro w1 hb1 hk1 hz1; have hw1 := (((Below.refl _ w).alloc (Nat.le_refl _) _).alloc (by simp) _).trans (hk1.toBelow (B := w.heap.size) (by simp; omega) (by rintro i rfl; omega)); have HW1 := Lib.hid hw1; have HB1 := Lib.hid hb1; have HK1 := Lib.hid hk1; have HZ1 := Lib.hid hz1; clear hb1 hk1 hz1 hw1) | (go_at_call 91; refine (padded_any sa n c xs w1 (HS.out.below HW1.out) hn).mono ?_; rintro e w2 ⟨v, rfl, hown2, hbl2⟩; have HO2 := Lib.hid hown2; have HBL2 := Lib.hid hbl2; clear hown2 hbl2))
  have hz1 : w1.heap.size = w.heap.size + 2 := by rw [HZ1.out]; simp
  obtain ⟨pm, hpm⟩ : ∃ pm, pm = xs ++ tail n := ⟨_, rfl⟩
  obtain ⟨lim, hlim⟩ : ∃ lim, lim = w2.heap.size := ⟨_, rfl⟩
  obtain ⟨Q, hQ⟩ := tail_len n
  have hpl : pm.length = 64 * Q := by rw [hpm, List.length_append, HXL.out]; exact hQ
  have ho2 := HO2.out
  rw [← hpm] at ho2
  obtain ⟨sm, cm, hvm, -, -, -, -⟩ := ho2.form
  rw [hpl] at hvm
  subst hvm
  have hb2s := HBL2.out.size
  have hbw2 : Below w.heap.size w w2 := HW1.out.trans (HBL2.out.mono (by omega))
  have hR0 : RefR w w2 lim sm (64 * Q) cm pm (hsOf pm 0) := by
    have hg := HG.out
    refine ⟨?_, ho2.mono (by omega), Below.blk HBL2.out (HK1.out.blk (blk_alloc B1.out _) (by omega)) (by omega), hbw2, fun t ht => below_cell hbw2 (HK.out t ht), by omega, fun k hk => by rw [hlim]; exact (ho2.lt k hk).2, hg, by omega, hs_len _ _⟩
    rw [hs_zero]
    exact Below.blk HBL2.out HB1.out (by omega)
  have hnl : (64 * Q) ≤ 70368744178000 := by
    have hq : n + (tail n).length = (64 * Q) := hQ
    have : (tail n).length ≤ 256 := by simp [tail]; omega
    omega
  have hbyt := pm_bytes xs pm n HX.out hpm
  have HEND := Lib.hid (hash_end xs pm n Q HXL.out hpm hpl)
  have HPL := Lib.hid hpl
  have HR0 := Lib.hid hR0
  have HBYT := Lib.hid hbyt
  clear hz1 hpm hlim hQ hpl ho2 hb2s hbw2 hR0 hbyt HO2 HBL2 HW1 HB1 HK1 HZ1 B1 B2 EA
  go_wp2_with fail
  go_loopw [5] (fun i wr => ∃ q : Nat, q ≤ Q ∧ i = .int .i64 (64 * (q : Int)) ∧ RefR w wr lim sm (64 * Q) cm pm (hsOf pm q)) (fun i _ => (64 * Q) - (intOf i).toNat)
  case atStart => exact ⟨0, by omega, rfl, HR0.out⟩
  clear HR0
  case round =>
  obtain ⟨q, hq, rfl, hR⟩ := hrel
  obtain ⟨wo, rfl⟩ : ∃ wo : World, wo = wr := ⟨_, rfl⟩
  by_cases hlt : q < Q
  · obtain ⟨hv0, hh⟩ : ∃ hv0, hv0 = hsOf pm q := ⟨_, rfl⟩
    obtain ⟨bl, hbl⟩ : ∃ bl, bl = blkOf pm q := ⟨_, rfl⟩
    have hsu : hsOf pm (q + 1) = comp hv0 bl := by rw [hh, hbl]; exact hs_succ pm q (by rw [HPL.out]; omega)
    have hby : ∀ j, 0 ≤ bl.getD j 0 ∧ bl.getD j 0 ≤ 255 := by
      intro j
      refine byte_at (fun x hx => HBYT.out x ?_) j
      rw [hbl] at hx
      exact List.mem_of_mem_drop (List.mem_of_mem_take hx)
    have hR1 := hR
    rw [← hh] at hR1
    have HSZ := Lib.hid hR.sz
    have HR2 := Lib.hid (hR1.alloc (.cells (arr .u32 (List.replicate 64 0)) 115))
    have hb2 := blk_new wo (.cells (arr .u32 (List.replicate 64 0)) 115)
    rw [← pre_zero bl] at hb2
    have HB2 := Lib.hid hb2
    have HSU := Lib.hid hsu
    have HBY := Lib.hid hby
    have HBL := Lib.hid hbl.symm
    have HHL := Lib.hid hR1.hl
    clear hR hR1 hb2 hsu hby hbl hh
    go_wp2_with ((with_reducible refine aS 6 ?_); refine wpList_alloc_row rfl 115 rfl _ (zeroR _) ?_)
    rw [pre_zero bl] at HB2
    rw [← pre_zero bl] at HB2
    go_loopw [7] (fun i wr => ∃ i6 : Nat, i6 ≤ 16 ∧ i = .int .i64 i6 ∧ RefR w wr lim sm (64 * Q) cm pm hv0 ∧ wr.heap[wo.heap.size]? = some (.cells (arr .u32 (pre bl (4 * i6))) 115 (0, 0))) (fun i _ => 16 - (intOf i).toNat)
    case atStart => exact ⟨0, by omega, rfl, HR2.out, HB2.out⟩
    case round =>
      obtain ⟨i6, hi6, rfl, hR, hb⟩ := hrel
      by_cases hlt6 : i6 < 16
      · obtain ⟨ad, rfl, c0⟩ := hR.cell (64 * q + (4 * i6)) (by rw [HPL.out]; omega)
        obtain ⟨ad1, ea1, c1⟩ := hR.cell (64 * q + (4 * i6 + 1)) (by rw [HPL.out]; omega)
        obtain ⟨ad2, ea2, c2⟩ := hR.cell (64 * q + (4 * i6 + 2)) (by rw [HPL.out]; omega)
        obtain ⟨ad3, ea3, c3⟩ := hR.cell (64 * q + (4 * i6 + 3)) (by rw [HPL.out]; omega)
        cases ea1
        cases ea2
        cases ea3
        rw [← blk_get pm q _ (by omega), HBL.out] at c0 c1 c2 c3
        have y0 := blk_arr hb i6 (by rw [pre_len]; omega)
        have yf := free_blk hb i6
        have g1 := blk_arr_set hb i6 (part bl (4 * i6) 4)
        rw [← pre_word bl i6 hlt6] at g1
        have G1 : Hid (∀ v, v = part bl (4 * i6) 4 → (wr.setCell ⟨wo.heap.size, i6, none⟩ (.int .u32 v)).heap[wo.heap.size]? = some (.cells (arr .u32 (pre bl (4 * (i6 + 1)))) 115 (0, 0))) := Lib.hid (by rintro v rfl; exact g1)
        rw [← word4 bl (4 * i6) HBY.out] at G1
        obtain ⟨b00, b01⟩ := HBY.out (4 * i6)
        obtain ⟨b10, b11⟩ := HBY.out (4 * i6 + 1)
        obtain ⟨b20, b21⟩ := HBY.out (4 * i6 + 2)
        obtain ⟨b30, b31⟩ := HBY.out (4 * i6 + 3)
        have HR4 := Lib.hid (fun v => hR.far wo.heap.size i6 HSZ.out v)
        clear hR hb g1
        generalize (pre bl (4 * i6)).getD i6 0 = y at y0
        generalize bl.getD (4 * i6) 0 = p0 at c0 b00 b01 G1
        generalize bl.getD (4 * i6 + 1) 0 = p1 at c1 b10 b11 G1
        generalize bl.getD (4 * i6 + 2) 0 = p2 at c2 b20 b21 G1
        generalize bl.getD (4 * i6 + 3) 0 = p3 at c3 b30 b31 G1
        have j1 : IntKind.i64.wrap (4 * (i6 : Int)) = 4 * (i6 : Int) := IntWalk.i64_in _ (by omega)
        have j2 : IntKind.i64.wrap (64 * (q : Int) + 4 * (i6 : Int)) = 64 * (q : Int) + 4 * (i6 : Int) := IntWalk.i64_in _ (by omega)
        have j3 : IntKind.i64.wrap (64 * (q : Int) + 4 * (i6 : Int) + 1) = 64 * (q : Int) + 4 * (i6 : Int) + 1 := IntWalk.i64_in _ (by omega)
        have j4 : IntKind.i64.wrap (64 * (q : Int) + 4 * (i6 : Int) + 2) = 64 * (q : Int) + 4 * (i6 : Int) + 2 := IntWalk.i64_in _ (by omega)
        have j5 : IntKind.i64.wrap (64 * (q : Int) + 4 * (i6 : Int) + 3) = 64 * (q : Int) + 4 * (i6 : Int) + 3 := IntWalk.i64_in _ (by omega)
        have n0 : (64 * (q : Int) + 4 * (i6 : Int)).toNat = 64 * q + 4 * i6 := by omega
        have n1 : (64 * (q : Int) + 4 * (i6 : Int) + 1).toNat = 64 * q + (4 * i6 + 1) := by omega
        have n2 : (64 * (q : Int) + 4 * (i6 : Int) + 2).toNat = 64 * q + (4 * i6 + 2) := by omega
        have n3 : (64 * (q : Int) + 4 * (i6 : Int) + 3).toNat = 64 * q + (4 * i6 + 3) := by omega
        have n4 : 0 ≤ 64 * (q : Int) + 4 * (i6 : Int) := by omega
        have n6 : (i6 : Int) < 64 := by omega
        have n4b : 0 ≤ 64 * (q : Int) + 4 * (i6 : Int) + 1 := by omega
        have n4c : 0 ≤ 64 * (q : Int) + 4 * (i6 : Int) + 2 := by omega
        have n4d : 0 ≤ 64 * (q : Int) + 4 * (i6 : Int) + 3 := by omega
        have n5 : 64 * (q : Int) + 4 * (i6 : Int) < 64 * (Q : Int) := by omega
        have n5b : 64 * (q : Int) + 4 * (i6 : Int) + 1 < 64 * (Q : Int) := by omega
        have n5c : 64 * (q : Int) + 4 * (i6 : Int) + 2 < 64 * (Q : Int) := by omega
        have n5d : 64 * (q : Int) + 4 * (i6 : Int) + 3 < 64 * (Q : Int) := by omega
        go_wp2_with fail
        refine wp_region_still_tail 31 (by kernel_rfl) (by kernel_rfl) ?_
        simp only [List.take_succ_cons, List.take_zero, List.drop_succ_cons, List.drop_zero]
        repeat still_step
        refine wpStill_nil ?_
        change wpList _ _ _ _ _ wr.drew
        go_wp2_with fail
        clear j1 j2 j3 j4 j5 n0 n1 n2 n3 n4 n6 n4b n4c n4d n5 n5b n5c n5d
        go_roundw
        case rel => exact ⟨i6 + 1, by omega, by go_num, (HR4.out _).drew, G1.out _ (by rw [wr24 p0 b00 b01, wr16 p1 b10 b11, wr8 p2 b20 b21])⟩
        case measure => simp [intOf]; omega
      · rw [show i6 = 16 by omega, show 4 * 16 = 64 from rfl] at hb
        have HR5 := Lib.hid hR
        have hb5 : wr.heap[wo.heap.size]? = some (.cells (arr .u32 (sched bl 0)) 115 (0, 0)) := hb
        have HB5 := Lib.hid hb5
        clear hR hb hb5
        go_wp2_with fail
        go_loopw [9] (fun i wr => ∃ t : Nat, 16 ≤ t ∧ t ≤ 64 ∧ i = .int .i64 t ∧ RefR w wr lim sm (64 * Q) cm pm hv0 ∧ wr.heap[wo.heap.size]? = some (.cells (arr .u32 (sched bl (t - 16))) 115 (0, 0))) (fun i _ => 64 - (intOf i).toNat)
        case atStart => exact ⟨16, by omega, by omega, rfl, HR5.out, HB5.out⟩
        clear HR5 HB5
        case round =>
        obtain ⟨t, h16, ht, rfl, hR, g1⟩ := hrel
        by_cases hltt : t < 64
        · have hsl := sched_len bl (t - 16)
          have x2 := blk_arr g1 (t - 2) (by omega)
          have x7 := blk_arr g1 (t - 7) (by omega)
          have x15 := blk_arr g1 (t - 15) (by omega)
          have x16 := blk_arr g1 (t - 16) (by omega)
          have xt := blk_arr g1 t (by omega)
          have xf := free_blk g1 t
          have hnx : sched bl (t - 16 + 1) = (sched bl (t - 16)).set t (next (sched bl (t - 16)) t) := by
            have := sched_succ bl (t - 16)
            rwa [show 16 + (t - 16) = t by omega] at this
          have g1' := blk_arr_set g1 t (next (sched bl (t - 16)) t)
          rw [← hnx, show t - 16 + 1 = t + 1 - 16 by omega] at g1'
          have G1 : Hid (∀ v, v = next (sched bl (t - 16)) t → (wr.setCell ⟨wo.heap.size, t, none⟩ (.int .u32 v)).heap[wo.heap.size]? = some (.cells (arr .u32 (sched bl (t + 1 - 16))) 115 (0, 0))) := Lib.hid (by rintro v rfl; exact g1')
          have HR6 := Lib.hid (fun v => hR.far wo.heap.size t HSZ.out v)
          clear g1 g1' hR hsl hnx
          unfold next at G1
          generalize (sched bl (t - 16)).getD (t - 2) 0 = y2 at x2 G1
          generalize (sched bl (t - 16)).getD (t - 7) 0 = y7 at x7 G1
          generalize (sched bl (t - 16)).getD (t - 15) 0 = y15 at x15 G1
          generalize (sched bl (t - 16)).getD (t - 16) 0 = y16 at x16 G1
          have i15 : IntKind.i64.wrap ((t : Int) - 15) = (t : Int) - 15 := IntWalk.i64_in _ (by omega)
          have i2 : IntKind.i64.wrap ((t : Int) - 2) = (t : Int) - 2 := IntWalk.i64_in _ (by omega)
          have i7 : IntKind.i64.wrap ((t : Int) - 7) = (t : Int) - 7 := IntWalk.i64_in _ (by omega)
          have i16 : IntKind.i64.wrap ((t : Int) - 16) = (t : Int) - 16 := IntWalk.i64_in _ (by omega)
          have n15 : ((t : Int) - 15).toNat = t - 15 := by omega
          have n2 : ((t : Int) - 2).toNat = t - 2 := by omega
          have n7 : ((t : Int) - 7).toNat = t - 7 := by omega
          have n16 : ((t : Int) - 16).toNat = t - 16 := by omega
          have p16 : 16 ≤ (t : Int) := by omega
          have p7 : 7 ≤ (t : Int) := by omega
          have q16 : (t : Int) - 16 < 64 := by omega
          have q7 : (t : Int) - 7 < 64 := by omega
          have qt : (t : Int) < 64 := by omega
          go_wp2_with fail
          refine wp_region_still_tail 29 (by kernel_rfl) (by kernel_rfl) ?_
          simp only [List.take_succ_cons, List.take_zero, List.drop_succ_cons, List.drop_zero]
          repeat still_step
          (refine wpStill_step (fun K hK => ?_); go_simp; refine Exists.intro _ (And.intro (sti (ror_7 _ _)) ?_); refine hK _ ?_; clear hK K)
          repeat still_step
          (refine wpStill_step (fun K hK => ?_); go_simp; refine Exists.intro _ (And.intro (sti (ror_18 _ _)) ?_); refine hK _ ?_; clear hK K)
          repeat still_step
          (refine wpStill_step (fun K hK => ?_); go_simp; refine Exists.intro _ (And.intro (sti (ror_17 _ _)) ?_); refine hK _ ?_; clear hK K)
          repeat still_step
          (refine wpStill_step (fun K hK => ?_); go_simp; refine Exists.intro _ (And.intro (sti (ror_19 _ _)) ?_); refine hK _ ?_; clear hK K)
          repeat still_step
          refine wpStill_nil ?_
          change wpList _ _ _ _ _ wr.drew
          go_wp2_with fail
          clear i15 i2 i7 i16 n15 n2 n7 n16 p16 p7 q16 q7 qt
          go_roundw
          case rel => exact ⟨t + 1, by omega, by omega, by go_num, (HR6.out _).drew, G1.out _ (flatn y16 (s0 y15) y7 (s1 y2))⟩
          case measure => simp [intOf]; omega
        · obtain rfl : t = 64 := by omega
          obtain ⟨ws, hws⟩ : ∃ ws, ws = sched bl (64 - 16) := ⟨_, rfl⟩
          rw [← hws] at g1
          have hwl : ws.length = 64 := by rw [hws]; exact sched_len _ _
          have hp8 : ((arr .u32 hv0).toList.drop 0).take hv0.length = hv0.map (Value.int .u32) := by rw [List.drop_zero, arr_toList, List.take_of_length_le (by simp)]
          have hz8 : (Tryd.prog.info? 114).map (·.size) = some hv0.length := by rw [hR.hl]; exact size8
          have z3 : (Tryd.prog.info? 114).map (·.size) = some (arr .u32 hv0).size := by rw [arr_size, hR.hl]; exact size8
          have z4 : (arr .u32 hv0).size = (arr .u32 (List.replicate 8 0)).size := by rw [arr_size, arr_size, hR.hl, List.length_replicate]
          have HWS := Lib.hid hws
          have HWL := Lib.hid hwl
          have HP8 := Lib.hid hp8
          have HZ8 := Lib.hid hz8
          have Z3 := Lib.hid z3
          have Z4 := Lib.hid z4
          have HG1 := Lib.hid (blk_alloc g1 (.cells (arr .u32 (List.replicate 8 0)) 114))
          have HLT := Lib.hid (blk_lt g1)
          have HH := Lib.hid hR.h
          have HR7 := Lib.hid (hR.alloc (.cells (arr .u32 (List.replicate 8 0)) 114))
          have HA8 := Lib.hid (blk_new wr (.cells (arr .u32 (List.replicate 8 0)) 114))
          have HSW := Lib.hid hR.sz
          obtain ⟨wp, rfl⟩ : ∃ wp : World, wp = wr := ⟨_, rfl⟩
          clear hws hwl hp8 hz8 z3 z4 g1 hR
          go_wp2_with (first | ((with_reducible refine aS 110 ?_); refine wpList_load_part rfl 114 _ rfl (w.heap.size + 1) 0 _ 114 (0, 0) _ HH.out rfl .u32 hv0 HP8.out Tryd.underlying114 rfl HZ8.out ?_) | ((with_reducible refine aS 12 ?_); refine wpList_alloc_row rfl 114 rfl _ (zero8 _) ?_) | ((with_reducible show wpList _ _ _ (Oper.mk none _ _ _ _ _ :: _) _ _); refine wpList_store_whole rfl 114 _ _ rfl wp.heap.size _ _ 114 HA8.out rfl rfl Z4.out Z3.out (all_arr _ _) ?_; intro w5 hb5 hk5 hz5; have HR8 := Lib.hid (HR7.out.kept hk5 (by rintro i rfl; exact HSW.out)); have HB8 := Lib.hid hb5; have HG8 := Lib.hid (hk5.blk HG1.out (by have := HLT.out; omega)); clear hb5 hk5 hz5))
          go_loopw [13] (fun i wq => ∃ j : Nat, j ≤ 64 ∧ i = .int .i64 j ∧ RefR w wq lim sm (64 * Q) cm pm hv0 ∧ wq.heap[wo.heap.size]? = some (.cells (arr .u32 ws) 115 (0, 0)) ∧ wq.heap[wp.heap.size]? = some (.cells (arr .u32 (rounds ws hv0 j)) 114 (0, 0))) (fun i _ => 64 - (intOf i).toNat)
          case atStart => exact ⟨0, Nat.zero_le _, rfl, HR8.out, HG8.out, HB8.out⟩
          clear HR7 HR8 HB8 HG8 HA8 HG1 HH
          case round =>
          obtain ⟨j, hj, rfl, hR, hw, hv⟩ := hrel
          by_cases hltj : j < 64
          · have hvl := rounds_len ws hv0 HHL.out j
            have x0 := blk_arr hv 0 (by omega)
            have x1 := blk_arr hv 1 (by omega)
            have x2 := blk_arr hv 2 (by omega)
            have x3 := blk_arr hv 3 (by omega)
            have x4 := blk_arr hv 4 (by omega)
            have x5 := blk_arr hv 5 (by omega)
            have x6 := blk_arr hv 6 (by omega)
            have x7 := blk_arr hv 7 (by omega)
            have xk := hR.tab j hltj
            have xw := blk_arr hw j (by rw [HWL.out]; omega)
            have HN : Hid (∀ cs, cs = arr .u32 (rnd (K.getD j 0) (ws.getD j 0) (rounds ws hv0 j)) → cs = arr .u32 (rounds ws hv0 (j + 1))) := Lib.hid (by rintro cs rfl; rw [rounds_succ])
            have HV8 := Lib.hid hvl
            have HB2 := Lib.hid hw
            have HB3 := Lib.hid hv
            have HR9 := Lib.hid hR
            clear hw hv hR hvl
            unfold rnd tx ty at HN
            generalize (rounds ws hv0 j).getD 0 0 = v0 at x0 HN
            generalize (rounds ws hv0 j).getD 1 0 = v1 at x1 HN
            generalize (rounds ws hv0 j).getD 2 0 = v2 at x2 HN
            generalize (rounds ws hv0 j).getD 3 0 = v3 at x3 HN
            generalize (rounds ws hv0 j).getD 4 0 = v4 at x4 HN
            generalize (rounds ws hv0 j).getD 5 0 = v5 at x5 HN
            generalize (rounds ws hv0 j).getD 6 0 = v6 at x6 HN
            generalize (rounds ws hv0 j).getD 7 0 = v7 at x7 HN
            generalize K.getD j 0 = kt at xk HN
            generalize ws.getD j 0 = wt at xw HN
            go_wp2_with fail
            refine wp_region_still_lit (by kernel_rfl) (by kernel_rfl) ?_
            repeat still_step
            (refine wpStill_step (fun K hK => ?_); go_simp; refine Exists.intro _ (And.intro (sti (ror_6 _ _)) ?_); refine hK _ ?_; clear hK K)
            repeat still_step
            (refine wpStill_step (fun K hK => ?_); go_simp; refine Exists.intro _ (And.intro (sti (ror_11 _ _)) ?_); refine hK _ ?_; clear hK K)
            repeat still_step
            (refine wpStill_step (fun K hK => ?_); go_simp; refine Exists.intro _ (And.intro (sti (ror_25 _ _)) ?_); refine hK _ ?_; clear hK K)
            repeat still_step
            refine wpStill_nil ?_
            go_wp2_with fail
            have y1 : wr.drew.cell? ⟨wp.heap.size, 1, none⟩ = some (.int .u32 v1) := x1
            have y2 : wr.drew.cell? ⟨wp.heap.size, 2, none⟩ = some (.int .u32 v2) := x2
            have y3 : wr.drew.cell? ⟨wp.heap.size, 3, none⟩ = some (.int .u32 v3) := x3
            have y5 : wr.drew.cell? ⟨wp.heap.size, 5, none⟩ = some (.int .u32 v5) := x5
            have y6 : wr.drew.cell? ⟨wp.heap.size, 6, none⟩ = some (.int .u32 v6) := x6
            have HC2 : Hid (wr.drew.heap[wo.heap.size]? = some (.cells (arr .u32 ws) 115 (0, 0))) := HB2
            have HC3 : Hid (wr.drew.heap[wp.heap.size]? = some (.cells (arr .u32 (rounds ws hv0 j)) 114 (0, 0))) := HB3
            have HR10 := Lib.hid HR9.out.drew
            clear x0 x1 x2 x3 x4 x5 x6 x7 xk xw HB2 HB3 HR9
            generalize wr.drew = w6 at y1 y2 y3 y5 y6 HC2 HC3 HR10 ⊢
            refine wp_region_still_lit (by kernel_rfl) (by kernel_rfl) ?_
            repeat still_step
            (refine wpStill_step (fun K hK => ?_); go_simp; refine Exists.intro _ (And.intro (sti (ror_2 _ _)) ?_); refine hK _ ?_; clear hK K)
            repeat still_step
            (refine wpStill_step (fun K hK => ?_); go_simp; refine Exists.intro _ (And.intro (sti (ror_13 _ _)) ?_); refine hK _ ?_; clear hK K)
            repeat still_step
            (refine wpStill_step (fun K hK => ?_); go_simp; refine Exists.intro _ (And.intro (sti (ror_22 _ _)) ?_); refine hK _ ?_; clear hK K)
            repeat still_step
            refine wpStill_nil ?_
            go_wp2_with ((with_reducible show wpList _ _ _ (Oper.mk none _ _ _ _ _ :: _) _ _); refine wpList_store8 rfl 114 _ _ rfl wp.heap.size .u32 _ 114 HC3.out rfl _ _ _ _ _ _ _ _ rfl HV8.out size8 ?_; intro w4 hb4 hk4 hz4; have HB4 := Lib.hid hb4; have HK4 := Lib.hid hk4; clear hb4 hk4 hz4)
            go_wp2_with fail
            go_roundw
            case rel =>
              refine ⟨j + 1, by omega, by go_num, HR10.out.drew.kept HK4.out (by rintro i rfl; exact HSW.out), HK4.out.blk HC2.out (by have := HLT.out; omega), ?_⟩
              rw [HB4.out]
              exact congrArg (fun c => some (Obj.cells c 114 (0, 0))) (HN.out _ (congrArg (arr .u32) (list8_eq (flat7 v7 (e1 v4) (ch v4 v5 v6) kt wt (e0 v0) (maj v0 v1 v2)) rfl rfl rfl (flat6 v3 v7 (e1 v4) (ch v4 v5 v6) kt wt) rfl rfl rfl)))
            case measure => simp [intOf]; omega
          · obtain rfl : j = 64 := by omega
            obtain ⟨vv, evv⟩ : ∃ vv, vv = rounds ws hv0 64 := ⟨_, rfl⟩
            rw [← evv] at hv
            have hcomp : sums hv0 vv 8 = comp hv0 bl := by rw [evv, HWS.out]; rfl
            have hvl : vv.length = 8 := by rw [evv]; exact rounds_len ws hv0 HHL.out _
            have hne : w.heap.size + 1 ≠ wp.heap.size := by have := hR.lt3; have := HSW.out; omega
            have HCOMP := Lib.hid hcomp
            have HVL := Lib.hid hvl
            have HNE := Lib.hid hne
            have HVX := Lib.hid hv
            have HRX := Lib.hid hR
            clear evv hcomp hvl hne hv hR hw
            go_wp2_with fail
            go_loopw [18] (fun i wq => ∃ j8 : Nat, j8 ≤ 8 ∧ i = .int .i64 j8 ∧ RefR w wq lim sm (64 * Q) cm pm (sums hv0 vv j8) ∧ wq.heap[wp.heap.size]? = some (.cells (arr .u32 vv) 114 (0, 0))) (fun i _ => 8 - (intOf i).toNat)
            case atStart => exact ⟨0, Nat.zero_le _, rfl, by rw [sums_zero]; exact HRX.out, HVX.out⟩
            clear HRX HVX
            case round =>
            obtain ⟨j8, hj8, rfl, hR, hv⟩ := hrel
            by_cases hl8 : j8 < 8
            · have y0 := blk_arr hR.h j8 (by rw [hR.hl]; exact hl8)
              rw [sums_get hv0 vv j8 j8 (by rw [HHL.out]; exact hl8) (Nat.le_refl _)] at y0
              have y1 := blk_arr hv j8 (by rw [HVL.out]; exact hl8)
              have y2 := free_blk hR.h j8
              have S1 : Hid (∀ x, x = add (hv0.getD j8 0) (vv.getD j8 0) → RefR w (wr.setCell ⟨w.heap.size + 1, j8, none⟩ (.int .u32 x)) lim sm (64 * Q) cm pm (sums hv0 vv (j8 + 1))) := Lib.hid (by rintro x rfl; rw [sums_succ hv0 vv j8 (by rw [HHL.out]; exact hl8)]; exact hR.seth j8 _)
              have HG := Lib.hid hv
              clear hv hR
              generalize hv0.getD j8 0 = hj0 at y0 S1
              generalize vv.getD j8 0 = vj at y1 S1
              go_wp2_with fail
              go_region
              go_wp2_with fail
              go_roundw
              case rel => exact ⟨j8 + 1, by omega, by go_num, (S1.out _ (flat1 _ _)).drew, blk_setCell_ne HG.out _ (Ne.symm HNE.out)⟩
              case measure => simp [intOf]; omega
            · have e8 : j8 = 8 := by omega
              rw [e8, HCOMP.out, ← HSU.out] at hR
              have HRE := Lib.hid hR
              clear e8 hv hR
              go_wp2_with fail
              go_roundw
              case rel => exact ⟨q + 1, by omega, by go_num, HRE.out⟩
              case measure => simp [intOf]; omega
  · obtain rfl : q = Q := by omega
    have hend := HEND.out
    obtain ⟨hf, ehf⟩ : ∃ hf, hf = hsOf pm q := ⟨_, rfl⟩
    rw [← ehf] at hR hend
    have hdl : (digest hf).length = 32 := by simp [digest]
    have hfl := hR.hl
    have hb9 : (wo.alloc (.cells (arr .u8 (List.replicate 32 0)) 23)).heap[wo.heap.size]? = some (.cells (arr .u8 ((digest hf).take 0 ++ List.replicate (32 - 0) 0)) 23 (0, 0)) := blk_new _ _
    have HSZ := Lib.hid hR.sz
    have HR8 := Lib.hid (hR.alloc (.cells (arr .u8 (List.replicate 32 0)) 23))
    have HB9 := Lib.hid hb9
    have HE2 := Lib.hid hend
    have HDL := Lib.hid hdl
    have HFL := Lib.hid hfl
    clear hR hend ehf hdl hfl hb9 HEND HBYT
    go_wp2_with ((with_reducible refine aS 19 ?_); refine wpList_alloc_row rfl 23 rfl _ (zeroOut _) ?_)
    go_loopw [20] (fun i wr => ∃ i9 : Nat, i9 ≤ 32 ∧ i = .int .i64 i9 ∧ wr.heap[wo.heap.size]? = some (.cells (arr .u8 ((digest hf).take i9 ++ List.replicate (32 - i9) 0)) 23 (0, 0)) ∧ RefR w wr lim sm (64 * q) cm pm hf) (fun i _ => 32 - (intOf i).toNat)
    case atStart => exact ⟨0, Nat.zero_le _, rfl, HB9.out, HR8.out⟩
    clear HB9 HR8
    case round =>
    obtain ⟨i9, hi9, rfl, hb, hR⟩ := hrel
    by_cases hlt9 : i9 < 32
    · have y0 := blk_arr hR.h (i9 / 4) (by rw [hR.hl]; omega)
      have y1 := blk_arr hb i9 (by simp [HDL.out]; omega)
      have y2 := free_blk hb i9
      have G1 : Hid (∀ v, v = hf.getD (i9 / 4) 0 / 2 ^ (8 * (3 - i9 % 4)) % 256 → (wr.setCell ⟨wo.heap.size, i9, none⟩ (.int .u8 v)).heap[wo.heap.size]? = some (.cells (arr .u8 ((digest hf).take (i9 + 1) ++ List.replicate (32 - (i9 + 1)) 0)) 23 (0, 0))) := Lib.hid (by
        rintro v rfl
        rw [blk_arr_set hb, dig_set hf i9 hlt9 _ (dig_get hf i9 hlt9).symm])
      have HRS := Lib.hid (fun v => hR.far wo.heap.size i9 HSZ.out v)
      have e1 : (24 - 8 * ((i9 : Int) % 4)).toNat = 8 * (3 - i9 % 4) := by omega
      have e2 : 0 ≤ 24 - 8 * ((i9 : Int) % 4) := by omega
      have e3 : 24 - 8 * ((i9 : Int) % 4) ≤ 24 := by omega
      clear hb hR
      generalize hf.getD (i9 / 4) 0 = x at y0 G1
      go_wp2_with fail
      clear e1 e2 e3
      go_roundw
      case rel => exact ⟨i9 + 1, by omega, by go_num, G1.out _ (and255w _), HRS.out _⟩
      case measure => simp [intOf]; omega
    · rw [show i9 = 32 by omega, Nat.sub_self, List.replicate_zero, List.append_nil, List.take_of_length_le (by rw [HDL.out]; omega)] at hb
      have z1 : (Tryd.prog.info? 23).map (·.size) = some (digest hf).length := by rw [HDL.out]; exact sizeOut
      have z2 : (Tryd.prog.info? 23).map (·.size) = some (arr .u8 (digest hf)).size := by rw [arr_size, HDL.out]; exact sizeOut
      have z3 : (arr .u8 (digest hf)).size = (arr .u8 (List.replicate 32 0)).size := by rw [arr_size, arr_size, HDL.out, List.length_replicate]
      have z4 : ((arr .u8 (digest hf)).toList.drop 0).take (digest hf).length = (digest hf).map (Value.int .u8) := by rw [arr_toList, List.drop_zero, List.take_of_length_le (by simp)]
      have HB := Lib.hid hb
      have HRE := Lib.hid hR
      have ZZ1 := Lib.hid z1
      have ZZ2 := Lib.hid z2
      have ZZ3 := Lib.hid z3
      have ZZ4 := Lib.hid z4
      clear hb hR z1 z2 z3 z4
      go_wp2_with (first | ((with_reducible refine aS 222 ?_); refine wpList_load_part rfl 23 _ rfl wo.heap.size 0 _ 23 (0, 0) _ HB.out rfl .u8 (digest hf) ZZ4.out Tryd.underlying23 rfl ZZ1.out ?_) | ((with_reducible show wpList _ _ _ (Oper.mk none _ _ _ _ _ :: _) _ _); refine wpList_store_whole rfl 23 _ _ rfl w.heap.size _ _ 23 HRE.out.res rfl rfl ZZ3.out ZZ2.out (all_arr _ _) ?_; intro w7 hb7 hk7 hz7; have HB7 := Lib.hid hb7; have HK7 := Lib.hid hk7; clear hb7 hk7 hz7))
      (try simp only [Exit.inBlock, Exit.then])
      refine bodyPost_ret (results_cell_row rfl _ _ w.heap.size 23 _ (0, 0) _ rfl HB7.out Tryd.underlying23 rfl ZZ2.out) rfl ?_
      rw [HE2.out]
      exact ⟨rfl, HRE.out.below.trans (HK7.out.toBelow HRE.out.below.size (by rintro i rfl; exact Nat.le_refl _))⟩
end Go.Proofs.YtogebegdgfdijaaDoor.Ha
