/- The hash of shb in plain words: lists of numbers. No program here; no condition. -/
import Derived.Test.YtmohdmjjkhcjoaaDoorBase
namespace Go.Proofs.YtmohdmjjkhcjoaaDoor.Hb
open Go.RowKit

def K : List Int := [4794697086780616226, 8158064640168781261, 13096744586834688815, 16840607885511220156, 4131703408338449720, 6480981068601479193, 10538285296894168987, 12329834152419229976, 15566598209576043074, 1334009975649890238, 2608012711638119052, 6128411473006802146, 8268148722764581231, 9286055187155687089, 11230858885718282805, 13951009754708518548, 16472876342353939154, 17275323862435702243, 1135362057144423861, 2597628984639134821, 3308224258029322869, 5365058923640841347, 6679025012923562964, 8573033837759648693, 10970295158949994411, 12119686244451234320, 12683024718118986047, 13788192230050041572, 14330467153632333762, 15395433587784984357, 489312712824947311, 1452737877330783856, 2861767655752347644, 3322285676063803686, 5560940570517711597, 5996557281743188959, 7280758554555802590, 8532644243296465576, 9350256976987008742, 10552545826968843579, 11727347734174303076, 12113106623233404929, 14000437183269869457, 14369950271660146224, 15101387698204529176, 15463397548674623760, 17586052441742319658, 1182934255886127544, 1847814050463011016, 2177327727835720531, 2830643537854262169, 3796741975233480872, 4115178125766777443, 5681478168544905931, 6601373596472566643, 7507060721942968483, 8399075790359081724, 8693463985226723168, 9568029438360202098, 10144078919501101548, 10430055236837252648, 11840083180663258601, 13761210420658862357, 14299343276471374635, 14566680578165727644, 15097957966210449927, 16922976911328602910, 17689382322260857208, 500013540394364858, 748580250866718886, 1242879168328830382, 1977374033974150939, 2944078676154940804, 3659926193048069267, 4368137639120453308, 4836135668995329356, 5532061633213252278, 6448918945643986474, 6902733635092675308, 7801388544844847127]
def H0 : List Int := [7640891576956012808, 13503953896175478587, 4354685564936845355, 11912009170470909681, 5840696475078001361, 11170449401992604703, 2270897969802886507, 6620516959819538809]
def rot (x n m : Int) : Int := bits .or .u64 (IntKind.u64.wrap (x * m)) (x / n)
def add (x y : Int) : Int := IntKind.u64.wrap (x + y)
def s0 (x : Int) : Int := bits .xor .u64 (bits .xor .u64 (rot x 2 9223372036854775808) (rot x 256 72057594037927936)) (x / 128)
def s1 (x : Int) : Int := bits .xor .u64 (bits .xor .u64 (rot x 524288 35184372088832) (rot x 2305843009213693952 8)) (x / 64)
def e1 (x : Int) : Int := bits .xor .u64 (bits .xor .u64 (rot x 16384 1125899906842624) (rot x 262144 70368744177664)) (rot x 2199023255552 8388608)
def e0 (x : Int) : Int := bits .xor .u64 (bits .xor .u64 (rot x 268435456 68719476736) (rot x 17179869184 1073741824)) (rot x 549755813888 33554432)
def ch (e f g : Int) : Int := bits .xor .u64 (bits .and .u64 e f) (bits .and .u64 (bits .xor .u64 (if IntKind.u64.signed = true then -1 else IntKind.u64.max) e) g)
def maj (a b c : Int) : Int := bits .xor .u64 (bits .xor .u64 (bits .and .u64 a b) (bits .and .u64 a c)) (bits .and .u64 b c)
def tx (k w : Int) (v : List Int) : Int := add (add (add (add (v.getD 7 0) (e1 (v.getD 4 0))) (ch (v.getD 4 0) (v.getD 5 0) (v.getD 6 0))) k) w
def ty (v : List Int) : Int := add (e0 (v.getD 0 0)) (maj (v.getD 0 0) (v.getD 1 0) (v.getD 2 0))
def rnd (k w : Int) (v : List Int) : List Int := [add (tx k w v) (ty v), v.getD 0 0, v.getD 1 0, v.getD 2 0, add (v.getD 3 0) (tx k w v), v.getD 4 0, v.getD 5 0, v.getD 6 0]
def next (ws : List Int) (t : Nat) : Int := add (add (add (s1 (ws.getD (t - 2) 0)) (ws.getD (t - 7) 0)) (s0 (ws.getD (t - 15) 0))) (ws.getD (t - 16) 0)
/-- The first n bytes of a word, from place o on. -/
def part (b : List Int) (o : Nat) : Nat → Int
  | 0 => 0
  | n + 1 => bits .or .u64 (IntKind.u64.wrap (part b o n * 256)) (b.getD (o + n) 0)
/-- The words behind the first i bytes. -/
def pre (b : List Int) (i : Nat) : List Int := (List.range 80).map fun j => part b (8 * j) (min 8 (i - 8 * j))
def sched (b : List Int) (n : Nat) : List Int := (List.range n).foldl (fun ws j => ws.set (16 + j) (next ws (16 + j))) (pre b 128)
def rounds (ws h : List Int) (n : Nat) : List Int := (List.range n).foldl (fun v t => rnd (K.getD t 0) (ws.getD t 0) v) h
/-- The first n words of the state are summed up. -/
def sums (h v : List Int) (n : Nat) : List Int := h.mapIdx fun i x => if i < n then add x (v.getD i 0) else x
def comp (h b : List Int) : List Int := sums h (rounds (sched b 64) h 80) 8

theorem pre_len (b : List Int) (i : Nat) : (pre b i).length = 80 := by simp [pre]
theorem pre_zero (b : List Int) : pre b 0 = List.replicate 80 0 := by
  unfold pre
  apply List.ext_getElem
  · simp
  · intro i h1 h2
    rw [List.getElem_replicate, List.getElem_map, Nat.zero_sub, Nat.min_zero]
    rfl
theorem pre_get (b : List Int) (i j : Nat) (hj : j < 80) : (pre b i).getD j 0 = part b (8 * j) (min 8 (i - 8 * j)) := by simp [pre, List.getD, hj]
theorem pre_succ (b : List Int) (i : Nat) (hi : i < 128) : pre b (i + 1) = (pre b i).set (i / 8) (bits .or .u64 (IntKind.u64.wrap ((pre b i).getD (i / 8) 0 * 256)) (b.getD i 0)) := by
  rw [pre_get _ _ _ (by omega)]
  apply List.ext_getElem
  · simp [pre]
  · intro j h1 h2
    simp only [pre, List.length_map, List.length_range] at h1
    rw [List.getElem_set]
    simp only [pre, List.getElem_map, List.getElem_range]
    by_cases e : i / 8 = j
    · subst e
      rw [if_pos rfl, show min 8 (i + 1 - 8 * (i / 8)) = i % 8 + 1 by omega, show min 8 (i - 8 * (i / 8)) = i % 8 by omega, part, show 8 * (i / 8) + i % 8 = i by omega]
    · rw [if_neg e]
      congr 1
      omega
theorem sched_succ (b : List Int) (n : Nat) : sched b (n + 1) = (sched b n).set (16 + n) (next (sched b n) (16 + n)) := by simp [sched, List.range_succ, List.foldl_append]
theorem sched_len (b : List Int) (n : Nat) : (sched b n).length = 80 := by
  induction n with
  | zero => simp [sched, pre]
  | succ n ih => rw [sched_succ, List.length_set, ih]
theorem rounds_succ (ws h : List Int) (n : Nat) : rounds ws h (n + 1) = rnd (K.getD n 0) (ws.getD n 0) (rounds ws h n) := by simp [rounds, List.range_succ, List.foldl_append]
theorem rounds_len (ws h : List Int) (hh : h.length = 8) (n : Nat) : (rounds ws h n).length = 8 := by
  cases n with
  | zero => simpa [rounds] using hh
  | succ n => rw [rounds_succ]; rfl
theorem sums_zero (h v : List Int) : sums h v 0 = h := by
  unfold sums
  apply List.ext_getElem <;> simp
theorem sums_len (h v : List Int) (n : Nat) : (sums h v n).length = h.length := by simp [sums]
theorem sums_get (h v : List Int) (n i : Nat) (hi : i < h.length) (hn : n ≤ i) : (sums h v n).getD i 0 = h.getD i 0 := by
  simp [sums, List.getD, hi]
  omega
theorem sums_succ (h v : List Int) (n : Nat) (_hn : n < h.length) : sums h v (n + 1) = (sums h v n).set n (add (h.getD n 0) (v.getD n 0)) := by
  apply List.ext_getElem
  · simp [sums]
  · intro i h1 h2
    simp only [sums, List.length_mapIdx] at h1
    rw [List.getElem_set]
    simp only [sums, List.getElem_mapIdx]
    by_cases e : n = i
    · subst e
      rw [if_pos (by omega), if_pos rfl]
      simp [List.getD, h1]
    · rw [if_neg e]
      by_cases e2 : i < n
      · rw [if_pos (by omega), if_pos e2]
      · rw [if_neg (by omega), if_neg e2]
theorem comp_len (h b : List Int) : (comp h b).length = h.length := sums_len _ _ _
theorem K_len : K.length = 80 := by decide

/-- What is under way: the state, the bytes that wait, how many they are. -/
structure S where
  h : List Int
  b : List Int
  n : Nat
def S.take (s : S) (x : Int) : S := if s.n + 1 = 128 then ⟨comp s.h (s.b.set s.n x), s.b.set s.n x, 0⟩ else ⟨s.h, s.b.set s.n x, s.n + 1⟩
def S.all (s : S) (xs : List Int) : S := xs.foldl S.take s
def S.new : S := ⟨H0, List.replicate 128 0, 0⟩
/-- The bytes behind a message of n bytes: 128, noughts, its length in bits. -/
def tail (n : Nat) : List Int := 128 :: List.replicate ((2 * 128 - 16 - 1 - n % 128) % 128) 0 ++ List.replicate (16 - 8) 0 ++ (List.range 8).map fun i => ((8 * n / 2 ^ (8 * (7 - i)) % 256 : Nat) : Int)
def digest (h : List Int) : List Int := (List.range 64).map fun i => h.getD (i / 8) 0 / 2 ^ (8 * (7 - i % 8)) % 256
def hash (m : List Int) : List Int := digest ((S.new.all (m ++ tail m.length)).h)
theorem hash_len (m : List Int) : (hash m).length = 64 := by simp [hash, digest]

structure S.Ok (s : S) : Prop where
  h : s.h.length = 8
  b : s.b.length = 128
  n : s.n < 128
  by0 : ∀ x ∈ s.b, 0 ≤ x ∧ x ≤ 255
theorem S.Ok.take {s : S} (h : s.Ok) (x : Int) (hx : 0 ≤ x ∧ x ≤ 255) : (s.take x).Ok := by
  have hn := h.n
  have hb : ∀ y ∈ s.b.set s.n x, 0 ≤ y ∧ y ≤ 255 := by
    intro y hy
    rcases List.mem_or_eq_of_mem_set hy with h1 | rfl
    · exact h.by0 y h1
    · exact hx
  unfold S.take
  split
  · exact ⟨(comp_len _ _).trans h.h, by rw [List.length_set]; exact h.b, by show 0 < _; omega, hb⟩
  · exact ⟨h.h, by rw [List.length_set]; exact h.b, by show s.n + 1 < _; omega, hb⟩
theorem S.Ok.all {s : S} (h : s.Ok) : ∀ (xs : List Int), (∀ x ∈ xs, 0 ≤ x ∧ x ≤ 255) → (s.all xs).Ok := by
  intro xs
  induction xs generalizing s with
  | nil => intro _; exact h
  | cons x xs ih => intro hx; exact ih (h.take x (hx x (by simp))) fun y hy => hx y (by simp [hy])
theorem S.Ok.new : S.new.Ok := by
  refine ⟨rfl, by simp [S.new], by simp [S.new], ?_⟩
  intro x hx
  have := List.eq_of_mem_replicate hx
  omega
theorem S.take_n (s : S) (h : s.n < 128) (x : Int) : (s.take x).n = (s.n + 1) % 128 := by
  unfold S.take
  split
  · rename_i e; rw [e]
  · show s.n + 1 = _; omega
theorem S.all_n : ∀ (xs : List Int) (s : S), s.n < 128 → (s.all xs).n = (s.n + xs.length) % 128
  | [], s, h => by show s.n = _; simp; omega
  | x :: xs, s, h => by
    have h1 : (s.take x).n < 128 := by rw [S.take_n s h]; omega
    have := S.all_n xs (s.take x) h1
    show ((s.take x).all xs).n = _
    rw [this, S.take_n s h, List.length_cons]
    omega
theorem S.all_append (s : S) (xs ys : List Int) : s.all (xs ++ ys) = (s.all xs).all ys := by simp [S.all, List.foldl_append]
theorem S.all_snoc (s : S) (xs : List Int) (x : Int) : s.all (xs ++ [x]) = (s.all xs).take x := by simp [S.all, List.foldl_append]

set_option maxRecDepth 1000000 in
theorem abc : (hash [97, 98, 99]).take 8 = [221, 175, 53, 161, 147, 97, 122, 186] := by decide +kernel

end Go.Proofs.YtmohdmjjkhcjoaaDoor.Hb
