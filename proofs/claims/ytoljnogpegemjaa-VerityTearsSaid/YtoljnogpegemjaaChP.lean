/- ChaCha20 in plain words. No program here; no condition. -/
import Derived.Test.YtoljnogpegemjaaM1
namespace Go.Proofs.Ytoljnogpegemjaa.Ch
open Go.RowKit

def rotl (x m n : Int) : Int := bits .or .u32 (IntKind.u32.wrap (x * m)) (x / n)
def add (x y : Int) : Int := (x + y) % 4294967296
def qa (s : List Int) (a b : Nat) : List Int := s.set a (add (s.getD a 0) (s.getD b 0))
def qx (s : List Int) (d a : Nat) (m n : Int) : List Int := s.set d (rotl (bits .xor .u32 (s.getD d 0) (s.getD a 0)) m n)
def quarter (s : List Int) (a b c d : Nat) : List Int :=
  qx (qa (qx (qa (qx (qa (qx (qa s a b) d a 65536 65536) c d) b c 4096 1048576) a b) d a 256 16777216) c d) b c 128 33554432
theorem qa_len (s : List Int) (a b : Nat) : (qa s a b).length = s.length := by simp [qa]
theorem qx_len (s : List Int) (d a : Nat) (m n : Int) : (qx s d a m n).length = s.length := by simp [qx]
theorem quarter_len (s : List Int) (a b c d : Nat) : (quarter s a b c d).length = s.length := by simp [quarter, qa_len, qx_len]
def word (b : List Int) (o : Nat) : Int := bits .or .u32 (bits .or .u32 (bits .or .u32 (b.getD o 0) (b.getD (o + 1) 0 * 256)) (b.getD (o + 2) 0 * 65536)) (b.getD (o + 3) 0 * 16777216)
/-- The words in which a block begins. -/
def begin (key : List Int) (counter : Int) (nonce : List Int) : List Int :=
  [1634760805, 857760878, 2036477234, 1797285236] ++ ((List.range 8).map fun i => word key (4 * i)) ++ [counter] ++ ((List.range 3).map fun i => word nonce (4 * i))
theorem begin_len (key : List Int) (counter : Int) (nonce : List Int) : (begin key counter nonce).length = 16 := by simp [begin]
def cols (s : List Int) (k : Nat) : List Int := (List.range k).foldl (fun s i => quarter s i (4 + i) (8 + i) (12 + i)) s
def diags (s : List Int) (k : Nat) : List Int := (List.range k).foldl (fun s i => quarter s i (4 + (i + 1) % 4) (8 + (i + 2) % 4) (12 + (i + 3) % 4)) s
def doubles (s : List Int) (k : Nat) : List Int := (List.range k).foldl (fun s _ => diags (cols s 4) 4) s
theorem cols_succ (s : List Int) (k : Nat) : cols s (k + 1) = quarter (cols s k) k (4 + k) (8 + k) (12 + k) := by simp [cols, List.range_succ, List.foldl_append]
theorem diags_succ (s : List Int) (k : Nat) : diags s (k + 1) = quarter (diags s k) k (4 + (k + 1) % 4) (8 + (k + 2) % 4) (12 + (k + 3) % 4) := by simp [diags, List.range_succ, List.foldl_append]
theorem doubles_succ (s : List Int) (k : Nat) : doubles s (k + 1) = diags (cols (doubles s k) 4) 4 := by simp [doubles, List.range_succ, List.foldl_append]
theorem cols_len (s : List Int) (k : Nat) : (cols s k).length = s.length := by
  induction k with
  | zero => rfl
  | succ k ih => rw [cols_succ, quarter_len, ih]
theorem diags_len (s : List Int) (k : Nat) : (diags s k).length = s.length := by
  induction k with
  | zero => rfl
  | succ k ih => rw [diags_succ, quarter_len, ih]
theorem doubles_len (s : List Int) (k : Nat) : (doubles s k).length = s.length := by
  induction k with
  | zero => rfl
  | succ k ih => rw [doubles_succ, diags_len, cols_len, ih]
def blockOf (v s : List Int) : List Int := (List.range 64).map fun i => add (v.getD (i / 4) 0) (s.getD (i / 4) 0) / 2 ^ (8 * (i % 4)) % 256
def block (key : List Int) (counter : Int) (nonce : List Int) : List Int := blockOf (doubles (begin key counter nonce) 10) (begin key counter nonce)
theorem block_len (key : List Int) (counter : Int) (nonce : List Int) : (block key counter nonce).length = 64 := by simp [block, blockOf]
/-- The bytes turned by the stream. -/
def turn (key : List Int) (c : Int) (nonce b : List Int) : List Int := b.mapIdx fun i x => bits .xor .u8 x ((block key ((c + (i / 64 : Nat)) % 4294967296) nonce).getD (i % 64) 0)
theorem turn_len (key : List Int) (c : Int) (nonce b : List Int) : (turn key c nonce b).length = b.length := by simp [turn]

theorem blk_arr {w : World} {g : Nat} {k : IntKind} {xs : List Int} {t : TypeId} {fr : Nat × Nat} (h : w.heap[g]? = some (.cells (arr k xs) t fr)) (i : Nat) (hi : i < xs.length) : w.cell? ⟨g, i, none⟩ = some (.int k (xs.getD i 0)) := (cell_blk h i).trans (arr_get _ _ _ hi)
theorem blk_arr_set {w : World} {g : Nat} {k : IntKind} {xs : List Int} {t : TypeId} (h : w.heap[g]? = some (.cells (arr k xs) t (0, 0))) (i : Nat) (x : Int) : (w.setCell ⟨g, i, none⟩ (.int k x)).heap[g]? = some (.cells (arr k (xs.set i x)) t (0, 0)) := by
  rw [blk_setCell h]
  congr 2
  simp [arr, List.map_set]

end Go.Proofs.Ytoljnogpegemjaa.Ch
