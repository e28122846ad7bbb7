/- poly.state: how it lies in memory. No condition. -/
import Derived.Test.YtdaaigodpglnnaaPolB
import Derived.Deep.MidRow
import Derived.Deep.RegionHeld3
import Derived.Deep.DeepCutAuto
import Derived.StillTailTactics
import Derived.Laws.CopyOwn
namespace Go.Proofs.Ytdaaigodpglnnaa.Po
open Go.RowKit Lm

def stC (h r b : List Nat) (n : Nat) : Array Value := ((nar h).map (Value.int .u64) ++ ((nar r).map (Value.int .u64) ++ ((nar b).map (Value.int .u8) ++ [Value.int .i64 (n : Int)]))).toArray
/-- Block p is a state. -/
structure IsSt (w : World) (p : Nat) (h r b : List Nat) (n : Nat) : Prop where
  blk : w.heap[p]? = some (.cells (stC h r b n) 78 (0, 0))
  hl : h.length = 4
  rl : r.length = 4
  bl : b.length = 16
theorem IsSt.fr {w : World} {p n : Nat} {h r b : List Nat} (s : IsSt w p h r b n) (o : Nat) : w.frozen? ⟨p, o, none⟩ = false := free_blk s.blk o
theorem IsSt.kept {T : Nat → Prop} {w w' : World} {p n : Nat} {h r b : List Nat} (s : IsSt w p h r b n) (k : Kept T w w') (hp : ¬ T p) : IsSt w' p h r b n := ⟨k.blk s.blk hp, s.hl, s.rl, s.bl⟩
theorem IsSt.below {w w' : World} {p n : Nat} {h r b : List Nat} (s : IsSt w p h r b n) (k : Below w.heap.size w w') : IsSt w' p h r b n := ⟨Below.blk k s.blk (blk_lt s.blk), s.hl, s.rl, s.bl⟩
theorem IsSt.drewN {w : World} {p n : Nat} {h r b : List Nat} (s : IsSt w p h r b n) (k : Nat) : IsSt (w.drewN k) p h r b n := ⟨s.blk, s.hl, s.rl, s.bl⟩
theorem IsSt.drew {w : World} {p n : Nat} {h r b : List Nat} (s : IsSt w p h r b n) : IsSt w.drew p h r b n := ⟨s.blk, s.hl, s.rl, s.bl⟩
theorem IsSt.alloc {w : World} {p n : Nat} {h r b : List Nat} (s : IsSt w p h r b n) (o : Obj) : IsSt (w.alloc o) p h r b n := ⟨blk_alloc s.blk o, s.hl, s.rl, s.bl⟩
theorem mapget (k : IntKind) (xs : List Nat) (i : Nat) (hi : i < xs.length) : ((nar xs).map (Value.int k))[i]? = some (.int k ((xs.getD i 0 : Nat) : Int)) := by
  rw [← nar_get]
  have : i < (nar xs).length := by rw [nar_len]; exact hi
  simp [List.getD, this]
theorem stC_toList (h r b : List Nat) (n : Nat) : (stC h r b n).toList = (nar h).map (Value.int .u64) ++ ((nar r).map (Value.int .u64) ++ ((nar b).map (Value.int .u8) ++ [Value.int .i64 (n : Int)])) := rfl
theorem stC_size {h r b : List Nat} (n : Nat) (hl : h.length = 4) (rl : r.length = 4) (bl : b.length = 16) : (stC h r b n).size = 25 := by simp [stC, nar_len, hl, rl, bl]
theorem stC_b {h r b : List Nat} (n : Nat) (hl : h.length = 4) (rl : r.length = 4) (bl : b.length = 16) (i : Nat) (hi : i < 16) : (stC h r b n)[8 + i]? = some (.int .u8 ((b.getD i 0 : Nat) : Int)) := by
  unfold stC
  rw [List.getElem?_toArray, List.getElem?_append_right (by simp [nar_len]; omega), List.getElem?_append_right (by simp [nar_len]; omega), List.getElem?_append_left (by simp [nar_len]; omega), List.length_map, List.length_map, nar_len, nar_len, hl, rl, show 8 + i - 4 - 4 = i by omega, mapget _ _ _ (by omega)]
theorem stC_n {h r b : List Nat} (n : Nat) (hl : h.length = 4) (rl : r.length = 4) (bl : b.length = 16) : (stC h r b n)[24]? = some (.int .i64 (n : Int)) := by
  unfold stC
  rw [List.getElem?_toArray, List.getElem?_append_right (by simp [nar_len]; omega), List.getElem?_append_right (by simp [nar_len]; omega), List.getElem?_append_right (by simp [nar_len]; omega)]
  simp [nar_len, hl, rl, bl]
theorem setA (cs : List Value) (i : Nat) (v : Value) : cs.toArray.setIfInBounds i v = (cs.set i v).toArray := by simp
theorem stC_setb {h r b : List Nat} (n : Nat) (hl : h.length = 4) (rl : r.length = 4) (bl : b.length = 16) (i : Nat) (hi : i < 16) (x : Nat) : (stC h r b n).setIfInBounds (8 + i) (.int .u8 (x : Int)) = stC h r (b.set i x) n := by
  unfold stC
  rw [setA, List.set_append_right _ _ (by simp [nar_len]; omega), List.set_append_right _ _ (by simp [nar_len]; omega), List.set_append_left _ _ (by simp [nar_len]; omega), nar_set, List.map_set, List.length_map, List.length_map, nar_len, nar_len, hl, rl, show 8 + i - 4 - 4 = i by omega]
theorem stC_setn {h r b : List Nat} (n : Nat) (hl : h.length = 4) (rl : r.length = 4) (bl : b.length = 16) (x : Nat) : (stC h r b n).setIfInBounds 24 (.int .i64 (x : Int)) = stC h r b x := by
  unfold stC
  rw [setA, List.set_append_right _ _ (by simp [nar_len]; omega), List.set_append_right _ _ (by simp [nar_len]; omega), List.set_append_right _ _ (by simp [nar_len]; omega)]
  simp [nar_len, hl, rl, bl]
theorem stC_seth {h r b : List Nat} (n : Nat) (hl : h.length = 4) (h' : List Nat) (hl' : h'.length = 4) : ((stC h r b n).toList.take 0 ++ (arr .u64 (nar h')).toList ++ (stC h r b n).toList.drop (0 + (arr .u64 (nar h')).size)).toArray = stC h' r b n := by
  rw [arr_size, nar_len, hl', stC_toList, arr_toList, List.take_zero, List.nil_append, Nat.zero_add, List.drop_append_of_le_length (by simp [nar_len, hl]), List.drop_eq_nil_of_le (by simp [nar_len, hl]), List.nil_append]
  rfl
theorem stC_partr {h r b : List Nat} (n : Nat) (hl : h.length = 4) : ((stC h r b n).toList.drop 4).take (nar r).length = (nar r).map (Value.int .u64) := by
  rw [stC_toList, List.drop_append_of_le_length (by simp [nar_len, hl]), List.drop_eq_nil_of_le (by simp [nar_len, hl]), List.nil_append]
  simp
theorem stC_parth {h r b : List Nat} (n : Nat) : ((stC h r b n).toList.drop 0).take (nar h).length = (nar h).map (Value.int .u64) := by
  rw [stC_toList, List.drop_zero]
  simp
theorem stC_partb {h r b : List Nat} (n : Nat) (hl : h.length = 4) (rl : r.length = 4) (bl : b.length = 16) (k : Nat) (hk : k ≤ 16) : ((stC h r b n).toList.drop 8).take k = (nar (b.take k)).map (Value.int .u8) := by
  rw [stC_toList, ← List.append_assoc, List.drop_append_of_le_length (by simp [nar_len, hl, rl]), List.drop_eq_nil_of_le (by simp [nar_len, hl, rl]), List.nil_append, List.take_append_of_le_length (by simp [nar_len, bl]; omega), ← List.map_take]
  simp only [nar, List.map_take]
theorem IsSt.at_n {w : World} {p n : Nat} {h r b : List Nat} (s : IsSt w p h r b n) : w.cell? ⟨p, 24, none⟩ = some (.int .i64 (n : Int)) := by rw [cell_blk s.blk, stC_n n s.hl s.rl s.bl]
theorem IsSt.at_b {w : World} {p n : Nat} {h r b : List Nat} (s : IsSt w p h r b n) (i : Nat) (hi : i < 16) : w.cell? ⟨p, 8 + i, none⟩ = some (.int .u8 ((b.getD i 0 : Nat) : Int)) := by rw [cell_blk s.blk, stC_b n s.hl s.rl s.bl i hi]
theorem IsSt.set_b {w : World} {p n : Nat} {h r b : List Nat} (s : IsSt w p h r b n) (i : Nat) (hi : i < 16) (x : Nat) : IsSt (w.setCell ⟨p, 8 + i, none⟩ (.int .u8 (x : Int))) p h r (b.set i x) n :=
  ⟨by rw [blk_setCell s.blk, stC_setb n s.hl s.rl s.bl i hi], s.hl, s.rl, by rw [List.length_set]; exact s.bl⟩
theorem IsSt.set_n {w : World} {p n : Nat} {h r b : List Nat} (s : IsSt w p h r b n) (x : Nat) : IsSt (w.setCell ⟨p, 24, none⟩ (.int .i64 (x : Int))) p h r b x :=
  ⟨by rw [blk_setCell s.blk, stC_setn n s.hl s.rl s.bl], s.hl, s.rl, s.bl⟩

/-- What a call has that works at block p and makes blocks of its own. -/
structure OfSt (p : Nat) (w wr : World) (h r b : List Nat) (n : Nat) : Prop where
  st : IsSt wr p h r b n
  kept : Kept (fun x => x = p) w wr
theorem OfSt.after {p n : Nat} {w wr w' : World} {h r b : List Nat} (s : OfSt p w wr h r b n) (k : Below wr.heap.size wr w') : OfSt p w w' h r b n :=
  ⟨s.st.below k, s.kept.trans ((Kept.of_below (T := fun _ => False) k).mono (fun _ _ hf => hf.elim))⟩
theorem OfSt.alloc {p n : Nat} {w wr : World} {h r b : List Nat} (s : OfSt p w wr h r b n) (o : Obj) : OfSt p w (wr.alloc o) h r b n := ⟨s.st.alloc o, s.kept.alloc o⟩
theorem OfSt.drew {p n : Nat} {w wr : World} {h r b : List Nat} (s : OfSt p w wr h r b n) : OfSt p w wr.drew h r b n := ⟨s.st.drew, s.kept.drew⟩
theorem OfSt.far {p n : Nat} {w wr w' : World} {h r b : List Nat} {g : Nat} (s : OfSt p w wr h r b n) (k : Kept (fun i => i = g) wr w') (hg : p < g) (hw : w.heap.size ≤ g) : OfSt p w w' h r b n :=
  ⟨s.st.kept k (by omega), s.kept.trans_new k (fun i hi e => by omega)⟩
end Go.Proofs.Ytdaaigodpglnnaa.Po
