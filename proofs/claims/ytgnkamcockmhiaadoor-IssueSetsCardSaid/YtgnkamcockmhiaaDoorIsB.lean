/- issue.Of, the document's SetOf: four secrets of a seed. Conditions: what Go's integers allow; the document's table holds what its text lays. -/
import Derived.Test.YtgnkamcockmhiaaDoorIsA
import Derived.Test.YtgnkamcockmhiaaDoorRin
import Derived.Test.YtgnkamcockmhiaaDoorHaS
namespace Go.Proofs.YtgnkamcockmhiaaDoor.Is
open Go.RowKit

def nmS (i : Nat) : ByteArray := ([⟨#[114, 111, 111, 116]⟩, ⟨#[115, 105, 103, 110, 101, 114]⟩, ⟨#[100, 101, 118, 105, 99, 101]⟩, ⟨#[107, 101, 121]⟩] : List ByteArray).getD i ⟨#[]⟩
theorem nmS_le (i : Nat) : (nmS i).size ≤ 1000 := by
  unfold nmS
  match i with
  | 0 => decide
  | 1 => decide
  | 2 => decide
  | 3 => decide
  | (n + 4) => exact (show (0 : Nat) ≤ 1000 by decide)
def sec (seed : Int) (i : Nat) : List Int := secret seed (nmS i)
theorem sec_len (seed : Int) (i : Nat) : (sec seed i).length = 32 := secret_len _ _
theorem wpList_load_partG {P : Program} {ops : Array Oper} {rest : List Oper} {o : Oper} {a : Act} {w : World} {Q : Exit → Act → World → Prop} (hgd : Region.wanted o (yielded ops a.tmps) = true) (ty : TypeId) (x : Operand) (ho : o.op = .load ty x)
    (g off : Nat) (cs : Array Value) (t : TypeId) (fr : Nat × Nat) (d : TypeDesc) (hb : w.heap[g]? = some (.cells cs t fr)) (hx : a.eval x = .pointer (some ⟨g, off, none⟩)) (k : IntKind) (xs : List Int)
    (hp : (cs.toList.drop off).take xs.length = xs.map (Value.int k)) (hu : P.underlying ty = some d) (hd : d.isRow = true) (hi : (P.info? ty).map (·.size) = some xs.length)
    (h : wpList P ops Q rest (a.put o.dst (.agg (arr k xs))) w) : wpList P ops Q (o :: rest) a w := by
  unfold wpList
  rw [if_pos hgd]
  exact .inl (wp_load_mid ty x ho g off hx (xs.map (Value.int k)) d (range_part hb off _ (by rw [List.length_map]; exact hp)) hu hd (by rw [List.length_map]; exact hi) h)
/-- A part of a set of four. -/
theorem setC_part {a b c d : List Int} (ha : a.length = 32) (hb : b.length = 32) (hc : c.length = 32) (hd : d.length = 32) :
    ((setC a b c d).toList.drop 0).take a.length = a.map (Value.int .u8) ∧ ((setC a b c d).toList.drop 32).take b.length = b.map (Value.int .u8) ∧ ((setC a b c d).toList.drop 64).take c.length = c.map (Value.int .u8) ∧ ((setC a b c d).toList.drop 96).take d.length = d.map (Value.int .u8) := by
  have e : (setC a b c d).toList = a.map (Value.int .u8) ++ (b.map (Value.int .u8) ++ (c.map (Value.int .u8) ++ d.map (Value.int .u8))) := by simp [setC, arr]
  have hA : (a.map (Value.int .u8)).length = 32 := by simp [ha]
  have hB : (b.map (Value.int .u8)).length = 32 := by simp [hb]
  have hC : (c.map (Value.int .u8)).length = 32 := by simp [hc]
  have hD : (d.map (Value.int .u8)).length = 32 := by simp [hd]
  rw [e, ha, hb, hc, hd]
  generalize a.map (Value.int .u8) = A at hA ⊢
  generalize b.map (Value.int .u8) = B at hB ⊢
  generalize c.map (Value.int .u8) = C at hC ⊢
  generalize d.map (Value.int .u8) = D at hD ⊢
  refine ⟨?_, ?_, ?_, ?_⟩ <;> simp [List.drop_append, hA, hB, hC, hD, List.take_of_length_le, List.drop_eq_nil_of_le]

set_option maxRecDepth 100000 in
set_option maxHeartbeats 2000000 in
theorem of_any (seed : Int) (w : World) : Calls Tryd.prog 11 #[.int .i64 seed] w fun e w' => e = .returned (.agg (setC (sec seed 0) (sec seed 1) (sec seed 2) (sec seed 3))) ∧ Below w.heap.size w w' := by
  have hmf : ∀ (fn : Fn) (first cap : Array Value) (w : World), (Instr.makeFunc fn first cap).run Tryd.prog w = .ok (.func fn first cap) w := fun _ _ _ _ => rfl
  obtain ⟨zs, hzs⟩ : ∃ zs : List Int, zs = List.replicate 128 0 := ⟨_, rfl⟩
  have hz : ∀ w, (zeroValue 26).run Tryd.prog w = .ok (.agg (arr .u8 zs)) w := by intro w; rw [hzs]; exact zeroSet w
  have hzl : zs.length = 128 := by rw [hzs]; rfl
  have M0 := fun g w hg => clo_any ⟨#[114, 111, 111, 116]⟩ seed g w (by decide) hg
  rw [show secret seed ⟨#[114, 111, 111, 116]⟩ = sec seed 0 from rfl] at M0
  have M1 := fun g w hg => clo_any ⟨#[115, 105, 103, 110, 101, 114]⟩ seed g w (by decide) hg
  rw [show secret seed ⟨#[115, 105, 103, 110, 101, 114]⟩ = sec seed 1 from rfl] at M1
  have M2 := fun g w hg => clo_any ⟨#[100, 101, 118, 105, 99, 101]⟩ seed g w (by decide) hg
  rw [show secret seed ⟨#[100, 101, 118, 105, 99, 101]⟩ = sec seed 2 from rfl] at M2
  have M3 := fun g w hg => clo_any ⟨#[107, 101, 121]⟩ seed g w (by decide) hg
  rw [show secret seed ⟨#[107, 101, 121]⟩ = sec seed 3 from rfl] at M3
  have hbd := fun w => build_set (sec seed 0) (sec seed 1) (sec seed 2) (sec seed 3) (sec_len _ _) (sec_len _ _) (sec_len _ _) (sec_len _ _) w
  have hsz := setC_size (sec_len seed 0) (sec_len seed 1) (sec_len seed 2) (sec_len seed 3)
  have hSall : (setC (sec seed 0) (sec seed 1) (sec seed 2) (sec seed 3)).all (·.oneCell') = true := all_arr _ _
  generalize sec seed 0 = r0 at *
  generalize sec seed 1 = r1 at *
  generalize sec seed 2 = r2 at *
  generalize sec seed 3 = r3 at *
  generalize setC r0 r1 r2 r3 = S at *
  have hr0 : ((w.alloc (.cells #[.int .i64 seed] 3)).alloc (.cells (arr .u8 zs) 26)).heap[w.heap.size]? = some (.cells #[.int .i64 seed] 3 (0, 0)) := blk_alloc (blk_new w _) _
  have hr1 : ((w.alloc (.cells #[.int .i64 seed] 3)).alloc (.cells (arr .u8 zs) 26)).heap[w.heap.size + 1]? = some (.cells (arr .u8 zs) 26 (0, 0)) := by have := blk_new (w.alloc (.cells #[.int .i64 seed] 3)) (.cells (arr .u8 zs) 26); rwa [World.size_alloc] at this
  have hb0 : Below w.heap.size w ((w.alloc (.cells #[.int .i64 seed] 3)).alloc (.cells (arr .u8 zs) 26)) := ((Below.refl _ w).alloc (Nat.le_refl _) _).alloc (by simp) _
  have hall : ∀ xs : List Int, (arr .u8 xs).all (·.oneCell') = true := fun xs => all_arr _ xs
  have HZ := Lib.hid hz
  have HZL := Lib.hid hzl
  have HR0 := Lib.hid hr0
  have HR1 := Lib.hid hr1
  have HB0 := Lib.hid hb0
  have HBD := Lib.hid hbd
  have HSZ := Lib.hid hsz
  have HAS := Lib.hid hSall
  have HM0 := Lib.hid M0
  have HM1 := Lib.hid M1
  have HM2 := Lib.hid M2
  have HM3 := Lib.hid M3
  clear hz hzl hr0 hr1 hb0 hbd hsz hzs hall hSall M0 M1 M2 M3
  go_enter Tryd.func11, Tryd.ntmps11
  go_wp2_with (first | ((with_reducible show wpList _ _ _ (Oper.mk (some 2) _ _ _ _ _ :: _) _ _); refine wpList_alloc_row rfl 26 rfl _ (HZ.out _) ?_; (try simp only [World.size_alloc]); obtain ⟨wA, hwA⟩ : ∃ x, x = (w.alloc (.cells #[.int .i64 seed] 3)).alloc (.cells (arr .u8 zs) 26) := ⟨_, rfl⟩; rw [← hwA] at HR0 HR1 HB0 ⊢; clear hwA) | ((with_reducible show Calls _ _ #[.string _, _] wA _); go_at_call 26; refine (HM0.out _ _ HR0.out).mono ?_; rintro e w1 ⟨rfl, hb1⟩; have HBB1 := Lib.hid (HB0.out.trans (hb1.mono HB0.out.size)); have HRC1 := Lib.hid (Below.blk hb1 HR0.out (blk_lt HR0.out)); have HRR1 := Lib.hid (Below.blk hb1 HR1.out (blk_lt HR1.out)); clear hb1) | ((with_reducible show Calls _ _ #[.string _, _] w1 _); go_at_call 26; refine (HM1.out _ _ HRC1.out).mono ?_; rintro e w2 ⟨rfl, hb2⟩; have HBB2 := Lib.hid (HBB1.out.trans (hb2.mono HBB1.out.size)); have HRC2 := Lib.hid (Below.blk hb2 HRC1.out (blk_lt HRC1.out)); have HRR2 := Lib.hid (Below.blk hb2 HRR1.out (blk_lt HRR1.out)); clear hb2) | ((with_reducible show Calls _ _ #[.string _, _] w2 _); go_at_call 26; refine (HM2.out _ _ HRC2.out).mono ?_; rintro e w3 ⟨rfl, hb3⟩; have HBB3 := Lib.hid (HBB2.out.trans (hb3.mono HBB2.out.size)); have HRC3 := Lib.hid (Below.blk hb3 HRC2.out (blk_lt HRC2.out)); have HRR3 := Lib.hid (Below.blk hb3 HRR2.out (blk_lt HRR2.out)); clear hb3) | ((with_reducible show Calls _ _ #[.string _, _] w3 _); go_at_call 26; refine (HM3.out _ _ HRC3.out).mono ?_; rintro e w4 ⟨rfl, hb4⟩; have HBB4 := Lib.hid (HBB3.out.trans (hb4.mono HBB3.out.size)); have HRC4 := Lib.hid (Below.blk hb4 HRC3.out (blk_lt HRC3.out)); have HRR4 := Lib.hid (Below.blk hb4 HRR3.out (blk_lt HRR3.out)); clear hb4) | ((with_reducible show wpList _ _ _ (Oper.mk (some 13) _ _ _ _ _ :: _) _ _); refine wpList_build rfl 26 _ rfl #[(0, .agg (arr .u8 r0)), (1, .agg (arr .u8 r1)), (2, .agg (arr .u8 r2)), (3, .agg (arr .u8 r3))] rfl _ (HBD.out _) ?_) | ((with_reducible show wpList _ _ _ (Oper.mk none _ _ _ _ _ :: _) _ _); refine wpList_store_whole rfl 26 _ _ rfl (w.heap.size + 1) _ _ 26 HRR4.out rfl rfl (by rw [HSZ.out, arr_size, HZL.out]) (by rw [HSZ.out]; exact info_set) HAS.out ?_; intro w9 hb9 hk9 hz9; have HR9 := Lib.hid hb9; have HB9 := Lib.hid (HBB4.out.trans (hk9.toBelow HBB4.out.size (by rintro i rfl; omega))); clear hb9 hk9 hz9))
  (try simp only [Exit.inBlock, Exit.then])
  refine bodyPost_ret (results_cell_row rfl _ _ (w.heap.size + 1) 26 _ (0, 0) _ rfl HR9.out Tryd.underlying26 rfl (by rw [HSZ.out]; exact info_set)) rfl ?_
  exact ⟨rfl, HB9.out⟩
end Go.Proofs.YtgnkamcockmhiaaDoor.Is
