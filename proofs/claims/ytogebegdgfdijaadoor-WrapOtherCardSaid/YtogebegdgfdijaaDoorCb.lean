/- chacha. Condition: as each theorem says. -/
import Derived.Test.YtogebegdgfdijaaDoorCa
import Derived.Test.YtogebegdgfdijaaDoorChB
set_option maxRecDepth 100000
set_option maxHeartbeats 16000000
set_option linter.unusedSimpArgs false
set_option linter.unusedVariables false
namespace Go.Proofs.YtogebegdgfdijaaDoor.Ch
open Go.RowKit
/-- A row in which i of n words are laid behind others. -/
def lay (pre : List Int) (f : Nat → Int) (i n : Nat) : List Int := pre ++ (List.range i).map f ++ List.replicate (n - i) 0
theorem lay_len (pre : List Int) (f : Nat → Int) (i n : Nat) (h : i ≤ n) : (lay pre f i n).length = pre.length + n := by simp [lay]; omega
theorem lay_set (pre : List Int) (f : Nat → Int) (i n : Nat) (h : i < n) : (lay pre f i n).set (pre.length + i) (f i) = lay pre f (i + 1) n := by
  unfold lay
  rw [List.set_append_right _ _ (by simp), show n - i = (n - (i + 1)) + 1 by omega, List.replicate_succ, List.range_succ]
  simp
theorem lay_more (pre : List Int) (f : Nat → Int) (i n : Nat) (g : Nat → Int) (_h : i ≤ n) : lay pre f i n = lay (pre ++ (List.range i).map f) g 0 (n - i) := by simp [lay]
theorem al32 : Tryd.prog.arrayLen 23 = 32 := by kernel_rfl
theorem al12 : Tryd.prog.arrayLen 40 = 12 := by kernel_rfl
theorem zero16 (w : World) : (zeroValue 91).run Tryd.prog w = .ok (.agg (arr .u32 (List.replicate 16 0))) w := by kernel_rfl
theorem build4 (w : World) : (Instr.build 91 #[(0, .int .u32 1634760805), (1, .int .u32 857760878), (2, .int .u32 2036477234), (3, .int .u32 1797285236)]).run Tryd.prog w = .ok (.agg (arr .u32 (lay [1634760805, 857760878, 2036477234, 1797285236] (fun _ => 0) 0 12))) w := by kernel_rfl
theorem size16 : (Tryd.prog.info? 91).map (·.size) = some 16 := by kernel_rfl
/-- What holds while the words are laid. -/
structure Bg (w wr : World) (key nonce s : List Int) : Prop where
  bk : wr.heap[w.heap.size]? = some (.cells (arr .u8 key) 23 (0, 0))
  bn : wr.heap[w.heap.size + 1]? = some (.cells (arr .u8 nonce) 40 (0, 0))
  br : wr.heap[w.heap.size + 1 + 1]? = some (.cells (arr .u32 (List.replicate 16 0)) 91 (0, 0))
  bs : wr.heap[w.heap.size + 1 + 1 + 1]? = some (.cells (arr .u32 s) 91 (0, 0))
  below : Below w.heap.size w wr
theorem Bg.start (w : World) (key nonce s : List Int) : Bg w ((((w.alloc (.cells (arr .u8 key) 23)).alloc (.cells (arr .u8 nonce) 40)).alloc (.cells (arr .u32 (List.replicate 16 0)) 91)).alloc (.cells (arr .u32 s) 91)) key nonce s := by
  have e1 : ∀ o, (w.alloc o).heap.size = w.heap.size + 1 := by simp
  have e2 : ∀ o p, ((w.alloc o).alloc p).heap.size = w.heap.size + 1 + 1 := by simp
  have e3 : ∀ o p q, (((w.alloc o).alloc p).alloc q).heap.size = w.heap.size + 1 + 1 + 1 := by simp
  refine ⟨blk_alloc (blk_alloc (blk_alloc (blk_new w _) _) _) _, ?_, ?_, ?_, ((((Below.refl _ w).alloc (Nat.le_refl _) _).alloc (by rw [e1]; omega) _).alloc (by rw [e2]; omega) _).alloc (by rw [e3]; omega) _⟩
  · rw [← e1]
    exact blk_alloc (blk_alloc (blk_new _ _) _) _
  · rw [← e2]
    exact blk_alloc (blk_new _ _) _
  · rw [← e3]
    exact blk_new _ _
theorem Bg.drewN {w wr : World} {key nonce s : List Int} (h : Bg w wr key nonce s) (n : Nat) : Bg w (wr.drewN n) key nonce s := ⟨h.bk, h.bn, h.br, h.bs, Go.Proofs.YtogebegdgfdijaaDoor.Below.drewN h.below n⟩
theorem Bg.set {w wr : World} {key nonce s : List Int} (h : Bg w wr key nonce s) (i : Nat) (x : Int) : Bg w (wr.setCell ⟨w.heap.size + 1 + 1 + 1, i, none⟩ (.int .u32 x)) key nonce (s.set i x) :=
  ⟨blk_setCell_ne h.bk _ (by omega), blk_setCell_ne h.bn _ (by omega), blk_setCell_ne h.br _ (by omega), blk_arr_set h.bs i x, h.below.setCell (p := ⟨w.heap.size + 1 + 1 + 1, i, none⟩) (by simp; omega) _⟩
theorem slice_l (t : TypeId) (N g i : Nat) (ht : Tryd.prog.underlying t = some (.array (Tryd.prog.arrayLen t) (Tryd.prog.elem t))) (al : Tryd.prog.arrayLen t = N) (hz : ∀ w, (sizeOf (Tryd.prog.elem t)).run Tryd.prog w = .ok 1 w) (hi : i < N) (w : World) :
    (Instr.sliceAt t (.pointer (some ⟨g, 0, none⟩)) (some (.int .i64 (i : Int))) none none).run Tryd.prog w = .ok (.slice (some ⟨g, i, none⟩) (N - i) (N - i)) w := by
  rw [run_sliceAt_array_l w t ⟨g, 0, none⟩ ht .i64 i (by omega) (by rw [al]; omega), hz, al, Result.andThen_ok]
  unfold slicedAt
  rw [Int.toNat_natCast, if_neg (by omega), Nat.mul_one]
  have e : (⟨g, 0, none⟩ : Addr).add i = ⟨g, i, none⟩ := by
    unfold Addr.add
    by_cases h0 : i = 0
    · subst h0; rfl
    · simp [h0]
  rw [e]
theorem begin_any (key nonce : List Int) (c : Int) (w : World) (hk : key.length = 32) (hn : nonce.length = 12) (bk : bytes key) (bn : bytes nonce) :
    Calls Tryd.prog 66 #[.agg (arr .u8 key), .int .u32 c, .agg (arr .u8 nonce)] w fun e w' => e = .returned (.agg (arr .u32 (begin key c nonce))) ∧ Below w.heap.size w w' := by
  have al := al32
  have al2 := al12
  have HK := Lib.hid hk
  have HN := Lib.hid hn
  have BK := Lib.hid bk
  have BN := Lib.hid bn
  have S0 := Lib.hid (Bg.start w key nonce (lay [1634760805, 857760878, 2036477234, 1797285236] (fun i => word key (4 * i)) 0 12))
  clear hk hn bk bn
  go_enter Tryd.func66, Tryd.ntmps66
  go_wp2_with fail
  go_loopw [11] (fun i wr => ∃ n : Nat, n ≤ 8 ∧ i = .int .i64 n ∧ Bg w wr key nonce (lay [1634760805, 857760878, 2036477234, 1797285236] (fun i => word key (4 * i)) n 12)) (fun i _ => 8 - (intOf i).toNat)
  case atStart => exact ⟨0, Nat.zero_le _, rfl, S0.out⟩
  clear S0
  case round =>
  obtain ⟨n, hn8, rfl, hB⟩ := hrel
  by_cases hlt : n < 8
  · have HB := Lib.hid hB
    have hsl := slice_l 23 32 w.heap.size (4 * n) (by kernel_rfl) al (fun w => by kernel_rfl) (by omega)
    rw [show ((4 * n : Nat) : Int) = 4 * (n : Int) by omega] at hsl
    have hc : ∀ j, j < 4 → wr.cell? ⟨w.heap.size, 4 * n + j, none⟩ = some (.int .u8 (key.getD (4 * n + j) 0)) := fun j hj => blk_arr hB.bk _ (by rw [HK.out]; omega)
    have HC := Lib.hid hc
    have hfr := free_blk hB.bs (4 + n)
    have hce := blk_arr hB.bs (4 + n) (by rw [lay_len _ _ _ _ (by omega)]; simp; omega)
    clear hB hc
    go_wp2_with (go_at_call 85; refine (word_any w.heap.size (4 * n) (32 - 4 * n) (32 - 4 * n) key (4 * n) wr BK.out (by omega) (HC.out 0 (by omega)) (HC.out 1 (by omega)) (HC.out 2 (by omega)) (HC.out 3 (by omega))).mono ?_; rintro e w' ⟨rfl, k, rfl⟩)
    have hd := HB.out.drewN k
    have HS := Lib.hid (hd.set (4 + n) (word key (4 * n)))
    have HL := Lib.hid (lay_set [1634760805, 857760878, 2036477234, 1797285236] (fun i => word key (4 * i)) n 12 (by omega))
    clear hsl HC hfr hce hd HB
    go_roundw
    case rel =>
      refine ⟨n + 1, by omega, by go_num, ?_⟩
      rw [← HL.out]
      exact HS.out
    case measure => simp [intOf]; omega
  · have e8 : n = 8 := by omega
    rw [e8] at hB
    obtain ⟨pre, hpre⟩ : ∃ pre, pre = [1634760805, 857760878, 2036477234, 1797285236] ++ (List.range 8).map fun i => word key (4 * i) := ⟨_, rfl⟩
    have hpl : pre.length = 12 := by rw [hpre]; simp
    rw [lay_more _ _ 8 12 (fun _ => c) (by omega), ← hpre] at hB
    have hc12 := blk_arr hB.bs 12 (by rw [lay_len _ _ _ _ (by omega)]; omega)
    have hf12 := free_blk hB.bs 12
    have hs12 := lay_set pre (fun _ => c) 0 4 (by omega)
    rw [hpl, lay_more _ _ (0 + 1) 4 (fun i => word nonce (4 * i)) (by omega)] at hs12
    have hB2 := hB.set 12 c
    rw [show (12 : Nat) = 12 + 0 by rfl, hs12] at hB2
    obtain ⟨pre2, hpre2⟩ : ∃ pre2, pre2 = pre ++ (List.range (0 + 1)).map fun _ => c := ⟨_, rfl⟩
    rw [← hpre2] at hB2
    have hpl2 : pre2.length = 13 := by rw [hpre2]; simp; omega
    have hend : pre2 ++ ((List.range 3).map fun i => word nonce (4 * i)) = begin key c nonce := by rw [hpre2, hpre]; rfl
    have HB2 := Lib.hid hB2
    have HP2 := Lib.hid hpl2
    have HE := Lib.hid hend
    clear hB hs12 hB2 hpre hpre2 hpl hpl2 hend e8
    go_wp2_with fail
    clear hc12 hf12
    go_loopw [24] (fun i wr => ∃ n : Nat, n ≤ 3 ∧ i = .int .i64 n ∧ Bg w wr key nonce (lay pre2 (fun i => word nonce (4 * i)) n 3)) (fun i _ => 3 - (intOf i).toNat)
    case atStart => exact ⟨0, Nat.zero_le _, rfl, HB2.out⟩
    clear HB2
    case round =>
    obtain ⟨n, hn8, rfl, hB⟩ := hrel
    by_cases hlt : n < 3
    · have HB := Lib.hid hB
      have hsl := slice_l 40 12 (w.heap.size + 1) (4 * n) (by kernel_rfl) al2 (fun w => by kernel_rfl) (by omega)
      rw [show ((4 * n : Nat) : Int) = 4 * (n : Int) by omega] at hsl
      have hc : ∀ j, j < 4 → wr.cell? ⟨w.heap.size + 1, 4 * n + j, none⟩ = some (.int .u8 (nonce.getD (4 * n + j) 0)) := fun j hj => blk_arr hB.bn _ (by rw [HN.out]; omega)
      have HC := Lib.hid hc
      have hfr := free_blk hB.bs (13 + n)
      have hce := blk_arr hB.bs (13 + n) (by rw [lay_len _ _ _ _ (by omega), HP2.out]; omega)
      clear hB hc
      go_wp2_with (go_at_call 85; refine (word_any (w.heap.size + 1) (4 * n) (12 - 4 * n) (12 - 4 * n) nonce (4 * n) wr BN.out (by omega) (HC.out 0 (by omega)) (HC.out 1 (by omega)) (HC.out 2 (by omega)) (HC.out 3 (by omega))).mono ?_; rintro e w' ⟨rfl, k, rfl⟩)
      have hd := HB.out.drewN k
      have hl := lay_set pre2 (fun i => word nonce (4 * i)) n 3 (by omega)
      rw [HP2.out] at hl
      have HS := Lib.hid (hd.set (13 + n) (word nonce (4 * n)))
      have HL := Lib.hid hl
      clear hsl HC hfr hce hd HB hl
      go_roundw
      case rel =>
        refine ⟨n + 1, by omega, by go_num, ?_⟩
        rw [← HL.out]
        exact HS.out
      case measure => simp [intOf]; omega
    · obtain rfl : n = 3 := by omega
      rw [show lay pre2 (fun i => word nonce (4 * i)) 3 3 = begin key c nonce by rw [← HE.out]; simp [lay]] at hB
      obtain ⟨s, hs⟩ : ∃ s, s = begin key c nonce := ⟨_, rfl⟩
      rw [← hs] at hB
      have HSS := Lib.hid hs
      have hsl : s.length = 16 := by rw [hs]; exact begin_len _ _ _
      have hp : ((arr .u32 s).toList.drop 0).take s.length = s.map (Value.int .u32) := by rw [List.drop_zero, arr_toList, List.take_of_length_le (by simp)]
      have z1 : (Tryd.prog.info? 91).map (·.size) = some s.length := by rw [hsl]; exact size16
      have z2 : (Tryd.prog.info? 91).map (·.size) = some (arr .u32 s).size := by rw [arr_size]; exact z1
      have z3 : (arr .u32 s).size = (arr .u32 (List.replicate 16 0)).size := by rw [arr_size, arr_size, hsl, List.length_replicate]
      have HB := Lib.hid hB
      have HP := Lib.hid hp
      have Z1 := Lib.hid z1
      have Z2 := Lib.hid z2
      have Z3 := Lib.hid z3
      clear hB hp z1 z2 z3 hs hsl
      go_wp2_with (first | ((with_reducible refine aS 35 ?_); refine wpList_load_part rfl 91 _ rfl (w.heap.size + 1 + 1 + 1) 0 _ 91 (0, 0) _ HB.out.bs rfl .u32 s HP.out Tryd.underlying91 rfl Z1.out ?_) | ((with_reducible show wpList _ _ _ (Oper.mk none _ _ _ _ _ :: _) _ _); refine wpList_store_whole rfl 91 _ _ rfl (w.heap.size + 1 + 1) _ _ 91 HB.out.br rfl rfl Z3.out Z2.out (all_arr _ _) ?_; intro w7 hb7 hk7 hz7; have HB7 := Lib.hid hb7; have HK7 := Lib.hid hk7; clear hb7 hk7 hz7))
      (try simp only [Exit.inBlock, Exit.then])
      refine bodyPost_ret (results_cell_row rfl _ _ (w.heap.size + 1 + 1) 91 _ (0, 0) _ rfl HB7.out Tryd.underlying91 rfl Z2.out) rfl ?_
      rw [HSS.out]
      exact ⟨rfl, HB.out.below.trans (HK7.out.toBelow HB.out.below.size (by rintro i rfl; omega))⟩
end Go.Proofs.YtogebegdgfdijaaDoor.Ch
namespace Go.Proofs.YtogebegdgfdijaaDoor.Ch
open Go.RowKit
theorem zero64 (w : World) : (zeroValue 65).run Tryd.prog w = .ok (.agg (arr .u8 (List.replicate 64 0))) w := by kernel_rfl
theorem size64 : (Tryd.prog.info? 65).map (·.size) = some 64 := by kernel_rfl
theorem size32 : (Tryd.prog.info? 23).map (·.size) = some 32 := by kernel_rfl
theorem size12 : (Tryd.prog.info? 40).map (·.size) = some 12 := by kernel_rfl
theorem quarter_at (p : Nat) (s : List Int) (a b c d : Nat) (ia ib ic id : Int) (w : World) (hp : w.heap[p]? = some (.cells (arr .u32 s) 91 (0, 0))) (hl : s.length = 16) (ha : a < 16) (hb : b < 16) (hc : c < 16) (hd : d < 16) (ea : ia = a) (eb : ib = b) (ec : ic = c) (ed : id = d) :
    Calls Tryd.prog 67 #[.pointer (some ⟨p, 0, none⟩), .int .i64 ia, .int .i64 ib, .int .i64 ic, .int .i64 id] w fun e w' => e = .returned (.tuple #[]) ∧ w'.heap[p]? = some (.cells (arr .u32 (quarter s a b c d)) 91 (0, 0)) ∧ Kept (fun x => x = p) w w' := by
  subst ea eb ec ed
  exact quarter_any p s a b c d w hp hl ha hb hc hd
/-- What holds while a block is turned. -/
structure Bk (w wr : World) (g h : Nat) (s v : List Int) : Prop where
  br : wr.heap[w.heap.size + 1 + 1]? = some (.cells (arr .u8 (List.replicate 64 0)) 65 (0, 0))
  bs : wr.heap[g]? = some (.cells (arr .u32 s) 91 (0, 0))
  bv : wr.heap[h]? = some (.cells (arr .u32 v) 91 (0, 0))
  below : Below w.heap.size w wr
  lt : w.heap.size + 1 + 1 < g
  gh : g < h
theorem Bk.kept {w wr w' : World} {g h : Nat} {s v v' : List Int} (b : Bk w wr g h s v) (k : Kept (fun x => x = h) wr w') (hv : w'.heap[h]? = some (.cells (arr .u32 v') 91 (0, 0))) : Bk w w' g h s v' := by
  have h1 := b.lt
  have h2 := b.gh
  exact ⟨k.blk b.br (by omega), k.blk b.bs (by omega), hv, b.below.trans (k.toBelow b.below.size (by rintro i rfl; omega)), h1, h2⟩
theorem Bk.drew {w wr : World} {g h : Nat} {s v : List Int} (b : Bk w wr g h s v) : Bk w wr.drew g h s v := ⟨b.br, b.bs, b.bv, ⟨b.below.os, b.below.tape, b.below.output, b.below.size, b.below.block⟩, b.lt, b.gh⟩
theorem Bk.alloc {w wr : World} {g h : Nat} {s v : List Int} (b : Bk w wr g h s v) (o : Obj) : Bk w (wr.alloc o) g h s v := ⟨blk_alloc b.br o, blk_alloc b.bs o, blk_alloc b.bv o, b.below.alloc b.below.size o, b.lt, b.gh⟩
theorem Bk.out {w wr : World} {g h : Nat} {s v : List Int} (b : Bk w wr g h s v) (k i : Nat) (u : Value) (hk : h < k) : Bk w (wr.setCell ⟨k, i, none⟩ u) g h s v := by
  have h1 := b.lt
  have h2 := b.gh
  exact ⟨blk_setCell_ne b.br _ (by omega), blk_setCell_ne b.bs _ (by omega), blk_setCell_ne b.bv _ (by omega), b.below.setCell (p := ⟨k, i, none⟩) (by simp; omega) _, h1, h2⟩
theorem out_set (v s : List Int) (i : Nat) (h : i < 64) :
    ((blockOf v s).take i ++ List.replicate (64 - i) (0 : Int)).set i (add (v.getD (i / 4) 0) (s.getD (i / 4) 0) / 2 ^ (8 * (i % 4)) % 256) = (blockOf v s).take (i + 1) ++ List.replicate (64 - (i + 1)) 0 := by
  have hl : (blockOf v s).length = 64 := by simp [blockOf]
  rw [List.set_append_right _ _ (by simp [hl]; omega), show 64 - i = (64 - (i + 1)) + 1 by omega, List.replicate_succ, show i - ((blockOf v s).take i).length = 0 by simp [hl]; omega, List.set_cons_zero, take_snoc (blockOf v s) i 0 (by omega)]
  simp [blockOf, h]
theorem block_any (key nonce : List Int) (c : Int) (w : World) (hk : key.length = 32) (hn : nonce.length = 12) (bk : bytes key) (bn : bytes nonce) :
    Calls Tryd.prog 38 #[.agg (arr .u8 key), .int .i64 c, .agg (arr .u8 nonce)] w fun e w' => e = .returned (.agg (arr .u8 (block key (c % 4294967296) nonce))) ∧ Below w.heap.size w w' := by
  have HK := Lib.hid hk
  have HN := Lib.hid hn
  have BK := Lib.hid bk
  have BN := Lib.hid bn
  obtain ⟨w0, hw0⟩ : ∃ w0, w0 = ((w.alloc (.cells (arr .u8 key) 23)).alloc (.cells (arr .u8 nonce) 40)).alloc (.cells (arr .u8 (List.replicate 64 0)) 65) := ⟨_, rfl⟩
  have e1 : ∀ o, (w.alloc o).heap.size = w.heap.size + 1 := by simp
  have e2 : ∀ o p, ((w.alloc o).alloc p).heap.size = w.heap.size + 1 + 1 := by simp
  have f1 : w0.heap[w.heap.size]? = some (.cells (arr .u8 key) 23 (0, 0)) := by rw [hw0]; exact blk_alloc (blk_alloc (blk_new w _) _) _
  have f2 : w0.heap[w.heap.size + 1]? = some (.cells (arr .u8 nonce) 40 (0, 0)) := by rw [hw0, ← e1 (.cells (arr .u8 key) 23)]; exact blk_alloc (blk_new _ _) _
  have f3 : w0.heap[w.heap.size + 1 + 1]? = some (.cells (arr .u8 (List.replicate 64 0)) 65 (0, 0)) := by rw [hw0, ← e2 (.cells (arr .u8 key) 23) (.cells (arr .u8 nonce) 40)]; exact blk_new _ _
  have f4 : Below w.heap.size w w0 := by rw [hw0]; exact (((Below.refl _ w).alloc (Nat.le_refl _) _).alloc (by rw [e1]; omega) _).alloc (by rw [e2]; omega) _
  have p1 : ((arr .u8 key).toList.drop 0).take key.length = key.map (Value.int .u8) := by rw [List.drop_zero, arr_toList, List.take_of_length_le (by simp)]
  have p2 : ((arr .u8 nonce).toList.drop 0).take nonce.length = nonce.map (Value.int .u8) := by rw [List.drop_zero, arr_toList, List.take_of_length_le (by simp)]
  have z1 : (Tryd.prog.info? 23).map (·.size) = some key.length := by rw [hk]; exact size32
  have z2 : (Tryd.prog.info? 40).map (·.size) = some nonce.length := by rw [hn]; exact size12
  obtain ⟨s, hs⟩ : ∃ s, s = begin key (c % 4294967296) nonce := ⟨_, rfl⟩
  have hsl : s.length = 16 := by rw [hs]; exact begin_len _ _ _
  have y1 : (Tryd.prog.info? 91).map (·.size) = some (arr .u32 s).size := by rw [arr_size, hsl]; exact size16
  have y2 : (Tryd.prog.info? 91).map (·.size) = some s.length := by rw [hsl]; exact size16
  have y3 : (arr .u32 s).size = (arr .u32 (List.replicate 16 0)).size := by rw [arr_size, arr_size, hsl, List.length_replicate]
  have p3 : ((arr .u32 s).toList.drop 0).take s.length = s.map (Value.int .u32) := by rw [List.drop_zero, arr_toList, List.take_of_length_le (by simp)]
  have hfin : blockOf (doubles s 10) s = block key (c % 4294967296) nonce := by rw [hs]; rfl
  have HW0 := Lib.hid hw0
  have F1 := Lib.hid f1
  have F2 := Lib.hid f2
  have F3 := Lib.hid f3
  have F4 := Lib.hid f4
  have P1 := Lib.hid p1
  have P2 := Lib.hid p2
  have P3 := Lib.hid p3
  have Z1 := Lib.hid z1
  have Z2 := Lib.hid z2
  have Y1 := Lib.hid y1
  have Y2 := Lib.hid y2
  have Y3 := Lib.hid y3
  have HS := Lib.hid hs
  have HSL := Lib.hid hsl
  have HF := Lib.hid hfin
  clear hk hn bk bn hw0 e1 e2 f1 f2 f3 f4 p1 p2 p3 z1 z2 y1 y2 y3 hs hsl hfin
  go_enter Tryd.func38, Tryd.ntmps38
  go_wp2_with (first | ((with_reducible refine aS 6 ?_); refine wpList_alloc_row rfl 65 rfl _ (zero64 _) ?_; rw [← HW0.out]) | ((with_reducible refine aS 13 ?_); refine wpList_load_part rfl 23 _ rfl w.heap.size 0 _ 23 (0, 0) _ F1.out rfl .u8 key P1.out Tryd.underlying23 rfl Z1.out ?_) | ((with_reducible refine aS 16 ?_); refine wpList_load_part rfl 40 _ rfl (w.heap.size + 1) 0 _ 40 (0, 0) _ F2.out rfl .u8 nonce P2.out Tryd.underlying40 rfl Z2.out ?_) | (go_at_call 66; refine (begin_any key nonce _ w0 HK.out HN.out BK.out BN.out).mono ?_; rintro e w1 ⟨rfl, hb1⟩; rw [← HS.out]; have HB1 := Lib.hid hb1; clear hb1) | ((with_reducible refine aS 7 ?_); refine wpList_alloc_row rfl 91 rfl _ (zero16 _) ?_) | ((with_reducible show wpList _ _ _ (Oper.mk none (.store _ (.tmp 7) _) _ _ _ _ :: _) _ _); refine wpList_store_whole rfl 91 _ _ rfl w1.heap.size _ _ 91 (blk_new w1 _) rfl rfl Y3.out Y1.out (all_arr _ _) ?_; intro w2 hb2 hk2 hz2; have HB2 := Lib.hid hb2; have HK2 := Lib.hid hk2; have HZ2 : Hid (w2.heap.size = w1.heap.size + 1) := Lib.hid (hz2.trans (by simp)); clear hb2 hk2 hz2) | ((with_reducible refine aS 18 ?_); refine wpList_load_part rfl 91 _ rfl w1.heap.size 0 _ 91 (0, 0) _ HB2.out rfl .u32 s P3.out Tryd.underlying91 rfl Y2.out ?_) | ((with_reducible refine aS 8 ?_); refine wpList_alloc_row rfl 91 rfl _ (zero16 _) ?_) | ((with_reducible show wpList _ _ _ (Oper.mk none (.store _ (.tmp 8) _) _ _ _ _ :: _) _ _); refine wpList_store_whole rfl 91 _ _ rfl w2.heap.size _ _ 91 (blk_new w2 _) rfl rfl Y3.out Y1.out (all_arr _ _) ?_; intro w3 hb3 hk3 hz3; have HB3 := Lib.hid hb3; have HK3 := Lib.hid hk3; clear hb3 hk3 hz3))
  have hB : Bk w w3 w1.heap.size w2.heap.size s s := by
    have h0 := blk_lt F3.out
    have h1 := HB1.out.size
    have h2 := HZ2.out
    have b1 : Below w.heap.size w w1 := F4.out.trans (HB1.out.mono F4.out.size)
    refine ⟨HK3.out.blk (blk_alloc (HK2.out.blk (blk_alloc (Below.blk HB1.out F3.out h0) _) (by omega)) _) (by omega), HK3.out.blk (blk_alloc HB2.out _) (by omega), HB3.out, ?_, by omega, by omega⟩
    have b2 := b1.trans ((b1.alloc b1.size (.cells (arr .u32 (List.replicate 16 0)) 91)).size |> fun _ => HK2.out.toBelow (B := w.heap.size) (by simp; omega) (by rintro i rfl; omega) |> fun b => (((Below.refl w.heap.size w1).alloc (by omega) _).trans b))
    exact b2.trans (((Below.refl w.heap.size w2).alloc (by omega) _).trans (HK3.out.toBelow (B := w.heap.size) (by simp; omega) (by rintro i rfl; omega)))
  have HB0 := Lib.hid hB
  clear hB HB2 HB3 HK2 HK3 HZ2 HB1 F1 F2 F3 F4 HW0 P1 P2
  generalize w1.heap.size = g at HB0 ⊢
  generalize w2.heap.size = h at HB0 ⊢
  go_loopw [19] (fun i wr => ∃ n : Nat, n ≤ 10 ∧ i = .int .i64 n ∧ Bk w wr g h s (doubles s n)) (fun i _ => 10 - (intOf i).toNat)
  case atStart => exact ⟨0, Nat.zero_le _, rfl, HB0.out⟩
  clear HB0
  case round =>
  obtain ⟨n, hn8, rfl, hB⟩ := hrel
  by_cases hlt : n < 10
  · obtain ⟨v, hv⟩ : ∃ v, v = doubles s n := ⟨_, rfl⟩
    rw [← hv] at hB
    have hvl : v.length = 16 := by rw [hv, doubles_len]; exact HSL.out
    have HV := Lib.hid hv
    have HVL := Lib.hid hvl
    have HB0 := Lib.hid hB
    clear hv hvl hB
    go_wp2_with fail
    generalize Value.bool (decide ((n : Int) < 10)) = u20
    go_loopw [21] (fun i wr => ∃ j : Nat, j ≤ 4 ∧ i = .int .i64 j ∧ Bk w wr g h s (cols v j)) (fun i _ => 4 - (intOf i).toNat)
    case atStart => exact ⟨0, Nat.zero_le _, rfl, HB0.out⟩
    clear HB0
    case round =>
    obtain ⟨j, hj4, rfl, hB⟩ := hrel
    by_cases hltj : j < 4
    · have HB0 := Lib.hid hB
      clear hB
      go_wp2_with (go_at_call 67; refine (quarter_at h (cols v j) j (4 + j) (8 + j) (12 + j) _ _ _ _ wr HB0.out.bv (by rw [cols_len]; exact HVL.out) (by omega) (by omega) (by omega) (by omega) (by omega) (by omega) (by omega) (by omega)).mono ?_; rintro e w4 ⟨rfl, hb4, hk4⟩; have HB4 := Lib.hid hb4; have HK4 := Lib.hid hk4; clear hb4 hk4)
      have HB5 := Lib.hid (HB0.out.kept HK4.out HB4.out)
      rw [← cols_succ] at HB5
      clear HB0 HB4 HK4
      go_roundw
      case rel => exact ⟨j + 1, by omega, by go_num, HB5.out⟩
      case measure => simp [intOf]; omega
    · have e4 : j = 4 := by omega
      rw [e4] at hB
      obtain ⟨v4, hv4⟩ : ∃ v4, v4 = cols v 4 := ⟨_, rfl⟩
      rw [← hv4] at hB
      have hvl4 : v4.length = 16 := by rw [hv4, cols_len]; exact HVL.out
      have HV4 := Lib.hid hv4
      have HVL4 := Lib.hid hvl4
      have HB0 := Lib.hid hB
      clear hB e4 hv4 hvl4
      go_wp2_with fail
      generalize Value.bool (decide ((j : Int) < 4)) = u22
      go_loopw [33] (fun i wr => ∃ j : Nat, j ≤ 4 ∧ i = .int .i64 j ∧ Bk w wr g h s (diags v4 j)) (fun i _ => 4 - (intOf i).toNat)
      case atStart => exact ⟨0, Nat.zero_le _, rfl, HB0.out⟩
      clear HB0
      case round =>
      obtain ⟨j, hj4, rfl, hB⟩ := hrel
      by_cases hltj : j < 4
      · have HB0 := Lib.hid hB
        clear hB
        go_wp2_with (go_at_call 67; refine (quarter_at h (diags v4 j) j (4 + (j + 1) % 4) (8 + (j + 2) % 4) (12 + (j + 3) % 4) _ _ _ _ wr HB0.out.bv (by rw [diags_len]; exact HVL4.out) (by omega) (by omega) (by omega) (by omega) (by omega) (by omega) (by omega) (by omega)).mono ?_; rintro e w4 ⟨rfl, hb4, hk4⟩; have HB4 := Lib.hid hb4; have HK4 := Lib.hid hk4; clear hb4 hk4)
        have HB5 := Lib.hid (HB0.out.kept HK4.out HB4.out)
        rw [← diags_succ] at HB5
        clear HB0 HB4 HK4
        go_roundw
        case rel => exact ⟨j + 1, by omega, by go_num, HB5.out⟩
        case measure => simp [intOf]; omega
      · have e4 : j = 4 := by omega
        rw [e4] at hB
        have HB5 : Hid (Bk w wr g h s (doubles s (n + 1))) := Lib.hid (by rw [doubles_succ, ← HV.out, ← HV4.out]; exact hB)
        clear hB e4
        go_wp2_with fail
        go_roundw
        case rel => exact ⟨n + 1, by omega, by go_num, HB5.out⟩
        case measure => simp [intOf]; omega
  · have e4 : n = 10 := by omega
    rw [e4] at hB
    obtain ⟨v, hv⟩ : ∃ v, v = doubles s 10 := ⟨_, rfl⟩
    have hvl : v.length = 16 := by rw [hv, doubles_len]; exact HSL.out
    rw [← hv] at hB
    have hfin := HF.out
    rw [← hv] at hfin
    have HF2 := Lib.hid hfin
    have HVL := Lib.hid hvl
    have HB5 := Lib.hid (hB.alloc (.cells (arr .u8 (List.replicate 64 0)) 65))
    have HX : Hid ((wr.alloc (.cells (arr .u8 (List.replicate 64 0)) 65)).heap[wr.heap.size]? = some (.cells (arr .u8 ((blockOf v s).take 0 ++ List.replicate (64 - 0) 0)) 65 (0, 0))) := Lib.hid (blk_new _ _)
    have HLT : Hid (h < wr.heap.size) := Lib.hid (blk_lt hB.bv)
    clear hv hvl hB hfin HF e4
    go_wp2_with ((with_reducible refine aS 11 ?_); refine wpList_alloc_row rfl 65 rfl _ (zero64 _) ?_)
    obtain ⟨q, hq⟩ : ∃ q, q = wr.heap.size := ⟨_, rfl⟩
    rw [← hq] at HX HLT ⊢
    clear hq
    generalize Value.bool (decide ((n : Int) < 10)) = u20
    go_loopw [52] (fun i wr => ∃ i9 : Nat, i9 ≤ 64 ∧ i = .int .i64 i9 ∧ wr.heap[q]? = some (.cells (arr .u8 ((blockOf v s).take i9 ++ List.replicate (64 - i9) 0)) 65 (0, 0)) ∧ Bk w wr g h s v) (fun i _ => 64 - (intOf i).toNat)
    case atStart => exact ⟨0, Nat.zero_le _, rfl, HX.out, HB5.out⟩
    clear HX HB5
    case round =>
    obtain ⟨i9, hi9, rfl, hb, hB⟩ := hrel
    have hbl : (blockOf v s).length = 64 := by simp [blockOf]
    by_cases hlt9 : i9 < 64
    · have y0 := blk_arr hB.bv (i9 / 4) (by rw [HVL.out]; omega)
      have y1 := blk_arr hB.bs (i9 / 4) (by rw [HSL.out]; omega)
      have y2 := free_blk hb i9
      have y3 := blk_arr hb i9 (by simp [hbl]; omega)
      have G1 : Hid (∀ u, u = add (v.getD (i9 / 4) 0) (s.getD (i9 / 4) 0) / 2 ^ (8 * (i9 % 4)) % 256 → (wr.setCell ⟨q, i9, none⟩ (.int .u8 u)).heap[q]? = some (.cells (arr .u8 ((blockOf v s).take (i9 + 1) ++ List.replicate (64 - (i9 + 1)) 0)) 65 (0, 0))) := Lib.hid (by
        rintro u rfl
        rw [blk_arr_set hb, out_set v s i9 hlt9])
      have HRS := Lib.hid (fun u => hB.out q i9 u HLT.out)
      have e1 : (8 * ((i9 : Int) % 4)).toNat = 8 * (i9 % 4) := by omega
      have e2 : 0 ≤ 8 * ((i9 : Int) % 4) := by omega
      have e3 : 8 * ((i9 : Int) % 4) ≤ 24 := by omega
      clear hb hB hbl
      generalize v.getD (i9 / 4) 0 = x at y0 G1
      generalize s.getD (i9 / 4) 0 = y at y1 G1
      go_wp2_with fail
      go_region
      clear e1 e2 e3 y0 y1 y2 y3
      go_wp2_with fail
      go_roundw
      case rel => exact ⟨i9 + 1, by omega, by go_num, G1.out _ rfl, (HRS.out _).drew⟩
      case measure => simp [intOf]; omega
    · have e9 : i9 = 64 := by omega
      rw [e9, Nat.sub_self, List.replicate_zero, List.append_nil, List.take_of_length_le (by omega)] at hb
      obtain ⟨bb, hbb⟩ : ∃ bb, bb = blockOf v s := ⟨_, rfl⟩
      rw [← hbb] at hb hbl
      have z1 : (Tryd.prog.info? 65).map (·.size) = some bb.length := by rw [hbl]; exact size64
      have z2 : (Tryd.prog.info? 65).map (·.size) = some (arr .u8 bb).size := by rw [arr_size]; exact z1
      have z3 : (arr .u8 bb).size = (arr .u8 (List.replicate 64 0)).size := by rw [arr_size, arr_size, hbl, List.length_replicate]
      have z4 : ((arr .u8 bb).toList.drop 0).take bb.length = bb.map (Value.int .u8) := by rw [arr_toList, List.drop_zero, List.take_of_length_le (by simp)]
      have HB := Lib.hid hb
      have HBB := Lib.hid hbb
      have HRE := Lib.hid hB
      have ZZ1 := Lib.hid z1
      have ZZ2 := Lib.hid z2
      have ZZ3 := Lib.hid z3
      have ZZ4 := Lib.hid z4
      clear hb hB z1 z2 z3 z4 e9 hbb hbl
      go_wp2_with (first | ((with_reducible refine aS 72 ?_); refine wpList_load_part rfl 65 _ rfl q 0 _ 65 (0, 0) _ HB.out rfl .u8 bb ZZ4.out Tryd.underlying65 rfl ZZ1.out ?_) | ((with_reducible show wpList _ _ _ (Oper.mk none _ _ _ _ _ :: _) _ _); refine wpList_store_whole rfl 65 _ _ rfl (w.heap.size + 1 + 1) _ _ 65 HRE.out.br rfl rfl ZZ3.out ZZ2.out (all_arr _ _) ?_; intro w7 hb7 hk7 hz7; have HB7 := Lib.hid hb7; have HK7 := Lib.hid hk7; clear hb7 hk7 hz7))
      (try simp only [Exit.inBlock, Exit.then])
      refine bodyPost_ret (results_cell_row rfl _ _ (w.heap.size + 1 + 1) 65 _ (0, 0) _ rfl HB7.out Tryd.underlying65 rfl ZZ2.out) rfl ?_
      rw [HBB.out, HF2.out]
      exact ⟨rfl, HRE.out.below.trans (HK7.out.toBelow HRE.out.below.size (by rintro i rfl; omega))⟩
end Go.Proofs.YtogebegdgfdijaaDoor.Ch
namespace Go.Proofs.YtogebegdgfdijaaDoor.Ch
open Go.RowKit
theorem and255w (y : Int) : IntKind.u8.wrap (bits .and .u32 y 255) = y % 256 := by
  have h2 : (BitVec.ofInt 32 (255 : Int)).toNat = 255 := by decide
  have e : ∀ x : Nat, x &&& 255 = x % 256 := fun x => Nat.and_two_pow_sub_one_eq_mod x 8
  show IntKind.u8.wrap (IntKind.u32.wrap ((BitVec.ofInt 32 y &&& BitVec.ofInt 32 (255 : Int)).toNat : Int)) = _
  rw [BitVec.toNat_and, h2, e, BitVec.toNat_ofInt, IntKind.wrap_u8, IntKind.wrap_u32]
  omega
theorem and32i (c : Int) : bits .and .i64 c 4294967295 = c % 4294967296 := by
  have h2 : (BitVec.ofInt 64 (4294967295 : Int)).toNat = 4294967295 := by decide
  have e : ∀ x : Nat, x &&& 4294967295 = x % 4294967296 := fun x => Nat.and_two_pow_sub_one_eq_mod x 32
  show IntKind.i64.wrap ((BitVec.ofInt 64 c &&& BitVec.ofInt 64 (4294967295 : Int)).toNat : Int) = _
  rw [BitVec.toNat_and, h2, e, BitVec.toNat_ofInt, IntKind.wrap_i64]
  omega
theorem rquarter_at (p : Nat) (s : List Int) (a b c d : Nat) (ia ib ic id : Int) (w : World) (hp : w.heap[p]? = some (.cells (arr .u32 s) 91 (0, 0))) (hl : s.length = 16) (ha : a < 16) (hb : b < 16) (hc : c < 16) (hd : d < 16) (ea : ia = a) (eb : ib = b) (ec : ic = c) (ed : id = d) :
    Calls Tryd.prog 81 #[.pointer (some ⟨p, 0, none⟩), .int .i64 ia, .int .i64 ib, .int .i64 ic, .int .i64 id] w fun e w' => e = .returned (.tuple #[]) ∧ w'.heap[p]? = some (.cells (arr .u32 (quarter s a b c d)) 91 (0, 0)) ∧ Kept (fun x => x = p) w w' := by
  subst ea eb ec ed
  exact rquarter_any p s a b c d w hp hl ha hb hc hd
theorem dbl (v : List Int) : quarter (quarter (quarter (quarter (quarter (quarter (quarter (quarter v 0 4 8 12) 1 5 9 13) 2 6 10 14) 3 7 11 15) 0 5 10 15) 1 6 11 12) 2 7 8 13) 3 4 9 14 = diags (cols v 4) 4 := by simp [cols, diags, List.range_succ]
theorem Bk.drewN {w wr : World} {g h : Nat} {s v : List Int} (b : Bk w wr g h s v) (n : Nat) : Bk w (wr.drewN n) g h s v := ⟨b.br, b.bs, b.bv, ⟨b.below.os, b.below.tape, b.below.output, b.below.size, b.below.block⟩, b.lt, b.gh⟩
/-- What holds while the words are laid. -/
structure Bo (w wr : World) (key nonce s : List Int) : Prop where
  bk : wr.heap[w.heap.size]? = some (.cells (arr .u8 key) 23 (0, 0))
  bn : wr.heap[w.heap.size + 1]? = some (.cells (arr .u8 nonce) 40 (0, 0))
  br : wr.heap[w.heap.size + 1 + 1]? = some (.cells (arr .u8 (List.replicate 64 0)) 65 (0, 0))
  bs : wr.heap[w.heap.size + 1 + 1 + 1]? = some (.cells (arr .u32 s) 91 (0, 0))
  below : Below w.heap.size w wr
theorem Bo.start (w : World) (key nonce s : List Int) : Bo w ((((w.alloc (.cells (arr .u8 key) 23)).alloc (.cells (arr .u8 nonce) 40)).alloc (.cells (arr .u8 (List.replicate 64 0)) 65)).alloc (.cells (arr .u32 s) 91)) key nonce s := by
  have e1 : ∀ o, (w.alloc o).heap.size = w.heap.size + 1 := by simp
  have e2 : ∀ o p, ((w.alloc o).alloc p).heap.size = w.heap.size + 1 + 1 := by simp
  have e3 : ∀ o p q, (((w.alloc o).alloc p).alloc q).heap.size = w.heap.size + 1 + 1 + 1 := by simp
  refine ⟨blk_alloc (blk_alloc (blk_alloc (blk_new w _) _) _) _, ?_, ?_, ?_, ((((Below.refl _ w).alloc (Nat.le_refl _) _).alloc (by rw [e1]; omega) _).alloc (by rw [e2]; omega) _).alloc (by rw [e3]; omega) _⟩
  · rw [← e1]
    exact blk_alloc (blk_alloc (blk_new _ _) _) _
  · rw [← e2]
    exact blk_alloc (blk_new _ _) _
  · rw [← e3]
    exact blk_new _ _
theorem Bo.drewN {w wr : World} {key nonce s : List Int} (h : Bo w wr key nonce s) (n : Nat) : Bo w (wr.drewN n) key nonce s := ⟨h.bk, h.bn, h.br, h.bs, Go.Proofs.YtogebegdgfdijaaDoor.Below.drewN h.below n⟩
theorem Bo.set {w wr : World} {key nonce s : List Int} (h : Bo w wr key nonce s) (i : Nat) (x : Int) : Bo w (wr.setCell ⟨w.heap.size + 1 + 1 + 1, i, none⟩ (.int .u32 x)) key nonce (s.set i x) :=
  ⟨blk_setCell_ne h.bk _ (by omega), blk_setCell_ne h.bn _ (by omega), blk_setCell_ne h.br _ (by omega), blk_arr_set h.bs i x, h.below.setCell (p := ⟨w.heap.size + 1 + 1 + 1, i, none⟩) (by simp; omega) _⟩
theorem rblock_any (key nonce : List Int) (c : Int) (w : World) (hk : key.length = 32) (hn : nonce.length = 12) (bk : bytes key) (bn : bytes nonce) :
    Calls Tryd.prog 61 #[.agg (arr .u8 key), .int .i64 c, .agg (arr .u8 nonce)] w fun e w' => e = .returned (.agg (arr .u8 (block key (c % 4294967296) nonce))) ∧ Below w.heap.size w w' := by
  have al := al32
  have al2 := al12
  have HK := Lib.hid hk
  have HN := Lib.hid hn
  have BK := Lib.hid bk
  have BN := Lib.hid bn
  obtain ⟨wA, hwA⟩ : ∃ wA, wA = ((((w.alloc (.cells (arr .u8 key) 23)).alloc (.cells (arr .u8 nonce) 40)).alloc (.cells (arr .u8 (List.replicate 64 0)) 65)).alloc (.cells (arr .u32 (List.replicate 16 0)) 91)) := ⟨_, rfl⟩
  have s0 := Bo.start w key nonce (List.replicate 16 0)
  rw [← hwA] at s0
  have y0 := blk_arr s0.bs 0 (by simp)
  have y1 := blk_arr s0.bs 1 (by simp)
  have y2 := blk_arr s0.bs 2 (by simp)
  have y3 := blk_arr s0.bs 3 (by simp)
  have f0 := free_blk s0.bs 0
  have f1 := free_blk s0.bs 1
  have f2 := free_blk s0.bs 2
  have f3 := free_blk s0.bs 3
  have S0 := Lib.hid ((((s0.set 0 1634760805).set 1 857760878).set 2 2036477234).set 3 1797285236)
  have HL0 : Hid (((((List.replicate 16 (0 : Int)).set 0 1634760805).set 1 857760878).set 2 2036477234).set 3 1797285236 = lay [1634760805, 857760878, 2036477234, 1797285236] (fun i => word key (4 * i)) 0 12) := Lib.hid (by rfl)
  have HWA := Lib.hid hwA
  have hc := and32i c
  clear hk hn bk bn hwA s0
  go_enter Tryd.func61, Tryd.ntmps61
  go_wp2_with (first | ((with_reducible refine aS 6 ?_); refine wpList_alloc_row rfl 65 rfl _ (zero64 _) ?_) | ((with_reducible refine aS 7 ?_); refine wpList_alloc_row rfl 91 rfl _ (zero16 _) ?_; rw [← HWA.out]))
  have s1 := S0.out
  rw [HL0.out] at s1
  have S1 := Lib.hid s1
  clear s1 S0 HL0 HWA y0 y1 y2 y3 f0 f1 f2 f3
  go_loopw [8] (fun i wr => ∃ n : Nat, n ≤ 8 ∧ i = .int .i64 n ∧ Bo w wr key nonce (lay [1634760805, 857760878, 2036477234, 1797285236] (fun i => word key (4 * i)) n 12)) (fun i _ => 8 - (intOf i).toNat)
  case atStart => exact ⟨0, Nat.zero_le _, rfl, S1.out⟩
  clear S1
  case round =>
  obtain ⟨n, hn8, rfl, hB⟩ := hrel
  by_cases hlt : n < 8
  · have HB := Lib.hid hB
    have hsl := slice_l 23 32 w.heap.size (4 * n) (by kernel_rfl) al (fun w => by kernel_rfl) (by omega)
    rw [show ((4 * n : Nat) : Int) = 4 * (n : Int) by omega] at hsl
    have hc4 : ∀ j, j < 4 → wr.cell? ⟨w.heap.size, 4 * n + j, none⟩ = some (.int .u8 (key.getD (4 * n + j) 0)) := fun j hj => blk_arr hB.bk _ (by rw [HK.out]; omega)
    have HC := Lib.hid hc4
    have hfr := free_blk hB.bs (4 + n)
    have hce := blk_arr hB.bs (4 + n) (by rw [lay_len _ _ _ _ (by omega)]; simp; omega)
    clear hB hc4
    go_wp2_with (go_at_call 80; refine (little_any w.heap.size (4 * n) (32 - 4 * n) (32 - 4 * n) key (4 * n) wr BK.out (by omega) (HC.out 0 (by omega)) (HC.out 1 (by omega)) (HC.out 2 (by omega)) (HC.out 3 (by omega))).mono ?_; rintro e w' ⟨rfl, k, rfl⟩)
    have hd := HB.out.drewN k
    have HS := Lib.hid (hd.set (4 + n) (word key (4 * n)))
    have HL := Lib.hid (lay_set [1634760805, 857760878, 2036477234, 1797285236] (fun i => word key (4 * i)) n 12 (by omega))
    clear hsl HC hfr hce hd HB
    go_roundw
    case rel =>
      refine ⟨n + 1, by omega, by go_num, ?_⟩
      rw [← HL.out]
      exact HS.out
    case measure => simp [intOf]; omega
  · have e8 : n = 8 := by omega
    rw [e8] at hB
    obtain ⟨pre, hpre⟩ : ∃ pre, pre = [1634760805, 857760878, 2036477234, 1797285236] ++ (List.range 8).map fun i => word key (4 * i) := ⟨_, rfl⟩
    have hpl : pre.length = 12 := by rw [hpre]; simp
    obtain ⟨cc, hcc⟩ : ∃ cc, cc = c % 4294967296 := ⟨_, rfl⟩
    have hcb : 0 ≤ cc := by omega
    have hcb2 : cc ≤ 4294967295 := by omega
    rw [← hcc] at hc
    rw [lay_more _ _ 8 12 (fun _ => cc) (by omega), ← hpre] at hB
    have hc12 := blk_arr hB.bs 12 (by rw [lay_len _ _ _ _ (by omega)]; omega)
    have hf12 := free_blk hB.bs 12
    have hs12 := lay_set pre (fun _ => cc) 0 4 (by omega)
    rw [hpl, lay_more _ _ (0 + 1) 4 (fun i => word nonce (4 * i)) (by omega)] at hs12
    have hB2 := hB.set 12 cc
    rw [show (12 : Nat) = 12 + 0 by rfl, hs12] at hB2
    obtain ⟨pre2, hpre2⟩ : ∃ pre2, pre2 = pre ++ (List.range (0 + 1)).map fun _ => cc := ⟨_, rfl⟩
    rw [← hpre2] at hB2
    have hpl2 : pre2.length = 13 := by rw [hpre2]; simp; omega
    have hend : pre2 ++ ((List.range 3).map fun i => word nonce (4 * i)) = begin key cc nonce := by rw [hpre2, hpre]; rfl
    have HB2 := Lib.hid hB2
    have HP2 := Lib.hid hpl2
    have HE := Lib.hid hend
    have HCC := Lib.hid hcc
    clear hB hs12 hB2 hpre hpre2 hpl hpl2 hend e8 hcc
    go_wp2_with fail
    clear hc12 hf12
    generalize Value.bool (decide ((n : Int) < 8)) = u20
    go_loopw [9] (fun i wr => ∃ n : Nat, n ≤ 3 ∧ i = .int .i64 n ∧ Bo w wr key nonce (lay pre2 (fun i => word nonce (4 * i)) n 3)) (fun i _ => 3 - (intOf i).toNat)
    case atStart => exact ⟨0, Nat.zero_le _, rfl, HB2.out⟩
    clear HB2
    case round =>
    obtain ⟨n, hn8, rfl, hB⟩ := hrel
    by_cases hlt : n < 3
    · have HB := Lib.hid hB
      have hsl := slice_l 40 12 (w.heap.size + 1) (4 * n) (by kernel_rfl) al2 (fun w => by kernel_rfl) (by omega)
      rw [show ((4 * n : Nat) : Int) = 4 * (n : Int) by omega] at hsl
      have hc4 : ∀ j, j < 4 → wr.cell? ⟨w.heap.size + 1, 4 * n + j, none⟩ = some (.int .u8 (nonce.getD (4 * n + j) 0)) := fun j hj => blk_arr hB.bn _ (by rw [HN.out]; omega)
      have HC := Lib.hid hc4
      have hfr := free_blk hB.bs (13 + n)
      have hce := blk_arr hB.bs (13 + n) (by rw [lay_len _ _ _ _ (by omega), HP2.out]; omega)
      clear hB hc4
      go_wp2_with (go_at_call 80; refine (little_any (w.heap.size + 1) (4 * n) (12 - 4 * n) (12 - 4 * n) nonce (4 * n) wr BN.out (by omega) (HC.out 0 (by omega)) (HC.out 1 (by omega)) (HC.out 2 (by omega)) (HC.out 3 (by omega))).mono ?_; rintro e w' ⟨rfl, k, rfl⟩)
      have hd := HB.out.drewN k
      have hl := lay_set pre2 (fun i => word nonce (4 * i)) n 3 (by omega)
      rw [HP2.out] at hl
      have HS := Lib.hid (hd.set (13 + n) (word nonce (4 * n)))
      have HL := Lib.hid hl
      clear hsl HC hfr hce hd HB hl
      go_roundw
      case rel =>
        refine ⟨n + 1, by omega, by go_num, ?_⟩
        rw [← HL.out]
        exact HS.out
      case measure => simp [intOf]; omega
    · have e3 : n = 3 := by omega
      rw [e3] at hB
      rw [show lay pre2 (fun i => word nonce (4 * i)) 3 3 = begin key cc nonce by rw [← HE.out]; simp [lay]] at hB
      obtain ⟨s, hs⟩ : ∃ s, s = begin key cc nonce := ⟨_, rfl⟩
      rw [← hs] at hB
      have hsl : s.length = 16 := by rw [hs]; exact begin_len _ _ _
      have hp : ((arr .u32 s).toList.drop 0).take s.length = s.map (Value.int .u32) := by rw [List.drop_zero, arr_toList, List.take_of_length_le (by simp)]
      have z1 : (Tryd.prog.info? 91).map (·.size) = some s.length := by rw [hsl]; exact size16
      have z2 : (Tryd.prog.info? 91).map (·.size) = some (arr .u32 s).size := by rw [arr_size]; exact z1
      have z3 : (arr .u32 s).size = (arr .u32 (List.replicate 16 0)).size := by rw [arr_size, arr_size, hsl, List.length_replicate]
      have hfin : blockOf (doubles s 10) s = block key (c % 4294967296) nonce := by rw [hs, HCC.out]; rfl
      have HB := Lib.hid hB
      have HP := Lib.hid hp
      have Z1 := Lib.hid z1
      have Z2 := Lib.hid z2
      have Z3 := Lib.hid z3
      have HF := Lib.hid hfin
      have HSL := Lib.hid hsl
      obtain ⟨w2, hw2⟩ : ∃ w2, w2 = wr := ⟨_, rfl⟩
      rw [← hw2] at HB ⊢
      clear hB hp z1 z2 z3 hs hsl hfin e3 hw2 HE HP2 HCC
      go_wp2_with (first | ((with_reducible refine aS 45 ?_); refine wpList_load_part rfl 91 _ rfl (w.heap.size + 1 + 1 + 1) 0 _ 91 (0, 0) _ HB.out.bs rfl .u32 s HP.out Tryd.underlying91 rfl Z1.out ?_) | ((with_reducible refine aS 10 ?_); refine wpList_alloc_row rfl 91 rfl _ (zero16 _) ?_) | ((with_reducible show wpList _ _ _ (Oper.mk none (.store _ (.tmp 10) _) _ _ _ _ :: _) _ _); refine wpList_store_whole rfl 91 _ _ rfl w2.heap.size _ _ 91 (blk_new w2 _) rfl rfl Z3.out Z2.out (all_arr _ _) ?_; intro w3 hb3 hk3 hz3; have HB3 := Lib.hid hb3; have HK3 := Lib.hid hk3; clear hb3 hk3 hz3))
      have hB : Bk w w3 (w.heap.size + 1 + 1 + 1) w2.heap.size s s := by
        have h0 := blk_lt HB.out.bs
        refine ⟨HK3.out.blk (blk_alloc HB.out.br _) (by omega), HK3.out.blk (blk_alloc HB.out.bs _) (by omega), HB3.out, ?_, by omega, by omega⟩
        exact HB.out.below.trans (((Below.refl w.heap.size w2).alloc (by omega) _).trans (HK3.out.toBelow (B := w.heap.size) (by simp; omega) (by rintro i rfl; omega)))
      have HB0 := Lib.hid hB
      clear hB HB3 HK3 HB HP Z1 Z2 Z3
      generalize w2.heap.size = h at HB0 ⊢
      generalize Value.bool (decide ((n : Int) < 3)) = u35
      go_loopw [11] (fun i wr => ∃ n : Nat, n ≤ 10 ∧ i = .int .i64 n ∧ Bk w wr (w.heap.size + 1 + 1 + 1) h s (doubles s n)) (fun i _ => 10 - (intOf i).toNat)
      case atStart => exact ⟨0, Nat.zero_le _, rfl, HB0.out⟩
      clear HB0
      case round =>
      obtain ⟨m, hm8, rfl, hB⟩ := hrel
      by_cases hltm : m < 10
      · obtain ⟨v0, hv⟩ : ∃ v, v = doubles s m := ⟨_, rfl⟩
        rw [← hv] at hB
        have hvl : v0.length = 16 := by rw [hv, doubles_len]; exact HSL.out
        have HV := Lib.hid hv
        have L0 := Lib.hid hvl
        have B0 := Lib.hid hB
        obtain ⟨w0, hw0⟩ : ∃ w0, w0 = wr := ⟨_, rfl⟩
        rw [← hw0] at B0 ⊢
        clear hv hvl hB hw0
        obtain ⟨v1, hv1⟩ : ∃ t, t = quarter v0 0 4 8 12 := ⟨_, rfl⟩
        have L1 : Hid (v1.length = 16) := Lib.hid (by rw [hv1, quarter_len]; exact L0.out)
        have V1 := Lib.hid hv1
        clear hv1
        obtain ⟨v2, hv2⟩ : ∃ t, t = quarter v1 1 5 9 13 := ⟨_, rfl⟩
        have L2 : Hid (v2.length = 16) := Lib.hid (by rw [hv2, quarter_len]; exact L1.out)
        have V2 := Lib.hid hv2
        clear hv2
        obtain ⟨v3, hv3⟩ : ∃ t, t = quarter v2 2 6 10 14 := ⟨_, rfl⟩
        have L3 : Hid (v3.length = 16) := Lib.hid (by rw [hv3, quarter_len]; exact L2.out)
        have V3 := Lib.hid hv3
        clear hv3
        obtain ⟨v4, hv4⟩ : ∃ t, t = quarter v3 3 7 11 15 := ⟨_, rfl⟩
        have L4 : Hid (v4.length = 16) := Lib.hid (by rw [hv4, quarter_len]; exact L3.out)
        have V4 := Lib.hid hv4
        clear hv4
        obtain ⟨v5, hv5⟩ : ∃ t, t = quarter v4 0 5 10 15 := ⟨_, rfl⟩
        have L5 : Hid (v5.length = 16) := Lib.hid (by rw [hv5, quarter_len]; exact L4.out)
        have V5 := Lib.hid hv5
        clear hv5
        obtain ⟨v6, hv6⟩ : ∃ t, t = quarter v5 1 6 11 12 := ⟨_, rfl⟩
        have L6 : Hid (v6.length = 16) := Lib.hid (by rw [hv6, quarter_len]; exact L5.out)
        have V6 := Lib.hid hv6
        clear hv6
        obtain ⟨v7, hv7⟩ : ∃ t, t = quarter v6 2 7 8 13 := ⟨_, rfl⟩
        have L7 : Hid (v7.length = 16) := Lib.hid (by rw [hv7, quarter_len]; exact L6.out)
        have V7 := Lib.hid hv7
        clear hv7
        obtain ⟨v8, hv8⟩ : ∃ t, t = quarter v7 3 4 9 14 := ⟨_, rfl⟩
        have L8 : Hid (v8.length = 16) := Lib.hid (by rw [hv8, quarter_len]; exact L7.out)
        have V8 := Lib.hid hv8
        clear hv8
        go_wp2_with (first | ((with_reducible show Calls _ _ _ w0 _); go_at_call 81; refine (rquarter_at h v0 0 4 8 12 0 4 8 12 w0 B0.out.bv L0.out (by omega) (by omega) (by omega) (by omega) (by rfl) (by rfl) (by rfl) (by rfl)).mono ?_; rintro e w1 ⟨rfl, hb4, hk4⟩; rw [← V1.out] at hb4; have B1 := Lib.hid (B0.out.kept hk4 hb4); clear hb4 hk4) | ((with_reducible show Calls _ _ _ w1 _); go_at_call 81; refine (rquarter_at h v1 1 5 9 13 1 5 9 13 w1 B1.out.bv L1.out (by omega) (by omega) (by omega) (by omega) (by rfl) (by rfl) (by rfl) (by rfl)).mono ?_; rintro e w2 ⟨rfl, hb4, hk4⟩; rw [← V2.out] at hb4; have B2 := Lib.hid (B1.out.kept hk4 hb4); clear hb4 hk4) | ((with_reducible show Calls _ _ _ w2 _); go_at_call 81; refine (rquarter_at h v2 2 6 10 14 2 6 10 14 w2 B2.out.bv L2.out (by omega) (by omega) (by omega) (by omega) (by rfl) (by rfl) (by rfl) (by rfl)).mono ?_; rintro e w3 ⟨rfl, hb4, hk4⟩; rw [← V3.out] at hb4; have B3 := Lib.hid (B2.out.kept hk4 hb4); clear hb4 hk4) | ((with_reducible show Calls _ _ _ w3 _); go_at_call 81; refine (rquarter_at h v3 3 7 11 15 3 7 11 15 w3 B3.out.bv L3.out (by omega) (by omega) (by omega) (by omega) (by rfl) (by rfl) (by rfl) (by rfl)).mono ?_; rintro e w4 ⟨rfl, hb4, hk4⟩; rw [← V4.out] at hb4; have B4 := Lib.hid (B3.out.kept hk4 hb4); clear hb4 hk4) | ((with_reducible show Calls _ _ _ w4 _); go_at_call 81; refine (rquarter_at h v4 0 5 10 15 0 5 10 15 w4 B4.out.bv L4.out (by omega) (by omega) (by omega) (by omega) (by rfl) (by rfl) (by rfl) (by rfl)).mono ?_; rintro e w5 ⟨rfl, hb4, hk4⟩; rw [← V5.out] at hb4; have B5 := Lib.hid (B4.out.kept hk4 hb4); clear hb4 hk4) | ((with_reducible show Calls _ _ _ w5 _); go_at_call 81; refine (rquarter_at h v5 1 6 11 12 1 6 11 12 w5 B5.out.bv L5.out (by omega) (by omega) (by omega) (by omega) (by rfl) (by rfl) (by rfl) (by rfl)).mono ?_; rintro e w6 ⟨rfl, hb4, hk4⟩; rw [← V6.out] at hb4; have B6 := Lib.hid (B5.out.kept hk4 hb4); clear hb4 hk4) | ((with_reducible show Calls _ _ _ w6 _); go_at_call 81; refine (rquarter_at h v6 2 7 8 13 2 7 8 13 w6 B6.out.bv L6.out (by omega) (by omega) (by omega) (by omega) (by rfl) (by rfl) (by rfl) (by rfl)).mono ?_; rintro e w7 ⟨rfl, hb4, hk4⟩; rw [← V7.out] at hb4; have B7 := Lib.hid (B6.out.kept hk4 hb4); clear hb4 hk4) | ((with_reducible show Calls _ _ _ w7 _); go_at_call 81; refine (rquarter_at h v7 3 4 9 14 3 4 9 14 w7 B7.out.bv L7.out (by omega) (by omega) (by omega) (by omega) (by rfl) (by rfl) (by rfl) (by rfl)).mono ?_; rintro e w8 ⟨rfl, hb4, hk4⟩; rw [← V8.out] at hb4; have B8 := Lib.hid (B7.out.kept hk4 hb4); clear hb4 hk4))
        have HB5 : Hid (Bk w w8 (w.heap.size + 1 + 1 + 1) h s (doubles s (m + 1))) := Lib.hid (by rw [doubles_succ, ← HV.out, ← dbl, ← V1.out, ← V2.out, ← V3.out, ← V4.out, ← V5.out, ← V6.out, ← V7.out, ← V8.out]; exact B8.out)
        clear B0 B1 B2 B3 B4 B5 B6 B7 B8
        go_roundw
        case rel => exact ⟨m + 1, by omega, by go_num, HB5.out⟩
        case measure => simp [intOf]; omega
      · have e4 : m = 10 := by omega
        rw [e4] at hB
        obtain ⟨v, hv⟩ : ∃ v, v = doubles s 10 := ⟨_, rfl⟩
        have hvl : v.length = 16 := by rw [hv, doubles_len]; exact HSL.out
        rw [← hv] at hB
        have hfin := HF.out
        rw [← hv] at hfin
        have HF2 := Lib.hid hfin
        have HVL := Lib.hid hvl
        have HB5 := Lib.hid (hB.alloc (.cells (arr .u8 (List.replicate 64 0)) 65))
        have HX : Hid ((wr.alloc (.cells (arr .u8 (List.replicate 64 0)) 65)).heap[wr.heap.size]? = some (.cells (arr .u8 ((blockOf v s).take 0 ++ List.replicate (64 - 0) 0)) 65 (0, 0))) := Lib.hid (blk_new _ _)
        have HLT : Hid (h < wr.heap.size) := Lib.hid (blk_lt hB.bv)
        clear hv hvl hB hfin HF e4
        go_wp2_with ((with_reducible refine aS 12 ?_); refine wpList_alloc_row rfl 65 rfl _ (zero64 _) ?_)
        obtain ⟨q, hq⟩ : ∃ q, q = wr.heap.size := ⟨_, rfl⟩
        rw [← hq] at HX HLT ⊢
        clear hq
        generalize Value.bool (decide ((m : Int) < 10)) = u47
        go_loopw [13] (fun i wr => ∃ i9 : Nat, i9 ≤ 64 ∧ i = .int .i64 i9 ∧ wr.heap[q]? = some (.cells (arr .u8 ((blockOf v s).take i9 ++ List.replicate (64 - i9) 0)) 65 (0, 0)) ∧ Bk w wr (w.heap.size + 1 + 1 + 1) h s v) (fun i _ => 64 - (intOf i).toNat)
        case atStart => exact ⟨0, Nat.zero_le _, rfl, HX.out, HB5.out⟩
        clear HX HB5
        case round =>
        obtain ⟨i9, hi9, rfl, hb, hB⟩ := hrel
        have hbl : (blockOf v s).length = 64 := by simp [blockOf]
        by_cases hlt9 : i9 < 64
        · have y0 := blk_arr hB.bv (i9 / 4) (by rw [HVL.out]; omega)
          have y1 := blk_arr hB.bs (i9 / 4) (by rw [HSL.out]; omega)
          have y2 := free_blk hb i9
          have y3 := blk_arr hb i9 (by simp [hbl]; omega)
          have G1 : Hid (∀ k u, u = add (v.getD (i9 / 4) 0) (s.getD (i9 / 4) 0) / 2 ^ (8 * (i9 % 4)) % 256 → ((wr.drewN k).setCell ⟨q, i9, none⟩ (.int .u8 u)).heap[q]? = some (.cells (arr .u8 ((blockOf v s).take (i9 + 1) ++ List.replicate (64 - (i9 + 1)) 0)) 65 (0, 0))) := Lib.hid (by
            rintro k u rfl
            have hb : (wr.drewN k).heap[q]? = some (.cells (arr .u8 ((blockOf v s).take i9 ++ List.replicate (64 - i9) 0)) 65 (0, 0)) := hb
            rw [blk_arr_set hb, out_set v s i9 hlt9])
          have HRS := Lib.hid (fun k u => (hB.drewN k).out q i9 u HLT.out)
          have e1 : (8 * ((i9 : Int) % 4)).toNat = 8 * (i9 % 4) := by omega
          have e2 : 0 ≤ 8 * ((i9 : Int) % 4) := by omega
          have e3 : 8 * ((i9 : Int) % 4) ≤ 24 := by omega
          clear hb hB hbl
          generalize v.getD (i9 / 4) 0 = x at y0 G1
          generalize s.getD (i9 / 4) 0 = y at y1 G1
          go_wp2_with fail
          go_quiet (fail)
          have y4 : (wr.drewN nq).frozen? ⟨q, i9, none⟩ = false := y2
          have y5 := (show (wr.drewN nq).cell? ⟨q, i9, none⟩ = wr.cell? ⟨q, i9, none⟩ from rfl).trans y3
          go_wp2_with fail
          clear e1 e2 e3 y0 y1 y2 y3 y4 y5
          go_roundw
          case rel => exact ⟨i9 + 1, by omega, by go_num, G1.out _ _ (and255w _), HRS.out _ _⟩
          case measure => simp [intOf]; omega
        · have e9 : i9 = 64 := by omega
          rw [e9, Nat.sub_self, List.replicate_zero, List.append_nil, List.take_of_length_le (by omega)] at hb
          obtain ⟨bb, hbb⟩ : ∃ bb, bb = blockOf v s := ⟨_, rfl⟩
          rw [← hbb] at hb hbl
          have z1 : (Tryd.prog.info? 65).map (·.size) = some bb.length := by rw [hbl]; exact size64
          have z2 : (Tryd.prog.info? 65).map (·.size) = some (arr .u8 bb).size := by rw [arr_size]; exact z1
          have z3 : (arr .u8 bb).size = (arr .u8 (List.replicate 64 0)).size := by rw [arr_size, arr_size, hbl, List.length_replicate]
          have z4 : ((arr .u8 bb).toList.drop 0).take bb.length = bb.map (Value.int .u8) := by rw [arr_toList, List.drop_zero, List.take_of_length_le (by simp)]
          have HB := Lib.hid hb
          have HBB := Lib.hid hbb
          have HRE := Lib.hid hB
          have ZZ1 := Lib.hid z1
          have ZZ2 := Lib.hid z2
          have ZZ3 := Lib.hid z3
          have ZZ4 := Lib.hid z4
          clear hb hB z1 z2 z3 z4 e9 hbb hbl
          go_wp2_with (first | ((with_reducible refine aS 81 ?_); refine wpList_load_part rfl 65 _ rfl q 0 _ 65 (0, 0) _ HB.out rfl .u8 bb ZZ4.out Tryd.underlying65 rfl ZZ1.out ?_) | ((with_reducible show wpList _ _ _ (Oper.mk none _ _ _ _ _ :: _) _ _); refine wpList_store_whole rfl 65 _ _ rfl (w.heap.size + 1 + 1) _ _ 65 HRE.out.br rfl rfl ZZ3.out ZZ2.out (all_arr _ _) ?_; intro w7 hb7 hk7 hz7; have HB7 := Lib.hid hb7; have HK7 := Lib.hid hk7; clear hb7 hk7 hz7))
          (try simp only [Exit.inBlock, Exit.then])
          refine bodyPost_ret (results_cell_row rfl _ _ (w.heap.size + 1 + 1) 65 _ (0, 0) _ rfl HB7.out Tryd.underlying65 rfl ZZ2.out) rfl ?_
          rw [HBB.out, HF2.out]
          exact ⟨rfl, HRE.out.below.trans (HK7.out.toBelow HRE.out.below.size (by rintro i rfl; omega))⟩
end Go.Proofs.YtogebegdgfdijaaDoor.Ch
namespace Go.Proofs.YtogebegdgfdijaaDoor.Ch
open Go.RowKit
/-- What holds while bytes are turned: the key, the nonce, what is turned, a block of the stream. -/
structure Tk (w wr : World) (key nonce : List Int) (g ob : Nat) (sp : List Value) (out st : List Int) : Prop where
  bk : wr.heap[w.heap.size]? = some (.cells (arr .u8 key) 23 (0, 0))
  bn : wr.heap[w.heap.size + 1]? = some (.cells (arr .u8 nonce) 40 (0, 0))
  bo : wr.heap[g]? = some (.cells (row8 out sp) 5 (0, 0))
  bs : wr.heap[ob]? = some (.cells (arr .u8 st) 65 (0, 0))
  below : Below w.heap.size w wr
  lg : w.heap.size + 1 < g
  lo : w.heap.size + 1 < ob
  ne : g ≠ ob
theorem Tk.after {w wr w' : World} {key nonce : List Int} {g ob : Nat} {sp : List Value} {out st : List Int} (h : Tk w wr key nonce g ob sp out st) (b : Below wr.heap.size wr w') : Tk w w' key nonce g ob sp out st :=
  ⟨Below.blk b h.bk (blk_lt h.bk), Below.blk b h.bn (blk_lt h.bn), Below.blk b h.bo (blk_lt h.bo), Below.blk b h.bs (blk_lt h.bs), h.below.trans (b.mono h.below.size), h.lg, h.lo, h.ne⟩
theorem Tk.drewN {w wr : World} {key nonce : List Int} {g ob : Nat} {sp : List Value} {out st : List Int} (h : Tk w wr key nonce g ob sp out st) (n : Nat) : Tk w (wr.drewN n) key nonce g ob sp out st := ⟨h.bk, h.bn, h.bo, h.bs, Go.Proofs.YtogebegdgfdijaaDoor.Below.drewN h.below n, h.lg, h.lo, h.ne⟩
theorem Tk.drew {w wr : World} {key nonce : List Int} {g ob : Nat} {sp : List Value} {out st : List Int} (h : Tk w wr key nonce g ob sp out st) : Tk w wr.drew key nonce g ob sp out st := ⟨h.bk, h.bn, h.bo, h.bs, ⟨h.below.os, h.below.tape, h.below.output, h.below.size, h.below.block⟩, h.lg, h.lo, h.ne⟩
theorem Tk.fresh {w wr w' : World} {key nonce : List Int} {g ob : Nat} {sp : List Value} {out st st' : List Int} (h : Tk w wr key nonce g ob sp out st) (k : Kept (fun i => i = ob) wr w') (hb : w'.heap[ob]? = some (.cells (arr .u8 st') 65 (0, 0))) : Tk w w' key nonce g ob sp out st' := by
  have l1 := h.lo
  have l2 := h.ne
  exact ⟨k.blk h.bk (by omega), k.blk h.bn (by omega), k.blk h.bo (by omega), hb, h.below.trans (k.toBelow h.below.size (by rintro i rfl; omega)), h.lg, l1, l2⟩
theorem Tk.set {w wr : World} {key nonce : List Int} {g ob : Nat} {sp : List Value} {out st : List Int} (h : Tk w wr key nonce g ob sp out st) (i : Nat) (x : Int) (hi : i < out.length) : Tk w (wr.setCell ⟨g, i, none⟩ (.int .u8 x)) key nonce g ob sp (out.set i x) st := by
  have l1 := h.lg
  have l2 := h.ne
  refine ⟨blk_setCell_ne h.bk _ (by omega), blk_setCell_ne h.bn _ (by omega), ?_, blk_setCell_ne h.bs _ (by omega), h.below.setCell (p := ⟨g, i, none⟩) (by simp; omega) _, l1, h.lo, l2⟩
  rw [blk_setCell h.bo, row8_set _ _ _ hi]
/-- What is turned so far, and the block of the stream that was begun last. -/
def Begun (key : List Int) (c : Int) (nonce st : List Int) (i : Nat) : Prop := st.length = 64 ∧ (i % 64 ≠ 0 → st = block key ((c + (i / 64 : Nat)) % 4294967296) nonce)
theorem turn_at (key : List Int) (c : Int) (nonce b : List Int) (i : Nat) (h : i < b.length) : (turn key c nonce b).getD i 0 = bits .xor .u8 (b.getD i 0) ((block key ((c + (i / 64 : Nat)) % 4294967296) nonce).getD (i % 64) 0) := by
  simp [turn, List.getD, h]
theorem mix_set (T r : List Int) (i n : Nat) (x : Int) (hT : T.length = n) (hr : r.length = n) (h : i < n) (hx : x = T.getD i 0) : (T.take i ++ r.drop i).set i x = T.take (i + 1) ++ r.drop (i + 1) := by
  rw [List.set_append_right _ _ (by simp; omega), show i - (T.take i).length = 0 by simp; omega, List.drop_eq_getElem_cons (by omega), List.set_cons_zero, take_snoc T i 0 (by omega), hx]
  simp
theorem mix_len (T r : List Int) (i n : Nat) (hT : T.length = n) (hr : r.length = n) (h : i ≤ n) : (T.take i ++ r.drop i).length = n := by simp; omega
theorem mix_get (T r : List Int) (i n : Nat) (hT : T.length = n) (hr : r.length = n) (h : i < n) : (T.take i ++ r.drop i).getD i 0 = r.getD i 0 := by
  simp only [List.getD]
  rw [List.getElem?_append_right (by simp; omega), List.getElem?_drop]
  congr 2
  simp
  omega
theorem turn_any (sa : Option Addr) (n cap : Nat) (xs key nonce : List Int) (c : Int) (w : World) (hs : Src w sa n xs) (hk : key.length = 32) (hn : nonce.length = 12) (bk : bytes key) (bn : bytes nonce) (hln : n ≤ 1099511627776) :
    Calls Tryd.prog 19 #[.agg (arr .u8 key), .int .i64 c, .agg (arr .u8 nonce), .slice sa n cap] w fun e w' => ∃ v, e = .returned v ∧ Own8 w' w.heap.size v (turn key c nonce xs) ∧ Below w.heap.size w w' := by
  have hmk := mk8 n hln
  have z64 := zero64
  obtain ⟨wA, hwA⟩ : ∃ wA, wA = ((((w.alloc (.cells (arr .u8 key) 23)).alloc (.cells (arr .u8 nonce) 40)).alloc (.cells (row8 (zeros n) []) 5)).alloc (.cells (arr .u8 (List.replicate 64 0)) 65)) := ⟨_, rfl⟩
  have s0 : Tk w wA key nonce (w.heap.size + 1 + 1) (w.heap.size + 1 + 1 + 1) [] (zeros n) (List.replicate 64 0) := by
    have e1 : ∀ o, (w.alloc o).heap.size = w.heap.size + 1 := by simp
    have e2 : ∀ o p, ((w.alloc o).alloc p).heap.size = w.heap.size + 1 + 1 := by simp
    have e3 : ∀ o p q, (((w.alloc o).alloc p).alloc q).heap.size = w.heap.size + 1 + 1 + 1 := by simp
    rw [hwA]
    refine ⟨blk_alloc (blk_alloc (blk_alloc (blk_new w _) _) _) _, ?_, ?_, ?_, ((((Below.refl _ w).alloc (Nat.le_refl _) _).alloc (by rw [e1]; omega) _).alloc (by rw [e2]; omega) _).alloc (by rw [e3]; omega) _, by omega, by omega, by omega⟩
    · rw [← e1]
      exact blk_alloc (blk_alloc (blk_new _ _) _) _
    · rw [← e2]
      exact blk_alloc (blk_new _ _) _
    · rw [← e3]
      exact blk_new _ _
  obtain ⟨T, hT⟩ : ∃ T, T = turn key c nonce xs := ⟨_, rfl⟩
  have hTl : T.length = n := by rw [hT, turn_len]; exact hs.len
  have hTa : ∀ i, i < n → T.getD i 0 = bits .xor .u8 (xs.getD i 0) ((block key ((c + (i / 64 : Nat)) % 4294967296) nonce).getD (i % 64) 0) := fun i hi => by rw [hT]; exact turn_at _ _ _ _ _ (by rw [hs.len]; exact hi)
  have p1 : ((arr .u8 key).toList.drop 0).take key.length = key.map (Value.int .u8) := by rw [List.drop_zero, arr_toList, List.take_of_length_le (by simp)]
  have p2 : ((arr .u8 nonce).toList.drop 0).take nonce.length = nonce.map (Value.int .u8) := by rw [List.drop_zero, arr_toList, List.take_of_length_le (by simp)]
  have z1 : (Tryd.prog.info? 23).map (·.size) = some key.length := by rw [hk]; exact size32
  have z2 : (Tryd.prog.info? 40).map (·.size) = some nonce.length := by rw [hn]; exact size12
  have HTA := Lib.hid hTa
  have S0 := Lib.hid s0
  have HWA := Lib.hid hwA
  have HT := Lib.hid hT
  have HTL := Lib.hid hTl
  have HS := Lib.hid hs
  have HK := Lib.hid hk
  have HN := Lib.hid hn
  have BK := Lib.hid bk
  have BN := Lib.hid bn
  have P1 := Lib.hid p1
  have P2 := Lib.hid p2
  have Z1 := Lib.hid z1
  have Z2 := Lib.hid z2
  clear s0 hwA hT hTl hs hk hn bk bn p1 p2 z1 z2 hTa
  go_enter Tryd.func19, Tryd.ntmps19
  go_wp2_with ((with_reducible refine aS 10 ?_); refine wpList_alloc_row rfl 65 rfl _ (zero64 _) ?_; rw [← HWA.out])
  clear hmk z64
  go_loopw [11, 21] (fun cv i wr => ∃ (j : Nat) (st : List Int), j ≤ n ∧ i = .int .i64 j ∧ cv = .int .u32 ((c + ((j + 63) / 64 : Nat)) % 4294967296) ∧ Begun key c nonce st j ∧ Tk w wr key nonce (w.heap.size + 1 + 1) (w.heap.size + 1 + 1 + 1) [] (T.take j ++ (zeros n).drop j) st) (fun _ i _ => n - (intOf i).toNat)
  case atStart => exact ⟨0, List.replicate 64 0, Nat.zero_le _, rfl, by simp, ⟨by simp, fun h => absurd rfl h⟩, by simpa using S0.out⟩
  clear S0 HWA
  case round =>
  obtain ⟨j, st, hj, rfl, rfl, hbg, hB⟩ := hrel
  by_cases hlt : j < n
  · obtain ⟨a, rfl, hc⟩ := HS.out.cell j hlt
    have x0 := below_cell hB.below hc
    have HB := Lib.hid hB
    have HBG := Lib.hid hbg
    have HX := Lib.hid (HTA.out j hlt)
    obtain ⟨cc, hcc⟩ : ∃ cc, cc = (c + ((j + 63) / 64 : Nat)) % 4294967296 := ⟨_, rfl⟩
    have c1 : 0 ≤ cc := by omega
    have c2 : cc ≤ 4294967295 := by omega
    rw [← hcc]
    have HCC := Lib.hid hcc
    clear hB hbg hc hcc
    generalize xs.getD j 0 = x at x0 HX
    by_cases h64 : j % 64 = 0
    · have h64' : (j : Int) % 64 = 0 := by omega
      go_wp2_with (first | ((with_reducible refine aS 29 ?_); refine wpList_load_part rfl 23 _ rfl w.heap.size 0 _ 23 (0, 0) _ HB.out.bk rfl .u8 key P1.out Tryd.underlying23 rfl Z1.out ?_) | ((with_reducible refine aS 32 ?_); refine wpList_load_part rfl 40 _ rfl (w.heap.size + 1) 0 _ 40 (0, 0) _ HB.out.bn rfl .u8 nonce P2.out Tryd.underlying40 rfl Z2.out ?_) | (go_at_call 38; refine (block_any key nonce cc wr HK.out HN.out BK.out BN.out).mono ?_; rintro e w1 ⟨rfl, hb1⟩; have HB1 := Lib.hid (HB.out.after hb1); clear hb1) | ((with_reducible show wpList _ _ _ (Oper.mk none (.store _ (.tmp 10) _) _ _ _ _ :: _) _ _); refine wpList_store_whole rfl 65 _ _ rfl (w.heap.size + 1 + 1 + 1) _ _ 65 HB1.out.bs rfl rfl (by rw [arr_size, arr_size, block_len, HBG.out.1]) (by rw [arr_size, block_len]; exact size64) (all_arr _ _) ?_; intro w2 hb2 hk2 hz2; have hT2 := HB1.out.fresh hk2 hb2; obtain ⟨sb, hsb⟩ : ∃ sb, sb = block key (cc % 4294967296) nonce := ⟨_, rfl⟩; rw [← hsb] at hT2; have hsl : sb.length = 64 := by { rw [hsb]; exact block_len _ _ _ }; have hse : sb = block key ((c + (j / 64 : Nat)) % 4294967296) nonce := by { rw [hsb, HCC.out, show (j + 63) / 64 = j / 64 by omega, Int.emod_emod_of_dvd _ (Int.dvd_refl _)] }; have HSL := Lib.hid hsl; have HSE := Lib.hid hse; have HT2 := Lib.hid hT2; have q1 := blk_arr hT2.bs (j % 64) (by rw [hsl]; omega); have q2 := free_blk hT2.bo j; have q3 := (cell_blk hT2.bo j).trans (row8_get _ _ j (by rw [mix_len T (zeros n) j n HTL.out (zeros_len n) (by omega)]; exact hlt)); have HQ := Lib.hid (HX.out); rw [← hse, h64] at HQ; rw [h64] at q1; clear hb2 hk2 hz2 hT2 hsb hsl hse; generalize sb.getD 0 0 = y at q1 HQ))
      have HT3 := Lib.hid (HT2.out.set j (bits .xor .u8 x y) (by rw [mix_len T (zeros n) j n HTL.out (zeros_len n) (by omega)]; exact hlt))
      rw [mix_set T (zeros n) j n _ HTL.out (zeros_len n) hlt HQ.out.symm] at HT3
      clear q1 q2 q3 x0 HB HB1 HT2
      go_roundw
      case rel =>
        refine ⟨j + 1, sb, by omega, by go_num, ?_, ⟨HSL.out, fun _ => ?_⟩, HT3.out⟩
        · rw [HCC.out]
          congr 1
          omega
        · rw [HSE.out, show (j + 1) / 64 = j / 64 by omega]
      case measure => simp [intOf]; omega
    · have h64' : (j : Int) % 64 ≠ 0 := by omega
      have hse := HBG.out.2 h64
      have HQ := Lib.hid (HX.out)
      rw [← hse] at HQ
      have q1 := blk_arr HB.out.bs (j % 64) (by rw [HBG.out.1]; omega)
      have q2 := free_blk HB.out.bo j
      have q3 := (cell_blk HB.out.bo j).trans (row8_get _ _ j (by rw [mix_len T (zeros n) j n HTL.out (zeros_len n) (by omega)]; exact hlt))
      have HSE := Lib.hid hse
      clear hse
      generalize hy : st.getD (j % 64) 0 = y at q1 HQ
      clear hy
      go_wp2_with fail
      have HT3 := Lib.hid (HB.out.set j (bits .xor .u8 x y) (by rw [mix_len T (zeros n) j n HTL.out (zeros_len n) (by omega)]; exact hlt))
      rw [mix_set T (zeros n) j n _ HTL.out (zeros_len n) hlt HQ.out.symm] at HT3
      clear q1 q2 q3 x0 HB
      go_roundw
      case rel =>
        refine ⟨j + 1, st, by omega, by go_num, ?_, ⟨HBG.out.1, fun h => ?_⟩, HT3.out⟩
        · rw [HCC.out, show (j + 1 + 63) / 64 = (j + 63) / 64 by omega]
        · rw [HSE.out, show (j + 1) / 64 = j / 64 by omega]
      case measure => simp [intOf]; omega
  · have e9 : j = n := by omega
    rw [e9, List.take_of_length_le (by rw [HTL.out]; omega), List.drop_eq_nil_of_le (by rw [zeros_len]; omega), List.append_nil] at hB
    have HB := Lib.hid hB
    clear hB e9
    go_wp2_with fail
    go_ret
    rw [← HT.out]
    refine ⟨.slice (some ⟨w.heap.size + 1 + 1, 0, none⟩) n n, rfl, Own8.of_owns ?_, HB.out.below⟩
    exact ⟨w.heap.size + 1 + 1, n, [], by rw [HTL.out], by omega, HB.out.bo, by simp [HTL.out], by unfold maxLen; omega⟩
end Go.Proofs.YtogebegdgfdijaaDoor.Ch
namespace Go.Proofs.YtogebegdgfdijaaDoor.Ch
open Go.RowKit
theorem Own8.row {w : World} {B : Nat} {va : Option Addr} {n vc : Nat} {xs : List Int} (h : Own8 w B (.slice va n vc) xs) (hp : 0 < xs.length) :
    ∃ g sp, va = some ⟨g, 0, none⟩ ∧ B ≤ g ∧ w.heap[g]? = some (.cells (row8 xs sp) 5 (0, 0)) ∧ n = xs.length ∧ vc = xs.length + sp.length ∧ vc ≤ maxLen := by
  have hv : Value.slice va n vc ≠ .slice none 0 0 := by
    intro e
    obtain ⟨sa, c, hf, -⟩ := h.form
    rw [e] at hf
    injection hf with _ h2 _
    omega
  obtain ⟨g, cap, sp, e, hB, hg, hc, hm⟩ := Owns.of_row h hv
  cases e
  exact ⟨g, sp, rfl, hB, hg, rfl, hc, hm⟩
theorem rturn_pos (sa : Option Addr) (n cap : Nat) (xs key nonce : List Int) (c : Int) (w : World) (hs : Src w sa n xs) (hk : key.length = 32) (hn : nonce.length = 12) (bk : bytes key) (bn : bytes nonce) (hln : n ≤ 1099511627776) (hpos : 0 < n) :
    Calls Tryd.prog 35 #[.agg (arr .u8 key), .int .i64 c, .agg (arr .u8 nonce), .slice sa n cap] w fun e w' => ∃ v, e = .returned v ∧ Own8 w' w.heap.size v (turn key c nonce xs) ∧ Below w.heap.size w w' := by
  have z64 := zero64
  have hand := and32i c
  have e1 : ∀ o, (w.alloc o).heap.size = w.heap.size + 1 := by simp
  have e2 : ∀ o p, ((w.alloc o).alloc p).heap.size = w.heap.size + 1 + 1 := by simp
  obtain ⟨wA, hwA⟩ : ∃ wA, wA = (w.alloc (.cells (arr .u8 key) 23)).alloc (.cells (arr .u8 nonce) 40) := ⟨_, rfl⟩
  have a1 : wA.heap[w.heap.size]? = some (.cells (arr .u8 key) 23 (0, 0)) := by rw [hwA]; exact blk_alloc (blk_new w _) _
  have a2 : wA.heap[w.heap.size + 1]? = some (.cells (arr .u8 nonce) 40 (0, 0)) := by rw [hwA, ← e1 (.cells (arr .u8 key) 23)]; exact blk_new _ _
  have a3 : Below w.heap.size w wA := by rw [hwA]; exact ((Below.refl _ w).alloc (Nat.le_refl _) _).alloc (by rw [e1]; omega) _
  have a4 : wA.heap.size = w.heap.size + 1 + 1 := by rw [hwA, e2]
  obtain ⟨T, hT⟩ : ∃ T, T = turn key c nonce xs := ⟨_, rfl⟩
  have hTl : T.length = n := by rw [hT, turn_len]; exact hs.len
  have hTa : ∀ i, i < n → T.getD i 0 = bits .xor .u8 (xs.getD i 0) ((block key ((c + (i / 64 : Nat)) % 4294967296) nonce).getD (i % 64) 0) := fun i hi => by rw [hT]; exact turn_at _ _ _ _ _ (by rw [hs.len]; exact hi)
  have p1 : ((arr .u8 key).toList.drop 0).take key.length = key.map (Value.int .u8) := by rw [List.drop_zero, arr_toList, List.take_of_length_le (by simp)]
  have p2 : ((arr .u8 nonce).toList.drop 0).take nonce.length = nonce.map (Value.int .u8) := by rw [List.drop_zero, arr_toList, List.take_of_length_le (by simp)]
  have z1 : (Tryd.prog.info? 23).map (·.size) = some key.length := by rw [hk]; exact size32
  have z2 : (Tryd.prog.info? 40).map (·.size) = some nonce.length := by rw [hn]; exact size12
  have hsA := hs.below (a3.mono (Nat.le_refl _))
  have HXL := Lib.hid hs.len
  have A1 := Lib.hid a1
  have A2 := Lib.hid a2
  have A3 := Lib.hid a3
  have A4 := Lib.hid a4
  have HWA := Lib.hid hwA
  have HTA := Lib.hid hTa
  have HT := Lib.hid hT
  have HTL := Lib.hid hTl
  have HS := Lib.hid hsA
  have HK := Lib.hid hk
  have HN := Lib.hid hn
  have BK := Lib.hid bk
  have BN := Lib.hid bn
  have P1 := Lib.hid p1
  have P2 := Lib.hid p2
  have Z1 := Lib.hid z1
  have Z2 := Lib.hid z2
  have c1 : 0 ≤ c % 4294967296 := by omega
  have c2 : c % 4294967296 ≤ 4294967295 := by omega
  have c3 : ∀ j : Nat, (c % 4294967296 + (j : Int) / 64) % 4294967296 = (c + (j / 64 : Nat)) % 4294967296 := by intro j; omega
  have C3 := Lib.hid c3
  clear hwA hT hTl hs hk hn bk bn p1 p2 z1 z2 hTa hsA a1 a2 a3 a4 e1 e2 c3
  generalize hcc : c % 4294967296 = cc at hand c1 c2 C3
  clear hcc
  go_enter Tryd.func35, Tryd.ntmps35
  go_wp2_with (first | ((with_reducible refine aS 14 ?_); rw [← HWA.out]; refine wpList_app8 rfl (.const (.slice none 0 0)) (.tmp 13) rfl (w.heap.size + 1 + 1) (.slice none 0 0) [] rfl (Own8.nil _ _) sa n cap xs rfl HS.out (by simp; omega) (by rw [A4.out]; omega) ?_; intro v1 w1 ho1 hg1 hn1 hb1; have hbel := app8_below (w0 := wA) (Own8.nil wA (w.heap.size + 1 + 1)) hg1 (Below.refl _ _) (by rw [A4.out]; omega); obtain ⟨va, vc, hv, -⟩ := ho1.form; rw [List.nil_append, HXL.out] at hv; rw [List.nil_append] at ho1; subst hv; obtain ⟨g, sp, rfl, hBg, hbo, -, hvc, hvm⟩ := Own8.row ho1 (by rw [HXL.out]; exact hpos); have HBEL := Lib.hid hbel; have HBO := Lib.hid hbo; have HBG := Lib.hid hBg; have HVC := Lib.hid (And.intro hvc hvm); clear ho1 hg1 hn1 hb1 hbel hBg hbo hvc hvm) | ((with_reducible refine aS 11 ?_); refine wpList_alloc_row rfl 65 rfl _ (zero64 _) ?_))
  have HB0 : Hid (Tk w (w1.alloc (.cells (arr .u8 (List.replicate 64 0)) 65)) key nonce g w1.heap.size sp xs (List.replicate 64 0)) := Lib.hid (by
    have hl := blk_lt HBO.out
    have hg := HBG.out
    refine ⟨blk_alloc (Below.blk HBEL.out A1.out (by omega)) _, blk_alloc (Below.blk HBEL.out A2.out (by omega)) _, blk_alloc HBO.out _, blk_new _ _, ?_, by omega, by omega, by omega⟩
    have := A3.out.trans (HBEL.out.mono (by omega))
    exact this.alloc this.size _)
  clear HBEL HBO A1 A2 A3 A4 HWA HS
  generalize w1.heap.size = ob at HB0 ⊢
  clear hand
  go_loopw [12] (fun i wr => ∃ (j : Nat) (st : List Int), j ≤ n ∧ i = .int .i64 j ∧ Begun key c nonce st j ∧ Tk w wr key nonce g ob sp (T.take j ++ xs.drop j) st) (fun i _ => n - (intOf i).toNat)
  case atStart => exact ⟨0, List.replicate 64 0, Nat.zero_le _, rfl, ⟨by simp, fun h => absurd rfl h⟩, by simpa using HB0.out⟩
  clear HB0
  case round =>
  obtain ⟨j, st, hj, rfl, hbg, hB⟩ := hrel
  by_cases hlt : j < n
  · have HB := Lib.hid hB
    have HBGN := Lib.hid hbg
    have HX := Lib.hid (HTA.out j hlt)
    have HL := Lib.hid (mix_len T xs j n HTL.out HXL.out (by omega))
    clear hB hbg
    have HG := Lib.hid (mix_get T xs j n HTL.out HXL.out hlt)
    generalize xs.getD j 0 = x at HX HG
    by_cases h64 : j % 64 = 0
    · have h64' : (j : Int) % 64 = 0 := by omega
      go_wp2_with (first | ((with_reducible refine aS 26 ?_); refine wpList_load_part rfl 23 _ rfl w.heap.size 0 _ 23 (0, 0) _ HB.out.bk rfl .u8 key P1.out Tryd.underlying23 rfl Z1.out ?_) | ((with_reducible refine aS 31 ?_); refine wpList_load_part rfl 40 _ rfl (w.heap.size + 1) 0 _ 40 (0, 0) _ HB.out.bn rfl .u8 nonce P2.out Tryd.underlying40 rfl Z2.out ?_) | (go_at_call 61; refine (rblock_any key nonce (cc + (j : Int) / 64) wr HK.out HN.out BK.out BN.out).mono ?_; rintro e w1 ⟨rfl, hb1⟩; have HB1 := Lib.hid (HB.out.after hb1); clear hb1) | ((with_reducible show wpList _ _ _ (Oper.mk none (.store _ (.tmp 11) _) _ _ _ _ :: _) _ _); refine wpList_store_whole rfl 65 _ _ rfl ob _ _ 65 HB1.out.bs rfl rfl (by rw [arr_size, arr_size, block_len, HBGN.out.1]) (by rw [arr_size, block_len]; exact size64) (all_arr _ _) ?_; intro w2 hb2 hk2 hz2; have hT2 := HB1.out.fresh hk2 hb2; obtain ⟨sb, hsb⟩ : ∃ sb, sb = block key ((cc + (j : Int) / 64) % 4294967296) nonce := ⟨_, rfl⟩; rw [← hsb] at hT2; have hsl : sb.length = 64 := by { rw [hsb]; exact block_len _ _ _ }; have hse : sb = block key ((c + (j / 64 : Nat)) % 4294967296) nonce := by { rw [hsb, C3.out] }; have HSL := Lib.hid hsl; have HSE := Lib.hid hse; have HT2 := Lib.hid hT2; have q1 := blk_arr hT2.bs (j % 64) (by rw [hsl]; omega); have q2 := free_blk hT2.bo j; have q3 := (cell_blk hT2.bo j).trans (row8_get _ _ j (by rw [HL.out]; exact hlt)); rw [HG.out] at q3; have HQ := Lib.hid (HX.out); rw [← hse, h64] at HQ; rw [h64] at q1; clear hb2 hk2 hz2 hT2 hsb hsl hse; generalize sb.getD 0 0 = y at q1 HQ))
      simp only [Act.put]
      go_region
      have HT3 := Lib.hid (HT2.out.set j (bits .xor .u8 x y) (by rw [HL.out]; exact hlt)).drew
      rw [mix_set T xs j n _ HTL.out HXL.out hlt HQ.out.symm] at HT3
      clear q1 q2 q3 HB HB1 HT2
      go_wp2_with fail
      go_roundw
      case rel =>
        refine ⟨j + 1, sb, by omega, by go_num, ⟨HSL.out, fun _ => ?_⟩, HT3.out⟩
        rw [HSE.out, show (j + 1) / 64 = j / 64 by omega]
      case measure => simp [intOf]; omega
    · have h64' : (j : Int) % 64 ≠ 0 := by omega
      have hse := HBGN.out.2 h64
      have HQ := Lib.hid (HX.out)
      rw [← hse] at HQ
      have q1 := blk_arr HB.out.bs (j % 64) (by rw [HBGN.out.1]; omega)
      have q2 := free_blk HB.out.bo j
      have q3 := (cell_blk HB.out.bo j).trans (row8_get _ _ j (by rw [HL.out]; exact hlt))
      rw [HG.out] at q3
      have HSE := Lib.hid hse
      clear hse
      generalize hy : st.getD (j % 64) 0 = y at q1 HQ
      clear hy
      go_wp2_with fail
      go_region
      have HT3 := Lib.hid (HB.out.set j (bits .xor .u8 x y) (by rw [HL.out]; exact hlt)).drew
      rw [mix_set T xs j n _ HTL.out HXL.out hlt HQ.out.symm] at HT3
      clear q1 q2 q3 HB
      go_wp2_with fail
      go_roundw
      case rel =>
        refine ⟨j + 1, st, by omega, by go_num, ⟨HBGN.out.1, fun h => ?_⟩, HT3.out⟩
        rw [HSE.out, show (j + 1) / 64 = j / 64 by omega]
      case measure => simp [intOf]; omega
  · have e9 : j = n := by omega
    rw [e9, List.take_of_length_le (by rw [HTL.out]; omega), List.drop_eq_nil_of_le (by rw [HXL.out]; omega), List.append_nil] at hB
    have HB := Lib.hid hB
    clear hB e9
    go_wp2_with fail
    go_ret
    rw [← HT.out]
    refine ⟨.slice (some ⟨g, 0, none⟩) n vc, rfl, Own8.of_owns ?_, HB.out.below⟩
    have hv := HVC.out
    have hg := HB.out.lg
    exact ⟨g, vc, sp, by rw [HTL.out], by omega, HB.out.bo, by rw [HTL.out, hv.1, HXL.out], hv.2⟩
theorem rturn_nil (sa : Option Addr) (cap : Nat) (key nonce : List Int) (c : Int) (w : World) :
    Calls Tryd.prog 35 #[.agg (arr .u8 key), .int .i64 c, .agg (arr .u8 nonce), .slice sa 0 cap] w fun e w' => ∃ v, e = .returned v ∧ Own8 w' w.heap.size v [] ∧ Below w.heap.size w w' := by
  have z64 := zero64
  have hand := and32i c
  have c1 : 0 ≤ c % 4294967296 := by omega
  have c2 : c % 4294967296 ≤ 4294967295 := by omega
  generalize hcc : c % 4294967296 = cc at hand c1 c2
  clear hcc
  have e1 : ∀ o, (w.alloc o).heap.size = w.heap.size + 1 := by simp
  have e2 : ∀ o p, ((w.alloc o).alloc p).heap.size = w.heap.size + 1 + 1 := by simp
  have a3 : Below w.heap.size w ((w.alloc (.cells (arr .u8 key) 23)).alloc (.cells (arr .u8 nonce) 40)) := ((Below.refl _ w).alloc (Nat.le_refl _) _).alloc (by rw [e1]; omega) _
  have hs : Src ((w.alloc (.cells (arr .u8 key) 23)).alloc (.cells (arr .u8 nonce) 40)) sa 0 [] := ⟨rfl, fun i hi => absurd hi (by omega)⟩
  have HS := Lib.hid hs
  have A3 := Lib.hid a3
  have E2 := Lib.hid e2
  clear hs a3 e1 e2
  go_enter Tryd.func35, Tryd.ntmps35
  go_wp2_with (first | ((with_reducible refine aS 14 ?_); refine wpList_app8 rfl (.const (.slice none 0 0)) (.tmp 13) rfl (w.heap.size + 1 + 1) (.slice none 0 0) [] rfl (Own8.nil _ _) sa 0 cap [] rfl HS.out (by simp) (by rw [E2.out]; omega) ?_; intro v1 w1 ho1 hg1 hn1 hb1; have hv := hn1.2 ⟨rfl, rfl⟩; subst hv; have hbel := A3.out.trans ((app8_below (Own8.nil _ (w.heap.size + 1 + 1)) hg1 (Below.refl _ _) (by rw [E2.out]; omega)).mono (by omega)); have HBEL := Lib.hid hbel; clear ho1 hg1 hn1 hb1 hbel) | ((with_reducible refine aS 11 ?_); refine wpList_alloc_row rfl 65 rfl _ (zero64 _) ?_))
  have HB0 := Lib.hid (HBEL.out.alloc HBEL.out.size (.cells (arr .u8 (List.replicate 64 0)) 65))
  clear hand HBEL HS A3 E2
  go_loopw [12] (fun i wr => i = .int .i64 0 ∧ Below w.heap.size w wr) (fun i _ => 0)
  case atStart => exact ⟨rfl, HB0.out⟩
  clear HB0
  case round =>
  obtain ⟨rfl, hB⟩ := hrel
  go_wp2_with fail
  go_ret
  exact ⟨.slice none 0 0, rfl, Own8.nil _ _, hB⟩
theorem rturn_any (sa : Option Addr) (n cap : Nat) (xs key nonce : List Int) (c : Int) (w : World) (hs : Src w sa n xs) (hk : key.length = 32) (hn : nonce.length = 12) (bk : bytes key) (bn : bytes nonce) (hln : n ≤ 1099511627776) :
    Calls Tryd.prog 35 #[.agg (arr .u8 key), .int .i64 c, .agg (arr .u8 nonce), .slice sa n cap] w fun e w' => ∃ v, e = .returned v ∧ Own8 w' w.heap.size v (turn key c nonce xs) ∧ Below w.heap.size w w' := by
  rcases Nat.eq_zero_or_pos n with h0 | h0
  · have hx : xs = [] := List.eq_nil_of_length_eq_zero (hs.len.trans h0)
    subst hx h0
    have e : turn key c nonce [] = [] := by simp [turn]
    rw [e]
    exact rturn_nil sa cap key nonce c w
  · exact rturn_pos sa n cap xs key nonce c w hs hk hn bk bn hln h0
end Go.Proofs.YtogebegdgfdijaaDoor.Ch
