/- chacha.Block: what it answers. Condition: the key has 32 bytes, the nonce 12. -/
import Derived.Test.YtoljnogpegemjaaChB
import Derived.Test.YtoljnogpegemjaaChC
namespace Go.Proofs.Ytoljnogpegemjaa.Ch
open Go.RowKit

theorem zero64 (w : World) : (zeroValue 75).run Try.prog w = .ok (.agg (arr .u8 (List.replicate 64 0))) w := by kernel_rfl
theorem size64 : (Try.prog.info? 75).map (·.size) = some 64 := by kernel_rfl
theorem size32 : (Try.prog.info? 23).map (·.size) = some 32 := by kernel_rfl
theorem size12 : (Try.prog.info? 46).map (·.size) = some 12 := by kernel_rfl

theorem quarter_at (p : Nat) (s : List Int) (a b c d : Nat) (ia ib ic id : Int) (w : World) (hp : w.heap[p]? = some (.cells (arr .u32 s) 86 (0, 0))) (hl : s.length = 16) (ha : a < 16) (hb : b < 16) (hc : c < 16) (hd : d < 16) (ea : ia = a) (eb : ib = b) (ec : ic = c) (ed : id = d) :
    Calls Try.prog 58 #[.pointer (some ⟨p, 0, none⟩), .int .i64 ia, .int .i64 ib, .int .i64 ic, .int .i64 id] w fun e w' => e = .returned (.tuple #[]) ∧ w'.heap[p]? = some (.cells (arr .u32 (quarter s a b c d)) 86 (0, 0)) ∧ Kept (fun x => x = p) w w' := by
  subst ea eb ec ed
  exact quarter_any p s a b c d w hp hl ha hb hc hd

/-- What holds while a block is turned. -/
structure Bk (w wr : World) (g h : Nat) (s v : List Int) : Prop where
  br : wr.heap[w.heap.size + 1 + 1]? = some (.cells (arr .u8 (List.replicate 64 0)) 75 (0, 0))
  bs : wr.heap[g]? = some (.cells (arr .u32 s) 86 (0, 0))
  bv : wr.heap[h]? = some (.cells (arr .u32 v) 86 (0, 0))
  below : Below w.heap.size w wr
  lt : w.heap.size + 1 + 1 < g
  gh : g < h
theorem Bk.kept {w wr w' : World} {g h : Nat} {s v v' : List Int} (b : Bk w wr g h s v) (k : Kept (fun x => x = h) wr w') (hv : w'.heap[h]? = some (.cells (arr .u32 v') 86 (0, 0))) : Bk w w' g h s v' := by
  have h1 := b.lt
  have h2 := b.gh
  exact ⟨k.blk b.br (by omega), k.blk b.bs (by omega), hv, b.below.trans (k.toBelow b.below.size (by rintro i rfl; omega)), h1, h2⟩
theorem Bk.drew {w wr : World} {g h : Nat} {s v : List Int} (b : Bk w wr g h s v) : Bk w wr.drew g h s v := ⟨b.br, b.bs, b.bv, ⟨b.below.os, b.below.tape, b.below.output, b.below.size, b.below.block⟩, b.lt, b.gh⟩
theorem Bk.alloc {w wr : World} {g h : Nat} {s v : List Int} (b : Bk w wr g h s v) (o : Obj) : Bk w (wr.alloc o) g h s v := ⟨blk_alloc b.br o, blk_alloc b.bs o, blk_alloc b.bv o, b.below.alloc b.below.size o, b.lt, b.gh⟩
theorem Bk.out {w wr : World} {g h : Nat} {s v : List Int} (b : Bk w wr g h s v) (k i : Nat) (u : Value) (hk : h < k) : Bk w (wr.setCell ⟨k, i, none⟩ u) g h s v := by
  have h1 := b.lt
  have h2 := b.gh
  exact ⟨blk_setCell_ne b.br _ (by omega), blk_setCell_ne b.bs _ (by omega), blk_setCell_ne b.bv _ (by omega), b.below.setCell (p := ⟨k, i, none⟩) (by simp; omega) _, h1, h2⟩

theorem out_set (v s : List Int) (i : Nat) (h : i < 64) :
    ((blockOf v s).take i ++ List.replicate (64 - i) (0 : Int)).set i (add (v.getD (i / 4) 0) (s.getD (i / 4) 0) / 2 ^ (8 * (i % 4)) % 256) = (blockOf v s).take (i + 1) ++ List.replicate (64 - (i + 1)) 0 := by
  have hl : (blockOf v s).length = 64 := by simp [blockOf]
  rw [List.set_append_right _ _ (by simp [hl]; omega), show 64 - i = (64 - (i + 1)) + 1 by omega, List.replicate_succ, show i - ((blockOf v s).take i).length = 0 by simp [hl]; omega, List.set_cons_zero, take_snoc (blockOf v s) i 0 (by omega)]
  simp [blockOf, h]

set_option maxRecDepth 100000 in
set_option maxHeartbeats 2000000 in
theorem block_any (key nonce : List Int) (c : Int) (w : World) (hk : key.length = 32) (hn : nonce.length = 12) (bk : bytes key) (bn : bytes nonce) :
    Calls Try.prog 51 #[.agg (arr .u8 key), .int .i64 c, .agg (arr .u8 nonce)] w fun e w' => e = .returned (.agg (arr .u8 (block key (c % 4294967296) nonce))) ∧ Below w.heap.size w w' := by
  have HK := Lib.hid hk
  have HN := Lib.hid hn
  have BK := Lib.hid bk
  have BN := Lib.hid bn
  obtain ⟨w0, hw0⟩ : ∃ w0, w0 = ((w.alloc (.cells (arr .u8 key) 23)).alloc (.cells (arr .u8 nonce) 46)).alloc (.cells (arr .u8 (List.replicate 64 0)) 75) := ⟨_, rfl⟩
  have e1 : ∀ o, (w.alloc o).heap.size = w.heap.size + 1 := by simp
  have e2 : ∀ o p, ((w.alloc o).alloc p).heap.size = w.heap.size + 1 + 1 := by simp
  have f1 : w0.heap[w.heap.size]? = some (.cells (arr .u8 key) 23 (0, 0)) := by rw [hw0]; exact blk_alloc (blk_alloc (blk_new w _) _) _
  have f2 : w0.heap[w.heap.size + 1]? = some (.cells (arr .u8 nonce) 46 (0, 0)) := by rw [hw0, ← e1 (.cells (arr .u8 key) 23)]; exact blk_alloc (blk_new _ _) _
  have f3 : w0.heap[w.heap.size + 1 + 1]? = some (.cells (arr .u8 (List.replicate 64 0)) 75 (0, 0)) := by rw [hw0, ← e2 (.cells (arr .u8 key) 23) (.cells (arr .u8 nonce) 46)]; exact blk_new _ _
  have f4 : Below w.heap.size w w0 := by rw [hw0]; exact (((Below.refl _ w).alloc (Nat.le_refl _) _).alloc (by rw [e1]; omega) _).alloc (by rw [e2]; omega) _
  have p1 : ((arr .u8 key).toList.drop 0).take key.length = key.map (Value.int .u8) := by rw [List.drop_zero, arr_toList, List.take_of_length_le (by simp)]
  have p2 : ((arr .u8 nonce).toList.drop 0).take nonce.length = nonce.map (Value.int .u8) := by rw [List.drop_zero, arr_toList, List.take_of_length_le (by simp)]
  have z1 : (Try.prog.info? 23).map (·.size) = some key.length := by rw [hk]; exact size32
  have z2 : (Try.prog.info? 46).map (·.size) = some nonce.length := by rw [hn]; exact size12
  obtain ⟨s, hs⟩ : ∃ s, s = begin key (c % 4294967296) nonce := ⟨_, rfl⟩
  have hsl : s.length = 16 := by rw [hs]; exact begin_len _ _ _
  have y1 : (Try.prog.info? 86).map (·.size) = some (arr .u32 s).size := by rw [arr_size, hsl]; exact size16
  have y2 : (Try.prog.info? 86).map (·.size) = some s.length := by rw [hsl]; exact size16
  have y3 : (arr .u32 s).size = (arr .u32 (List.replicate 16 0)).size := by rw [arr_size, arr_size, hsl, List.length_replicate]
  have p3 : ((arr .u32 s).toList.drop 0).take s.length = s.map (Value.int .u32) := by rw [List.drop_zero, arr_toList, List.take_of_length_le (by simp)]
  have hfin : blockOf (doubles s 10) s = block key (c % 4294967296) nonce := by rw [hs]; rfl
  have HW0 := Lib.hid hw0
  have F1 := Lib.hid f1
  have F2 := Lib.hid f2
  have F3 := Lib.hid f3
  have F4 := Lib.hid f4
  have P1 := Lib.hid p1
  have P2 := Lib.hid p2
  have P3 := Lib.hid p3
  have Z1 := Lib.hid z1
  have Z2 := Lib.hid z2
  have Y1 := Lib.hid y1
  have Y2 := Lib.hid y2
  have Y3 := Lib.hid y3
  have HS := Lib.hid hs
  have HSL := Lib.hid hsl
  have HF := Lib.hid hfin
  clear hk hn bk bn hw0 e1 e2 f1 f2 f3 f4 p1 p2 p3 z1 z2 y1 y2 y3 hs hsl hfin
  go_enter Try.func51, Try.ntmps51
  go_wp2_with (first | ((with_reducible show wpList _ _ _ (Oper.mk (some 6) _ _ _ _ _ :: _) _ _); refine wpList_alloc_row rfl 75 rfl _ (zero64 _) ?_; rw [← HW0.out]) | ((with_reducible show wpList _ _ _ (Oper.mk (some 13) _ _ _ _ _ :: _) _ _); refine wpList_load_part rfl 23 _ rfl w.heap.size 0 _ 23 (0, 0) _ F1.out rfl .u8 key P1.out Try.underlying23 rfl Z1.out ?_) | ((with_reducible show wpList _ _ _ (Oper.mk (some 16) _ _ _ _ _ :: _) _ _); refine wpList_load_part rfl 46 _ rfl (w.heap.size + 1) 0 _ 46 (0, 0) _ F2.out rfl .u8 nonce P2.out Try.underlying46 rfl Z2.out ?_) | (go_at_call 57; refine (begin_any key nonce _ w0 HK.out HN.out BK.out BN.out).mono ?_; rintro e w1 ⟨rfl, hb1⟩; rw [← HS.out]; have HB1 := Lib.hid hb1; clear hb1) | ((with_reducible show wpList _ _ _ (Oper.mk (some 7) _ _ _ _ _ :: _) _ _); refine wpList_alloc_row rfl 86 rfl _ (zero16 _) ?_) | ((with_reducible show wpList _ _ _ (Oper.mk none (.store _ (.tmp 7) _) _ _ _ _ :: _) _ _); refine wpList_store_whole rfl 86 _ _ rfl w1.heap.size _ _ 86 (blk_new w1 _) rfl rfl Y3.out Y1.out (all_arr _ _) ?_; intro w2 hb2 hk2 hz2; have HB2 := Lib.hid hb2; have HK2 := Lib.hid hk2; have HZ2 : Hid (w2.heap.size = w1.heap.size + 1) := Lib.hid (hz2.trans (by simp)); clear hb2 hk2 hz2) | ((with_reducible show wpList _ _ _ (Oper.mk (some 18) _ _ _ _ _ :: _) _ _); refine wpList_load_part rfl 86 _ rfl w1.heap.size 0 _ 86 (0, 0) _ HB2.out rfl .u32 s P3.out Try.underlying86 rfl Y2.out ?_) | ((with_reducible show wpList _ _ _ (Oper.mk (some 8) _ _ _ _ _ :: _) _ _); refine wpList_alloc_row rfl 86 rfl _ (zero16 _) ?_) | ((with_reducible show wpList _ _ _ (Oper.mk none (.store _ (.tmp 8) _) _ _ _ _ :: _) _ _); refine wpList_store_whole rfl 86 _ _ rfl w2.heap.size _ _ 86 (blk_new w2 _) rfl rfl Y3.out Y1.out (all_arr _ _) ?_; intro w3 hb3 hk3 hz3; have HB3 := Lib.hid hb3; have HK3 := Lib.hid hk3; clear hb3 hk3 hz3))
  have hB : Bk w w3 w1.heap.size w2.heap.size s s := by
    have h0 := blk_lt F3.out
    have h1 := HB1.out.size
    have h2 := HZ2.out
    have b1 : Below w.heap.size w w1 := F4.out.trans (HB1.out.mono F4.out.size)
    refine ⟨HK3.out.blk (blk_alloc (HK2.out.blk (blk_alloc (Below.blk HB1.out F3.out h0) _) (by omega)) _) (by omega), HK3.out.blk (blk_alloc HB2.out _) (by omega), HB3.out, ?_, by omega, by omega⟩
    have b2 := b1.trans ((b1.alloc b1.size (.cells (arr .u32 (List.replicate 16 0)) 86)).size |> fun _ => HK2.out.toBelow (B := w.heap.size) (by simp; omega) (by rintro i rfl; omega) |> fun b => (((Below.refl w.heap.size w1).alloc (by omega) _).trans b))
    exact b2.trans (((Below.refl w.heap.size w2).alloc (by omega) _).trans (HK3.out.toBelow (B := w.heap.size) (by simp; omega) (by rintro i rfl; omega)))
  have HB0 := Lib.hid hB
  clear hB HB2 HB3 HK2 HK3 HZ2 HB1 F1 F2 F3 F4 HW0 P1 P2
  generalize w1.heap.size = g at HB0 ⊢
  generalize w2.heap.size = h at HB0 ⊢
  go_loopw [19] (fun i wr => ∃ n : Nat, n ≤ 10 ∧ i = .int .i64 n ∧ Bk w wr g h s (doubles s n)) (fun i _ => 10 - (intOf i).toNat)
  case atStart => exact ⟨0, Nat.zero_le _, rfl, HB0.out⟩
  clear HB0
  case round =>
  obtain ⟨n, hn8, rfl, hB⟩ := hrel
  by_cases hlt : n < 10
  · obtain ⟨v, hv⟩ : ∃ v, v = doubles s n := ⟨_, rfl⟩
    rw [← hv] at hB
    have hvl : v.length = 16 := by rw [hv, doubles_len]; exact HSL.out
    have HV := Lib.hid hv
    have HVL := Lib.hid hvl
    have HB0 := Lib.hid hB
    clear hv hvl hB
    go_wp2_with fail
    generalize Value.bool (decide ((n : Int) < 10)) = u20
    go_loopw [21] (fun i wr => ∃ j : Nat, j ≤ 4 ∧ i = .int .i64 j ∧ Bk w wr g h s (cols v j)) (fun i _ => 4 - (intOf i).toNat)
    case atStart => exact ⟨0, Nat.zero_le _, rfl, HB0.out⟩
    clear HB0
    case round =>
    obtain ⟨j, hj4, rfl, hB⟩ := hrel
    by_cases hltj : j < 4
    · have HB0 := Lib.hid hB
      clear hB
      go_wp2_with (go_at_call 58; refine (quarter_at h (cols v j) j (4 + j) (8 + j) (12 + j) _ _ _ _ wr HB0.out.bv (by rw [cols_len]; exact HVL.out) (by omega) (by omega) (by omega) (by omega) (by omega) (by omega) (by omega) (by omega)).mono ?_; rintro e w4 ⟨rfl, hb4, hk4⟩; have HB4 := Lib.hid hb4; have HK4 := Lib.hid hk4; clear hb4 hk4)
      have HB5 := Lib.hid (HB0.out.kept HK4.out HB4.out)
      rw [← cols_succ] at HB5
      clear HB0 HB4 HK4
      go_roundw
      case rel => exact ⟨j + 1, by omega, by go_num, HB5.out⟩
      case measure => simp [intOf]; omega
    · have e4 : j = 4 := by omega
      rw [e4] at hB
      obtain ⟨v4, hv4⟩ : ∃ v4, v4 = cols v 4 := ⟨_, rfl⟩
      rw [← hv4] at hB
      have hvl4 : v4.length = 16 := by rw [hv4, cols_len]; exact HVL.out
      have HV4 := Lib.hid hv4
      have HVL4 := Lib.hid hvl4
      have HB0 := Lib.hid hB
      clear hB e4 hv4 hvl4
      go_wp2_with fail
      generalize Value.bool (decide ((j : Int) < 4)) = u22
      go_loopw [33] (fun i wr => ∃ j : Nat, j ≤ 4 ∧ i = .int .i64 j ∧ Bk w wr g h s (diags v4 j)) (fun i _ => 4 - (intOf i).toNat)
      case atStart => exact ⟨0, Nat.zero_le _, rfl, HB0.out⟩
      clear HB0
      case round =>
      obtain ⟨j, hj4, rfl, hB⟩ := hrel
      by_cases hltj : j < 4
      · have HB0 := Lib.hid hB
        clear hB
        go_wp2_with (go_at_call 58; refine (quarter_at h (diags v4 j) j (4 + (j + 1) % 4) (8 + (j + 2) % 4) (12 + (j + 3) % 4) _ _ _ _ wr HB0.out.bv (by rw [diags_len]; exact HVL4.out) (by omega) (by omega) (by omega) (by omega) (by omega) (by omega) (by omega) (by omega)).mono ?_; rintro e w4 ⟨rfl, hb4, hk4⟩; have HB4 := Lib.hid hb4; have HK4 := Lib.hid hk4; clear hb4 hk4)
        have HB5 := Lib.hid (HB0.out.kept HK4.out HB4.out)
        rw [← diags_succ] at HB5
        clear HB0 HB4 HK4
        go_roundw
        case rel => exact ⟨j + 1, by omega, by go_num, HB5.out⟩
        case measure => simp [intOf]; omega
      · have e4 : j = 4 := by omega
        rw [e4] at hB
        have HB5 : Hid (Bk w wr g h s (doubles s (n + 1))) := Lib.hid (by rw [doubles_succ, ← HV.out, ← HV4.out]; exact hB)
        clear hB e4
        go_wp2_with fail
        go_roundw
        case rel => exact ⟨n + 1, by omega, by go_num, HB5.out⟩
        case measure => simp [intOf]; omega
  · have e4 : n = 10 := by omega
    rw [e4] at hB
    obtain ⟨v, hv⟩ : ∃ v, v = doubles s 10 := ⟨_, rfl⟩
    have hvl : v.length = 16 := by rw [hv, doubles_len]; exact HSL.out
    rw [← hv] at hB
    have hfin := HF.out
    rw [← hv] at hfin
    have HF2 := Lib.hid hfin
    have HVL := Lib.hid hvl
    have HB5 := Lib.hid (hB.alloc (.cells (arr .u8 (List.replicate 64 0)) 75))
    have HX : Hid ((wr.alloc (.cells (arr .u8 (List.replicate 64 0)) 75)).heap[wr.heap.size]? = some (.cells (arr .u8 ((blockOf v s).take 0 ++ List.replicate (64 - 0) 0)) 75 (0, 0))) := Lib.hid (blk_new _ _)
    have HLT : Hid (h < wr.heap.size) := Lib.hid (blk_lt hB.bv)
    clear hv hvl hB hfin HF e4
    go_wp2_with ((with_reducible show wpList _ _ _ (Oper.mk (some 11) _ _ _ _ _ :: _) _ _); refine wpList_alloc_row rfl 75 rfl _ (zero64 _) ?_)
    obtain ⟨q, hq⟩ : ∃ q, q = wr.heap.size := ⟨_, rfl⟩
    rw [← hq] at HX HLT ⊢
    clear hq
    generalize Value.bool (decide ((n : Int) < 10)) = u20
    go_loopw [52] (fun i wr => ∃ i9 : Nat, i9 ≤ 64 ∧ i = .int .i64 i9 ∧ wr.heap[q]? = some (.cells (arr .u8 ((blockOf v s).take i9 ++ List.replicate (64 - i9) 0)) 75 (0, 0)) ∧ Bk w wr g h s v) (fun i _ => 64 - (intOf i).toNat)
    case atStart => exact ⟨0, Nat.zero_le _, rfl, HX.out, HB5.out⟩
    clear HX HB5
    case round =>
    obtain ⟨i9, hi9, rfl, hb, hB⟩ := hrel
    have hbl : (blockOf v s).length = 64 := by simp [blockOf]
    by_cases hlt9 : i9 < 64
    · have y0 := blk_arr hB.bv (i9 / 4) (by rw [HVL.out]; omega)
      have y1 := blk_arr hB.bs (i9 / 4) (by rw [HSL.out]; omega)
      have y2 := free_blk hb i9
      have y3 := blk_arr hb i9 (by simp [hbl]; omega)
      have G1 : Hid (∀ u, u = add (v.getD (i9 / 4) 0) (s.getD (i9 / 4) 0) / 2 ^ (8 * (i9 % 4)) % 256 → (wr.setCell ⟨q, i9, none⟩ (.int .u8 u)).heap[q]? = some (.cells (arr .u8 ((blockOf v s).take (i9 + 1) ++ List.replicate (64 - (i9 + 1)) 0)) 75 (0, 0))) := Lib.hid (by
        rintro u rfl
        rw [blk_arr_set hb, out_set v s i9 hlt9])
      have HRS := Lib.hid (fun u => hB.out q i9 u HLT.out)
      have e1 : (8 * ((i9 : Int) % 4)).toNat = 8 * (i9 % 4) := by omega
      have e2 : 0 ≤ 8 * ((i9 : Int) % 4) := by omega
      have e3 : 8 * ((i9 : Int) % 4) ≤ 24 := by omega
      clear hb hB hbl
      generalize v.getD (i9 / 4) 0 = x at y0 G1
      generalize s.getD (i9 / 4) 0 = y at y1 G1
      go_wp2_with fail
      go_region
      clear e1 e2 e3 y0 y1 y2 y3
      go_wp2_with fail
      go_roundw
      case rel => exact ⟨i9 + 1, by omega, by go_num, G1.out _ rfl, (HRS.out _).drew⟩
      case measure => simp [intOf]; omega
    · have e9 : i9 = 64 := by omega
      rw [e9, Nat.sub_self, List.replicate_zero, List.append_nil, List.take_of_length_le (by omega)] at hb
      obtain ⟨bb, hbb⟩ : ∃ bb, bb = blockOf v s := ⟨_, rfl⟩
      rw [← hbb] at hb hbl
      have z1 : (Try.prog.info? 75).map (·.size) = some bb.length := by rw [hbl]; exact size64
      have z2 : (Try.prog.info? 75).map (·.size) = some (arr .u8 bb).size := by rw [arr_size]; exact z1
      have z3 : (arr .u8 bb).size = (arr .u8 (List.replicate 64 0)).size := by rw [arr_size, arr_size, hbl, List.length_replicate]
      have z4 : ((arr .u8 bb).toList.drop 0).take bb.length = bb.map (Value.int .u8) := by rw [arr_toList, List.drop_zero, List.take_of_length_le (by simp)]
      have HB := Lib.hid hb
      have HBB := Lib.hid hbb
      have HRE := Lib.hid hB
      have ZZ1 := Lib.hid z1
      have ZZ2 := Lib.hid z2
      have ZZ3 := Lib.hid z3
      have ZZ4 := Lib.hid z4
      clear hb hB z1 z2 z3 z4 e9 hbb hbl
      go_wp2_with (first | ((with_reducible show wpList _ _ _ (Oper.mk (some 72) _ _ _ _ _ :: _) _ _); refine wpList_load_part rfl 75 _ rfl q 0 _ 75 (0, 0) _ HB.out rfl .u8 bb ZZ4.out Try.underlying75 rfl ZZ1.out ?_) | ((with_reducible show wpList _ _ _ (Oper.mk none _ _ _ _ _ :: _) _ _); refine wpList_store_whole rfl 75 _ _ rfl (w.heap.size + 1 + 1) _ _ 75 HRE.out.br rfl rfl ZZ3.out ZZ2.out (all_arr _ _) ?_; intro w7 hb7 hk7 hz7; have HB7 := Lib.hid hb7; have HK7 := Lib.hid hk7; clear hb7 hk7 hz7))
      (try simp only [Exit.inBlock, Exit.then])
      refine bodyPost_ret (results_cell_row rfl _ _ (w.heap.size + 1 + 1) 75 _ (0, 0) _ rfl HB7.out Try.underlying75 rfl ZZ2.out) rfl ?_
      rw [HBB.out, HF2.out]
      exact ⟨rfl, HRE.out.below.trans (HK7.out.toBelow HRE.out.below.size (by rintro i rfl; omega))⟩

end Go.Proofs.Ytoljnogpegemjaa.Ch
