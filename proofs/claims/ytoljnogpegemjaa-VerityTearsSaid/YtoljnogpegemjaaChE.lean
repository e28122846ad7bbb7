/- The document's Block: what it answers. Condition: the key has 32 bytes, the nonce 12. -/
import Derived.Test.YtoljnogpegemjaaChD
namespace Go.Proofs.Ytoljnogpegemjaa.Ch
open Go.RowKit

theorem and255w (y : Int) : IntKind.u8.wrap (bits .and .u32 y 255) = y % 256 := by
  have h2 : (BitVec.ofInt 32 (255 : Int)).toNat = 255 := by decide
  have e : ∀ x : Nat, x &&& 255 = x % 256 := fun x => Nat.and_two_pow_sub_one_eq_mod x 8
  show IntKind.u8.wrap (IntKind.u32.wrap ((BitVec.ofInt 32 y &&& BitVec.ofInt 32 (255 : Int)).toNat : Int)) = _
  rw [BitVec.toNat_and, h2, e, BitVec.toNat_ofInt, IntKind.wrap_u8, IntKind.wrap_u32]
  omega
theorem and32i (c : Int) : bits .and .i64 c 4294967295 = c % 4294967296 := by
  have h2 : (BitVec.ofInt 64 (4294967295 : Int)).toNat = 4294967295 := by decide
  have e : ∀ x : Nat, x &&& 4294967295 = x % 4294967296 := fun x => Nat.and_two_pow_sub_one_eq_mod x 32
  show IntKind.i64.wrap ((BitVec.ofInt 64 c &&& BitVec.ofInt 64 (4294967295 : Int)).toNat : Int) = _
  rw [BitVec.toNat_and, h2, e, BitVec.toNat_ofInt, IntKind.wrap_i64]
  omega

theorem rquarter_at (p : Nat) (s : List Int) (a b c d : Nat) (ia ib ic id : Int) (w : World) (hp : w.heap[p]? = some (.cells (arr .u32 s) 86 (0, 0))) (hl : s.length = 16) (ha : a < 16) (hb : b < 16) (hc : c < 16) (hd : d < 16) (ea : ia = a) (eb : ib = b) (ec : ic = c) (ed : id = d) :
    Calls Try.prog 48 #[.pointer (some ⟨p, 0, none⟩), .int .i64 ia, .int .i64 ib, .int .i64 ic, .int .i64 id] w fun e w' => e = .returned (.tuple #[]) ∧ w'.heap[p]? = some (.cells (arr .u32 (quarter s a b c d)) 86 (0, 0)) ∧ Kept (fun x => x = p) w w' := by
  subst ea eb ec ed
  exact rquarter_any p s a b c d w hp hl ha hb hc hd
theorem dbl (v : List Int) : quarter (quarter (quarter (quarter (quarter (quarter (quarter (quarter v 0 4 8 12) 1 5 9 13) 2 6 10 14) 3 7 11 15) 0 5 10 15) 1 6 11 12) 2 7 8 13) 3 4 9 14 = diags (cols v 4) 4 := by simp [cols, diags, List.range_succ]
theorem Bk.drewN {w wr : World} {g h : Nat} {s v : List Int} (b : Bk w wr g h s v) (n : Nat) : Bk w (wr.drewN n) g h s v := ⟨b.br, b.bs, b.bv, ⟨b.below.os, b.below.tape, b.below.output, b.below.size, b.below.block⟩, b.lt, b.gh⟩

/-- What holds while the words are laid. -/
structure Bo (w wr : World) (key nonce s : List Int) : Prop where
  bk : wr.heap[w.heap.size]? = some (.cells (arr .u8 key) 23 (0, 0))
  bn : wr.heap[w.heap.size + 1]? = some (.cells (arr .u8 nonce) 46 (0, 0))
  br : wr.heap[w.heap.size + 1 + 1]? = some (.cells (arr .u8 (List.replicate 64 0)) 75 (0, 0))
  bs : wr.heap[w.heap.size + 1 + 1 + 1]? = some (.cells (arr .u32 s) 86 (0, 0))
  below : Below w.heap.size w wr
theorem Bo.start (w : World) (key nonce s : List Int) : Bo w ((((w.alloc (.cells (arr .u8 key) 23)).alloc (.cells (arr .u8 nonce) 46)).alloc (.cells (arr .u8 (List.replicate 64 0)) 75)).alloc (.cells (arr .u32 s) 86)) key nonce s := by
  have e1 : ∀ o, (w.alloc o).heap.size = w.heap.size + 1 := by simp
  have e2 : ∀ o p, ((w.alloc o).alloc p).heap.size = w.heap.size + 1 + 1 := by simp
  have e3 : ∀ o p q, (((w.alloc o).alloc p).alloc q).heap.size = w.heap.size + 1 + 1 + 1 := by simp
  refine ⟨blk_alloc (blk_alloc (blk_alloc (blk_new w _) _) _) _, ?_, ?_, ?_, ((((Below.refl _ w).alloc (Nat.le_refl _) _).alloc (by rw [e1]; omega) _).alloc (by rw [e2]; omega) _).alloc (by rw [e3]; omega) _⟩
  · rw [← e1]
    exact blk_alloc (blk_alloc (blk_new _ _) _) _
  · rw [← e2]
    exact blk_alloc (blk_new _ _) _
  · rw [← e3]
    exact blk_new _ _
theorem Bo.drewN {w wr : World} {key nonce s : List Int} (h : Bo w wr key nonce s) (n : Nat) : Bo w (wr.drewN n) key nonce s := ⟨h.bk, h.bn, h.br, h.bs, Go.Proofs.Ytoljnogpegemjaa.Below.drewN h.below n⟩
theorem Bo.set {w wr : World} {key nonce s : List Int} (h : Bo w wr key nonce s) (i : Nat) (x : Int) : Bo w (wr.setCell ⟨w.heap.size + 1 + 1 + 1, i, none⟩ (.int .u32 x)) key nonce (s.set i x) :=
  ⟨blk_setCell_ne h.bk _ (by omega), blk_setCell_ne h.bn _ (by omega), blk_setCell_ne h.br _ (by omega), blk_arr_set h.bs i x, h.below.setCell (p := ⟨w.heap.size + 1 + 1 + 1, i, none⟩) (by simp; omega) _⟩

set_option maxRecDepth 100000 in
set_option maxHeartbeats 4000000 in
theorem rblock_any (key nonce : List Int) (c : Int) (w : World) (hk : key.length = 32) (hn : nonce.length = 12) (bk : bytes key) (bn : bytes nonce) :
    Calls Try.prog 38 #[.agg (arr .u8 key), .int .i64 c, .agg (arr .u8 nonce)] w fun e w' => e = .returned (.agg (arr .u8 (block key (c % 4294967296) nonce))) ∧ Below w.heap.size w w' := by
  have al := al32
  have al2 := al12
  have HK := Lib.hid hk
  have HN := Lib.hid hn
  have BK := Lib.hid bk
  have BN := Lib.hid bn
  obtain ⟨wA, hwA⟩ : ∃ wA, wA = ((((w.alloc (.cells (arr .u8 key) 23)).alloc (.cells (arr .u8 nonce) 46)).alloc (.cells (arr .u8 (List.replicate 64 0)) 75)).alloc (.cells (arr .u32 (List.replicate 16 0)) 86)) := ⟨_, rfl⟩
  have s0 := Bo.start w key nonce (List.replicate 16 0)
  rw [← hwA] at s0
  have y0 := blk_arr s0.bs 0 (by simp)
  have y1 := blk_arr s0.bs 1 (by simp)
  have y2 := blk_arr s0.bs 2 (by simp)
  have y3 := blk_arr s0.bs 3 (by simp)
  have f0 := free_blk s0.bs 0
  have f1 := free_blk s0.bs 1
  have f2 := free_blk s0.bs 2
  have f3 := free_blk s0.bs 3
  have S0 := Lib.hid ((((s0.set 0 1634760805).set 1 857760878).set 2 2036477234).set 3 1797285236)
  have HL0 : Hid (((((List.replicate 16 (0 : Int)).set 0 1634760805).set 1 857760878).set 2 2036477234).set 3 1797285236 = lay [1634760805, 857760878, 2036477234, 1797285236] (fun i => word key (4 * i)) 0 12) := Lib.hid (by rfl)
  have HWA := Lib.hid hwA
  have hc := and32i c
  clear hk hn bk bn hwA s0
  go_enter Try.func38, Try.ntmps38
  go_wp2_with (first | ((with_reducible show wpList _ _ _ (Oper.mk (some 6) _ _ _ _ _ :: _) _ _); refine wpList_alloc_row rfl 75 rfl _ (zero64 _) ?_) | ((with_reducible show wpList _ _ _ (Oper.mk (some 7) _ _ _ _ _ :: _) _ _); refine wpList_alloc_row rfl 86 rfl _ (zero16 _) ?_; rw [← HWA.out]))
  have s1 := S0.out
  rw [HL0.out] at s1
  have S1 := Lib.hid s1
  clear s1 S0 HL0 HWA y0 y1 y2 y3 f0 f1 f2 f3
  go_loopw [8] (fun i wr => ∃ n : Nat, n ≤ 8 ∧ i = .int .i64 n ∧ Bo w wr key nonce (lay [1634760805, 857760878, 2036477234, 1797285236] (fun i => word key (4 * i)) n 12)) (fun i _ => 8 - (intOf i).toNat)
  case atStart => exact ⟨0, Nat.zero_le _, rfl, S1.out⟩
  clear S1
  case round =>
  obtain ⟨n, hn8, rfl, hB⟩ := hrel
  by_cases hlt : n < 8
  · have HB := Lib.hid hB
    have hsl := slice_l 23 32 w.heap.size (4 * n) (by kernel_rfl) al (fun w => by kernel_rfl) (by omega)
    rw [show ((4 * n : Nat) : Int) = 4 * (n : Int) by omega] at hsl
    have hc4 : ∀ j, j < 4 → wr.cell? ⟨w.heap.size, 4 * n + j, none⟩ = some (.int .u8 (key.getD (4 * n + j) 0)) := fun j hj => blk_arr hB.bk _ (by rw [HK.out]; omega)
    have HC := Lib.hid hc4
    have hfr := free_blk hB.bs (4 + n)
    have hce := blk_arr hB.bs (4 + n) (by rw [lay_len _ _ _ _ (by omega)]; simp; omega)
    clear hB hc4
    go_wp2_with (go_at_call 47; refine (little_any w.heap.size (4 * n) (32 - 4 * n) (32 - 4 * n) key (4 * n) wr BK.out (by omega) (HC.out 0 (by omega)) (HC.out 1 (by omega)) (HC.out 2 (by omega)) (HC.out 3 (by omega))).mono ?_; rintro e w' ⟨rfl, k, rfl⟩)
    have hd := HB.out.drewN k
    have HS := Lib.hid (hd.set (4 + n) (word key (4 * n)))
    have HL := Lib.hid (lay_set [1634760805, 857760878, 2036477234, 1797285236] (fun i => word key (4 * i)) n 12 (by omega))
    clear hsl HC hfr hce hd HB
    go_roundw
    case rel =>
      refine ⟨n + 1, by omega, by go_num, ?_⟩
      rw [← HL.out]
      exact HS.out
    case measure => simp [intOf]; omega
  · have e8 : n = 8 := by omega
    rw [e8] at hB
    obtain ⟨pre, hpre⟩ : ∃ pre, pre = [1634760805, 857760878, 2036477234, 1797285236] ++ (List.range 8).map fun i => word key (4 * i) := ⟨_, rfl⟩
    have hpl : pre.length = 12 := by rw [hpre]; simp
    obtain ⟨cc, hcc⟩ : ∃ cc, cc = c % 4294967296 := ⟨_, rfl⟩
    have hcb : 0 ≤ cc := by omega
    have hcb2 : cc ≤ 4294967295 := by omega
    rw [← hcc] at hc
    rw [lay_more _ _ 8 12 (fun _ => cc) (by omega), ← hpre] at hB
    have hc12 := blk_arr hB.bs 12 (by rw [lay_len _ _ _ _ (by omega)]; omega)
    have hf12 := free_blk hB.bs 12
    have hs12 := lay_set pre (fun _ => cc) 0 4 (by omega)
    rw [hpl, lay_more _ _ (0 + 1) 4 (fun i => word nonce (4 * i)) (by omega)] at hs12
    have hB2 := hB.set 12 cc
    rw [show (12 : Nat) = 12 + 0 by rfl, hs12] at hB2
    obtain ⟨pre2, hpre2⟩ : ∃ pre2, pre2 = pre ++ (List.range (0 + 1)).map fun _ => cc := ⟨_, rfl⟩
    rw [← hpre2] at hB2
    have hpl2 : pre2.length = 13 := by rw [hpre2]; simp; omega
    have hend : pre2 ++ ((List.range 3).map fun i => word nonce (4 * i)) = begin key cc nonce := by rw [hpre2, hpre]; rfl
    have HB2 := Lib.hid hB2
    have HP2 := Lib.hid hpl2
    have HE := Lib.hid hend
    have HCC := Lib.hid hcc
    clear hB hs12 hB2 hpre hpre2 hpl hpl2 hend e8 hcc
    go_wp2_with fail
    clear hc12 hf12
    generalize Value.bool (decide ((n : Int) < 8)) = u20
    go_loopw [9] (fun i wr => ∃ n : Nat, n ≤ 3 ∧ i = .int .i64 n ∧ Bo w wr key nonce (lay pre2 (fun i => word nonce (4 * i)) n 3)) (fun i _ => 3 - (intOf i).toNat)
    case atStart => exact ⟨0, Nat.zero_le _, rfl, HB2.out⟩
    clear HB2
    case round =>
    obtain ⟨n, hn8, rfl, hB⟩ := hrel
    by_cases hlt : n < 3
    · have HB := Lib.hid hB
      have hsl := slice_l 46 12 (w.heap.size + 1) (4 * n) (by kernel_rfl) al2 (fun w => by kernel_rfl) (by omega)
      rw [show ((4 * n : Nat) : Int) = 4 * (n : Int) by omega] at hsl
      have hc4 : ∀ j, j < 4 → wr.cell? ⟨w.heap.size + 1, 4 * n + j, none⟩ = some (.int .u8 (nonce.getD (4 * n + j) 0)) := fun j hj => blk_arr hB.bn _ (by rw [HN.out]; omega)
      have HC := Lib.hid hc4
      have hfr := free_blk hB.bs (13 + n)
      have hce := blk_arr hB.bs (13 + n) (by rw [lay_len _ _ _ _ (by omega), HP2.out]; omega)
      clear hB hc4
      go_wp2_with (go_at_call 47; refine (little_any (w.heap.size + 1) (4 * n) (12 - 4 * n) (12 - 4 * n) nonce (4 * n) wr BN.out (by omega) (HC.out 0 (by omega)) (HC.out 1 (by omega)) (HC.out 2 (by omega)) (HC.out 3 (by omega))).mono ?_; rintro e w' ⟨rfl, k, rfl⟩)
      have hd := HB.out.drewN k
      have hl := lay_set pre2 (fun i => word nonce (4 * i)) n 3 (by omega)
      rw [HP2.out] at hl
      have HS := Lib.hid (hd.set (13 + n) (word nonce (4 * n)))
      have HL := Lib.hid hl
      clear hsl HC hfr hce hd HB hl
      go_roundw
      case rel =>
        refine ⟨n + 1, by omega, by go_num, ?_⟩
        rw [← HL.out]
        exact HS.out
      case measure => simp [intOf]; omega
    · have e3 : n = 3 := by omega
      rw [e3] at hB
      rw [show lay pre2 (fun i => word nonce (4 * i)) 3 3 = begin key cc nonce by rw [← HE.out]; simp [lay]] at hB
      obtain ⟨s, hs⟩ : ∃ s, s = begin key cc nonce := ⟨_, rfl⟩
      rw [← hs] at hB
      have hsl : s.length = 16 := by rw [hs]; exact begin_len _ _ _
      have hp : ((arr .u32 s).toList.drop 0).take s.length = s.map (Value.int .u32) := by rw [List.drop_zero, arr_toList, List.take_of_length_le (by simp)]
      have z1 : (Try.prog.info? 86).map (·.size) = some s.length := by rw [hsl]; exact size16
      have z2 : (Try.prog.info? 86).map (·.size) = some (arr .u32 s).size := by rw [arr_size]; exact z1
      have z3 : (arr .u32 s).size = (arr .u32 (List.replicate 16 0)).size := by rw [arr_size, arr_size, hsl, List.length_replicate]
      have hfin : blockOf (doubles s 10) s = block key (c % 4294967296) nonce := by rw [hs, HCC.out]; rfl
      have HB := Lib.hid hB
      have HP := Lib.hid hp
      have Z1 := Lib.hid z1
      have Z2 := Lib.hid z2
      have Z3 := Lib.hid z3
      have HF := Lib.hid hfin
      have HSL := Lib.hid hsl
      obtain ⟨w2, hw2⟩ : ∃ w2, w2 = wr := ⟨_, rfl⟩
      rw [← hw2] at HB ⊢
      clear hB hp z1 z2 z3 hs hsl hfin e3 hw2 HE HP2 HCC
      go_wp2_with (first | ((with_reducible show wpList _ _ _ (Oper.mk (some 45) _ _ _ _ _ :: _) _ _); refine wpList_load_part rfl 86 _ rfl (w.heap.size + 1 + 1 + 1) 0 _ 86 (0, 0) _ HB.out.bs rfl .u32 s HP.out Try.underlying86 rfl Z1.out ?_) | ((with_reducible show wpList _ _ _ (Oper.mk (some 10) _ _ _ _ _ :: _) _ _); refine wpList_alloc_row rfl 86 rfl _ (zero16 _) ?_) | ((with_reducible show wpList _ _ _ (Oper.mk none (.store _ (.tmp 10) _) _ _ _ _ :: _) _ _); refine wpList_store_whole rfl 86 _ _ rfl w2.heap.size _ _ 86 (blk_new w2 _) rfl rfl Z3.out Z2.out (all_arr _ _) ?_; intro w3 hb3 hk3 hz3; have HB3 := Lib.hid hb3; have HK3 := Lib.hid hk3; clear hb3 hk3 hz3))
      have hB : Bk w w3 (w.heap.size + 1 + 1 + 1) w2.heap.size s s := by
        have h0 := blk_lt HB.out.bs
        refine ⟨HK3.out.blk (blk_alloc HB.out.br _) (by omega), HK3.out.blk (blk_alloc HB.out.bs _) (by omega), HB3.out, ?_, by omega, by omega⟩
        exact HB.out.below.trans (((Below.refl w.heap.size w2).alloc (by omega) _).trans (HK3.out.toBelow (B := w.heap.size) (by simp; omega) (by rintro i rfl; omega)))
      have HB0 := Lib.hid hB
      clear hB HB3 HK3 HB HP Z1 Z2 Z3
      generalize w2.heap.size = h at HB0 ⊢
      generalize Value.bool (decide ((n : Int) < 3)) = u35
      go_loopw [11] (fun i wr => ∃ n : Nat, n ≤ 10 ∧ i = .int .i64 n ∧ Bk w wr (w.heap.size + 1 + 1 + 1) h s (doubles s n)) (fun i _ => 10 - (intOf i).toNat)
      case atStart => exact ⟨0, Nat.zero_le _, rfl, HB0.out⟩
      clear HB0
      case round =>
      obtain ⟨m, hm8, rfl, hB⟩ := hrel
      by_cases hltm : m < 10
      · obtain ⟨v0, hv⟩ : ∃ v, v = doubles s m := ⟨_, rfl⟩
        rw [← hv] at hB
        have hvl : v0.length = 16 := by rw [hv, doubles_len]; exact HSL.out
        have HV := Lib.hid hv
        have L0 := Lib.hid hvl
        have B0 := Lib.hid hB
        obtain ⟨w0, hw0⟩ : ∃ w0, w0 = wr := ⟨_, rfl⟩
        rw [← hw0] at B0 ⊢
        clear hv hvl hB hw0
        obtain ⟨v1, hv1⟩ : ∃ t, t = quarter v0 0 4 8 12 := ⟨_, rfl⟩
        have L1 : Hid (v1.length = 16) := Lib.hid (by rw [hv1, quarter_len]; exact L0.out)
        have V1 := Lib.hid hv1
        clear hv1
        obtain ⟨v2, hv2⟩ : ∃ t, t = quarter v1 1 5 9 13 := ⟨_, rfl⟩
        have L2 : Hid (v2.length = 16) := Lib.hid (by rw [hv2, quarter_len]; exact L1.out)
        have V2 := Lib.hid hv2
        clear hv2
        obtain ⟨v3, hv3⟩ : ∃ t, t = quarter v2 2 6 10 14 := ⟨_, rfl⟩
        have L3 : Hid (v3.length = 16) := Lib.hid (by rw [hv3, quarter_len]; exact L2.out)
        have V3 := Lib.hid hv3
        clear hv3
        obtain ⟨v4, hv4⟩ : ∃ t, t = quarter v3 3 7 11 15 := ⟨_, rfl⟩
        have L4 : Hid (v4.length = 16) := Lib.hid (by rw [hv4, quarter_len]; exact L3.out)
        have V4 := Lib.hid hv4
        clear hv4
        obtain ⟨v5, hv5⟩ : ∃ t, t = quarter v4 0 5 10 15 := ⟨_, rfl⟩
        have L5 : Hid (v5.length = 16) := Lib.hid (by rw [hv5, quarter_len]; exact L4.out)
        have V5 := Lib.hid hv5
        clear hv5
        obtain ⟨v6, hv6⟩ : ∃ t, t = quarter v5 1 6 11 12 := ⟨_, rfl⟩
        have L6 : Hid (v6.length = 16) := Lib.hid (by rw [hv6, quarter_len]; exact L5.out)
        have V6 := Lib.hid hv6
        clear hv6
        obtain ⟨v7, hv7⟩ : ∃ t, t = quarter v6 2 7 8 13 := ⟨_, rfl⟩
        have L7 : Hid (v7.length = 16) := Lib.hid (by rw [hv7, quarter_len]; exact L6.out)
        have V7 := Lib.hid hv7
        clear hv7
        obtain ⟨v8, hv8⟩ : ∃ t, t = quarter v7 3 4 9 14 := ⟨_, rfl⟩
        have L8 : Hid (v8.length = 16) := Lib.hid (by rw [hv8, quarter_len]; exact L7.out)
        have V8 := Lib.hid hv8
        clear hv8
        go_wp2_with (first | ((with_reducible show Calls _ _ _ w0 _); go_at_call 48; refine (rquarter_at h v0 0 4 8 12 0 4 8 12 w0 B0.out.bv L0.out (by omega) (by omega) (by omega) (by omega) (by rfl) (by rfl) (by rfl) (by rfl)).mono ?_; rintro e w1 ⟨rfl, hb4, hk4⟩; rw [← V1.out] at hb4; have B1 := Lib.hid (B0.out.kept hk4 hb4); clear hb4 hk4) | ((with_reducible show Calls _ _ _ w1 _); go_at_call 48; refine (rquarter_at h v1 1 5 9 13 1 5 9 13 w1 B1.out.bv L1.out (by omega) (by omega) (by omega) (by omega) (by rfl) (by rfl) (by rfl) (by rfl)).mono ?_; rintro e w2 ⟨rfl, hb4, hk4⟩; rw [← V2.out] at hb4; have B2 := Lib.hid (B1.out.kept hk4 hb4); clear hb4 hk4) | ((with_reducible show Calls _ _ _ w2 _); go_at_call 48; refine (rquarter_at h v2 2 6 10 14 2 6 10 14 w2 B2.out.bv L2.out (by omega) (by omega) (by omega) (by omega) (by rfl) (by rfl) (by rfl) (by rfl)).mono ?_; rintro e w3 ⟨rfl, hb4, hk4⟩; rw [← V3.out] at hb4; have B3 := Lib.hid (B2.out.kept hk4 hb4); clear hb4 hk4) | ((with_reducible show Calls _ _ _ w3 _); go_at_call 48; refine (rquarter_at h v3 3 7 11 15 3 7 11 15 w3 B3.out.bv L3.out (by omega) (by omega) (by omega) (by omega) (by rfl) (by rfl) (by rfl) (by rfl)).mono ?_; rintro e w4 ⟨rfl, hb4, hk4⟩; rw [← V4.out] at hb4; have B4 := Lib.hid (B3.out.kept hk4 hb4); clear hb4 hk4) | ((with_reducible show Calls _ _ _ w4 _); go_at_call 48; refine (rquarter_at h v4 0 5 10 15 0 5 10 15 w4 B4.out.bv L4.out (by omega) (by omega) (by omega) (by omega) (by rfl) (by rfl) (by rfl) (by rfl)).mono ?_; rintro e w5 ⟨rfl, hb4, hk4⟩; rw [← V5.out] at hb4; have B5 := Lib.hid (B4.out.kept hk4 hb4); clear hb4 hk4) | ((with_reducible show Calls _ _ _ w5 _); go_at_call 48; refine (rquarter_at h v5 1 6 11 12 1 6 11 12 w5 B5.out.bv L5.out (by omega) (by omega) (by omega) (by omega) (by rfl) (by rfl) (by rfl) (by rfl)).mono ?_; rintro e w6 ⟨rfl, hb4, hk4⟩; rw [← V6.out] at hb4; have B6 := Lib.hid (B5.out.kept hk4 hb4); clear hb4 hk4) | ((with_reducible show Calls _ _ _ w6 _); go_at_call 48; refine (rquarter_at h v6 2 7 8 13 2 7 8 13 w6 B6.out.bv L6.out (by omega) (by omega) (by omega) (by omega) (by rfl) (by rfl) (by rfl) (by rfl)).mono ?_; rintro e w7 ⟨rfl, hb4, hk4⟩; rw [← V7.out] at hb4; have B7 := Lib.hid (B6.out.kept hk4 hb4); clear hb4 hk4) | ((with_reducible show Calls _ _ _ w7 _); go_at_call 48; refine (rquarter_at h v7 3 4 9 14 3 4 9 14 w7 B7.out.bv L7.out (by omega) (by omega) (by omega) (by omega) (by rfl) (by rfl) (by rfl) (by rfl)).mono ?_; rintro e w8 ⟨rfl, hb4, hk4⟩; rw [← V8.out] at hb4; have B8 := Lib.hid (B7.out.kept hk4 hb4); clear hb4 hk4))
        have HB5 : Hid (Bk w w8 (w.heap.size + 1 + 1 + 1) h s (doubles s (m + 1))) := Lib.hid (by rw [doubles_succ, ← HV.out, ← dbl, ← V1.out, ← V2.out, ← V3.out, ← V4.out, ← V5.out, ← V6.out, ← V7.out, ← V8.out]; exact B8.out)
        clear B0 B1 B2 B3 B4 B5 B6 B7 B8
        go_roundw
        case rel => exact ⟨m + 1, by omega, by go_num, HB5.out⟩
        case measure => simp [intOf]; omega
      · have e4 : m = 10 := by omega
        rw [e4] at hB
        obtain ⟨v, hv⟩ : ∃ v, v = doubles s 10 := ⟨_, rfl⟩
        have hvl : v.length = 16 := by rw [hv, doubles_len]; exact HSL.out
        rw [← hv] at hB
        have hfin := HF.out
        rw [← hv] at hfin
        have HF2 := Lib.hid hfin
        have HVL := Lib.hid hvl
        have HB5 := Lib.hid (hB.alloc (.cells (arr .u8 (List.replicate 64 0)) 75))
        have HX : Hid ((wr.alloc (.cells (arr .u8 (List.replicate 64 0)) 75)).heap[wr.heap.size]? = some (.cells (arr .u8 ((blockOf v s).take 0 ++ List.replicate (64 - 0) 0)) 75 (0, 0))) := Lib.hid (blk_new _ _)
        have HLT : Hid (h < wr.heap.size) := Lib.hid (blk_lt hB.bv)
        clear hv hvl hB hfin HF e4
        go_wp2_with ((with_reducible show wpList _ _ _ (Oper.mk (some 12) _ _ _ _ _ :: _) _ _); refine wpList_alloc_row rfl 75 rfl _ (zero64 _) ?_)
        obtain ⟨q, hq⟩ : ∃ q, q = wr.heap.size := ⟨_, rfl⟩
        rw [← hq] at HX HLT ⊢
        clear hq
        generalize Value.bool (decide ((m : Int) < 10)) = u47
        go_loopw [13] (fun i wr => ∃ i9 : Nat, i9 ≤ 64 ∧ i = .int .i64 i9 ∧ wr.heap[q]? = some (.cells (arr .u8 ((blockOf v s).take i9 ++ List.replicate (64 - i9) 0)) 75 (0, 0)) ∧ Bk w wr (w.heap.size + 1 + 1 + 1) h s v) (fun i _ => 64 - (intOf i).toNat)
        case atStart => exact ⟨0, Nat.zero_le _, rfl, HX.out, HB5.out⟩
        clear HX HB5
        case round =>
        obtain ⟨i9, hi9, rfl, hb, hB⟩ := hrel
        have hbl : (blockOf v s).length = 64 := by simp [blockOf]
        by_cases hlt9 : i9 < 64
        · have y0 := blk_arr hB.bv (i9 / 4) (by rw [HVL.out]; omega)
          have y1 := blk_arr hB.bs (i9 / 4) (by rw [HSL.out]; omega)
          have y2 := free_blk hb i9
          have y3 := blk_arr hb i9 (by simp [hbl]; omega)
          have G1 : Hid (∀ k u, u = add (v.getD (i9 / 4) 0) (s.getD (i9 / 4) 0) / 2 ^ (8 * (i9 % 4)) % 256 → ((wr.drewN k).setCell ⟨q, i9, none⟩ (.int .u8 u)).heap[q]? = some (.cells (arr .u8 ((blockOf v s).take (i9 + 1) ++ List.replicate (64 - (i9 + 1)) 0)) 75 (0, 0))) := Lib.hid (by
            rintro k u rfl
            have hb : (wr.drewN k).heap[q]? = some (.cells (arr .u8 ((blockOf v s).take i9 ++ List.replicate (64 - i9) 0)) 75 (0, 0)) := hb
            rw [blk_arr_set hb, out_set v s i9 hlt9])
          have HRS := Lib.hid (fun k u => (hB.drewN k).out q i9 u HLT.out)
          have e1 : (8 * ((i9 : Int) % 4)).toNat = 8 * (i9 % 4) := by omega
          have e2 : 0 ≤ 8 * ((i9 : Int) % 4) := by omega
          have e3 : 8 * ((i9 : Int) % 4) ≤ 24 := by omega
          clear hb hB hbl
          generalize v.getD (i9 / 4) 0 = x at y0 G1
          generalize s.getD (i9 / 4) 0 = y at y1 G1
          go_wp2_with fail
          go_quiet (fail)
          have y4 : (wr.drewN nq).frozen? ⟨q, i9, none⟩ = false := y2
          have y5 := (show (wr.drewN nq).cell? ⟨q, i9, none⟩ = wr.cell? ⟨q, i9, none⟩ from rfl).trans y3
          go_wp2_with fail
          clear e1 e2 e3 y0 y1 y2 y3 y4 y5
          go_roundw
          case rel => exact ⟨i9 + 1, by omega, by go_num, G1.out _ _ (and255w _), HRS.out _ _⟩
          case measure => simp [intOf]; omega
        · have e9 : i9 = 64 := by omega
          rw [e9, Nat.sub_self, List.replicate_zero, List.append_nil, List.take_of_length_le (by omega)] at hb
          obtain ⟨bb, hbb⟩ : ∃ bb, bb = blockOf v s := ⟨_, rfl⟩
          rw [← hbb] at hb hbl
          have z1 : (Try.prog.info? 75).map (·.size) = some bb.length := by rw [hbl]; exact size64
          have z2 : (Try.prog.info? 75).map (·.size) = some (arr .u8 bb).size := by rw [arr_size]; exact z1
          have z3 : (arr .u8 bb).size = (arr .u8 (List.replicate 64 0)).size := by rw [arr_size, arr_size, hbl, List.length_replicate]
          have z4 : ((arr .u8 bb).toList.drop 0).take bb.length = bb.map (Value.int .u8) := by rw [arr_toList, List.drop_zero, List.take_of_length_le (by simp)]
          have HB := Lib.hid hb
          have HBB := Lib.hid hbb
          have HRE := Lib.hid hB
          have ZZ1 := Lib.hid z1
          have ZZ2 := Lib.hid z2
          have ZZ3 := Lib.hid z3
          have ZZ4 := Lib.hid z4
          clear hb hB z1 z2 z3 z4 e9 hbb hbl
          go_wp2_with (first | ((with_reducible show wpList _ _ _ (Oper.mk (some 81) _ _ _ _ _ :: _) _ _); refine wpList_load_part rfl 75 _ rfl q 0 _ 75 (0, 0) _ HB.out rfl .u8 bb ZZ4.out Try.underlying75 rfl ZZ1.out ?_) | ((with_reducible show wpList _ _ _ (Oper.mk none _ _ _ _ _ :: _) _ _); refine wpList_store_whole rfl 75 _ _ rfl (w.heap.size + 1 + 1) _ _ 75 HRE.out.br rfl rfl ZZ3.out ZZ2.out (all_arr _ _) ?_; intro w7 hb7 hk7 hz7; have HB7 := Lib.hid hb7; have HK7 := Lib.hid hk7; clear hb7 hk7 hz7))
          (try simp only [Exit.inBlock, Exit.then])
          refine bodyPost_ret (results_cell_row rfl _ _ (w.heap.size + 1 + 1) 75 _ (0, 0) _ rfl HB7.out Try.underlying75 rfl ZZ2.out) rfl ?_
          rw [HBB.out, HF2.out]
          exact ⟨rfl, HRE.out.below.trans (HK7.out.toBelow HRE.out.below.size (by rintro i rfl; omega))⟩

end Go.Proofs.Ytoljnogpegemjaa.Ch
