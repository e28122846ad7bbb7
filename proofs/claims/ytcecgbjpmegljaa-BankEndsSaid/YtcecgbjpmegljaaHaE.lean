/- sha.Sum: the hash of lists of bytes. Condition: the bytes are fewer than 2^60. -/
import Derived.Test.YtcecgbjpmegljaaHaD
import Derived.Test.YtcecgbjpmegljaaSrcL
namespace Go.Proofs.Ytcecgbjpmegljaa.Ha
open Go.RowKit

theorem zeroOut (w : World) : (zeroValue 37).run Try.prog w = .ok (.agg (arr .u8 (List.replicate 32 0))) w := by kernel_rfl
theorem sizeOut : (Try.prog.info? 37).map (·.size) = some 32 := by kernel_rfl

/-- What holds while bytes are taken in. -/
structure SumR (w wr : World) (p : Nat) (s : S) (T : Int) : Prop where
  st : IsSt wr p s.h s.b s.n T
  ok : s.Ok
  res : wr.heap[w.heap.size]? = some (.cells (arr .u8 (List.replicate 32 0)) 37 (0, 0))
  below : Below w.heap.size w wr
  ne : w.heap.size < p
theorem SumR.take {w wr w' : World} {p : Nat} {s : S} {T x : Int} (h : SumR w wr p s T) (hx : 0 ≤ x ∧ x ≤ 255) (st : IsSt w' p (s.take x).h (s.take x).b (s.take x).n T) (k : Kept (fun i => i = p) wr w') : SumR w w' p (s.take x) T :=
  ⟨st, h.ok.take x hx, k.blk h.res (by have := h.ne; omega), h.below.trans (k.toBelow h.below.size (by rintro i rfl; have := h.ne; omega)), h.ne⟩
theorem SumR.long {w wr : World} {p : Nat} {s : S} {T : Int} (h : SumR w wr p s T) (x : Int) : SumR w (wr.setCell ⟨p, 137, none⟩ (.int .u64 x)) p s x :=
  ⟨h.st.set_l x, h.ok, blk_setCell_ne h.res _ (by have := h.ne; omega), h.below.setCell (p := ⟨p, 137, none⟩) (by have := h.ne; show w.heap.size ≤ p; omega) _, h.ne⟩

theorem SumR.alloc {w wr : World} {p : Nat} {s : S} {T : Int} (h : SumR w wr p s T) (o : Obj) : SumR w (wr.alloc o) p s T := ⟨h.st.alloc o, h.ok, blk_alloc h.res o, h.below.alloc h.below.size o, h.ne⟩
theorem SumR.far {w wr : World} {p g : Nat} {s : S} {T : Int} (h : SumR w wr p s T) (i : Nat) (v : Value) (hg : g ≠ p) (hw : w.heap.size < g) : SumR w (wr.setCell ⟨g, i, none⟩ v) p s T :=
  ⟨h.st.kept ((Kept.refl (fun x => x = g) wr).at i v) (fun e => hg e.symm), h.ok, blk_setCell_ne h.res _ (by omega), h.below.setCell (p := ⟨g, i, none⟩) (by show w.heap.size ≤ g; omega) _, h.ne⟩

def zs (n : Nat) : Nat := (2 * 64 - 8 - 1 - n % 64) % 64
theorem tail_eq (n : Nat) : tail n = ((128 :: List.replicate (zs n) 0) ++ List.replicate (8 - 8) 0) ++ (List.range 8).map fun i => ((8 * n / 2 ^ (8 * (7 - i)) % 256 : Nat) : Int) := by simp [tail, zs]
theorem byte_wrap (x : Int) : 0 ≤ IntKind.u8.wrap x ∧ IntKind.u8.wrap x ≤ 255 := by rw [IntKind.wrap_u8]; omega
theorem len_byte (n j : Nat) : IntKind.u8.wrap ((n : Int) * 8 / 2 ^ (8 * (7 - j))) = ((8 * n / 2 ^ (8 * (7 - j)) % 256 : Nat) : Int) := by
  rw [IntKind.wrap_u8, Nat.mul_comm 8 n, Int.natCast_emod, Int.natCast_ediv, Int.natCast_mul, Int.natCast_pow]
  rfl
theorem rep_snoc (k : Nat) : (128 : Int) :: List.replicate (k + 1) 0 = (128 :: List.replicate k 0) ++ [0] := by rw [List.replicate_succ', List.cons_append]
theorem dig_set (h : List Int) (i : Nat) (hi : i < 32) (v : Int) (hv : v = (digest h).getD i 0) : ((digest h).take i ++ List.replicate (32 - i) 0).set i v = (digest h).take (i + 1) ++ List.replicate (32 - (i + 1)) 0 := by
  have hl : (digest h).length = 32 := by simp [digest]
  rw [take_snoc _ i 0 (by omega), ← hv, List.set_append_right _ _ (by simp; omega), show 32 - i = (32 - (i + 1)) + 1 by omega, List.replicate_succ]
  simp [hl, Nat.min_eq_left (Nat.le_of_lt hi)]
theorem dig_get (h : List Int) (i : Nat) (hi : i < 32) : (digest h).getD i 0 = h.getD (i / 4) 0 / 2 ^ (8 * (3 - i % 4)) % 256 := by simp [digest, List.getD, hi]

set_option maxRecDepth 100000 in
set_option maxHeartbeats 6400000 in
theorem sum_any (sa : Option Addr) (n c : Nat) (L : List (List Int)) (w : World) (hs : SrcL w sa n L) (hx : ∀ l ∈ L, bytes l) (hN : L.flatten.length ≤ 1152921504606846976) (hn : n ≤ 1099511627776) :
    Calls Try.prog 51 #[.slice sa n c] w fun e w' => e = .returned (.agg (arr .u8 (hash L.flatten))) ∧ Below w.heap.size w w' := by
  have hres := blk_new w (.cells (arr .u8 (List.replicate 32 0)) 37)
  have hLn := hs.len
  have HB := Lib.hid (fun w => begin_any w)
  have HT := Lib.hid (fun p s l x w st ok hx => take_any p s l x w st ok hx)
  have HRES := Lib.hid hres
  have HS := Lib.hid hs
  have HX := Lib.hid hx
  have HLN := Lib.hid hLn
  clear hres hs hx hLn
  go_enter Try.func51, Try.ntmps51
  go_wp2_with (first | ((with_reducible show wpList _ _ _ (Oper.mk (some 2) _ _ _ _ _ :: _) _ _); refine wpList_alloc_row rfl 37 rfl _ (zeroOut _) ?_) | (go_at_call 53; refine (HB.out _).mono ?_; rintro e w1 ⟨p, rfl, st1, hp1, hb1⟩))
  have hR0 : SumR w w1 p S.new 0 := ⟨st1, S.Ok.new, Below.blk hb1 HRES.out (by simp), ((Below.refl _ w).alloc (Nat.le_refl _) _).trans (hb1.mono (by simp)), by simp at hp1; omega⟩
  have HR0 := Lib.hid hR0
  clear hR0 st1 hp1 hb1
  go_loopw [14] (fun i wr => ∃ j : Nat, j ≤ n ∧ i = .int .i64 j ∧ SumR w wr p (S.new.all (L.take j).flatten) ((L.take j).flatten.length : Int)) (fun i _ => n - (intOf i).toNat)
  case atStart => exact ⟨0, Nat.zero_le _, rfl, HR0.out⟩
  case round =>
    obtain ⟨j, hj, rfl, hR⟩ := hrel
    obtain ⟨wo, rfl⟩ : ∃ wo : World, wo = wr := ⟨_, rfl⟩
    by_cases hlt : j < n
    · obtain ⟨a, si, ci, rfl, hc, hlc, hsi⟩ := HS.out.cell j hlt
      have x1 := below_cell hR.below hc
      have hfl := flat_le L j (by rw [HLN.out]; exact hlt)
      have hbl : bytes (L.getD j []) := by
        have hjl : j < L.length := by rw [HLN.out]; exact hlt
        simp only [List.getD, List.getElem?_eq_getElem hjl, Option.getD_some]
        exact HX.out _ (List.getElem_mem hjl)
      have HFS := Lib.hid (flat_snoc L j (by rw [HLN.out]; exact hlt))
      obtain ⟨T, hT⟩ : ∃ T, T = (L.take j).flatten.length := ⟨_, rfl⟩
      obtain ⟨s0, hs0⟩ : ∃ s0, s0 = S.new.all (L.take j).flatten := ⟨_, rfl⟩
      rw [← hT, ← hs0] at hR
      rw [← hT] at hfl
      have HTT := Lib.hid hT
      have HS0 := Lib.hid hs0
      clear hT hs0
      generalize L.getD j [] = l at x1 hfl hbl HFS hsi hlc
      obtain ⟨m, hm⟩ : ∃ m, m = l.length := ⟨_, rfl⟩
      rw [← hm] at x1 hfl hsi hlc
      have HM := Lib.hid hm
      have HR := Lib.hid hR
      have HSI := Lib.hid hsi
      have HBL := Lib.hid hbl
      clear hm hR hsi hbl hc
      go_wp2_with fail
      go_loopw [20] (fun i wr => ∃ k : Nat, k ≤ m ∧ i = .int .i64 k ∧ SumR w wr p (s0.all (l.take k)) T) (fun i _ => m - (intOf i).toNat)
      case atStart => exact ⟨0, Nat.zero_le _, rfl, HR.out⟩
      case round =>
        obtain ⟨k, hk, rfl, hR⟩ := hrel
        by_cases hlt2 : k < m
        · obtain ⟨ad, rfl, hcc⟩ := HSI.out.cell k hlt2
          have x2 := below_cell hR.below hcc
          have hby := bytes_at HBL.out k
          have HTS := Lib.hid (take_snoc l k 0 (by rw [← HM.out]; exact hlt2))
          have HR2 := Lib.hid hR
          have HBY := Lib.hid hby
          clear hR hcc hby
          generalize l.getD k 0 = x at x2 HTS HBY
          go_wp2_with (go_at_call 54; refine (HT.out _ _ _ _ _ HR2.out.st HR2.out.ok HBY.out).mono ?_; rintro e w5 ⟨rfl, st5, k5⟩; have HR5 := Lib.hid (HR2.out.take HBY.out st5 k5); clear st5 k5)
          go_roundw
          case rel => exact ⟨k + 1, by omega, by go_num, by rw [HTS.out, S.all_snoc]; exact HR5.out⟩
          case measure => simp [intOf]; omega
        · have ek : k = m := by omega
          rw [ek, HM.out, List.take_length] at hR
          have y0 := hR.st.at_l
          have y1 := hR.st.fr 137
          have HR3 := Lib.hid (hR.long ((T : Int) + (m : Int)))
          clear ek hR
          go_wp2_with fail
          go_roundw
          case rel =>
            refine ⟨j + 1, by omega, by go_num, ?_⟩
            rw [HFS.out, S.all_append, ← HS0.out, List.length_append, ← HTT.out, ← HM.out]
            simpa using HR3.out
          case measure => simp [intOf]; omega
    · have ej : L.take j = L := List.take_of_length_le (by rw [HLN.out]; omega)
      rw [ej] at hR
      obtain ⟨m, hm⟩ : ∃ m, m = L.flatten := ⟨_, rfl⟩
      rw [← hm] at hR hN
      have HMM := Lib.hid hm
      have HR := Lib.hid hR
      clear ej hR hm
      go_wp2_with (go_at_call 54; refine (HT.out _ _ _ _ _ HR.out.st HR.out.ok ⟨by omega, by omega⟩).mono ?_; rintro e w5 ⟨rfl, st5, k5⟩; have HR5 := Lib.hid (HR.out.take ⟨by omega, by omega⟩ st5 k5); clear st5 k5)
      go_loopg [] (zs m.length) (fun g wr => ∃ k : Nat, g + k = zs m.length ∧ SumR w wr p (S.new.all (m ++ (128 :: List.replicate k 0))) (m.length : Int))
      case atStart => exact ⟨0, by omega, by rw [List.replicate_zero, S.all_snoc]; exact HR5.out⟩
      case round =>
        obtain ⟨k, hk, hR⟩ := hrel
        obtain ⟨wo3, rfl⟩ : ∃ wo3 : World, wo3 = wr := ⟨_, rfl⟩
        have hnn : (S.new.all (m ++ (128 :: List.replicate k 0))).n = (m.length + 1 + k) % 64 := by
          rw [S.all_n _ _ S.Ok.new.n]
          simp [S.new]
          omega
        have hzs : zs m.length = (2 * 64 - 8 - 1 - m.length % 64) % 64 := rfl
        have y0 := hR.st.at_n
        by_cases hlt : k < zs m.length
        · have t1 : (((S.new.all (m ++ (128 :: List.replicate k 0))).n : Int) == 56) = false := by rw [hnn]; simp; omega
          have t2 : (((S.new.all (m ++ (128 :: List.replicate k 0))).n : Int) != 56) = true := by rw [hnn]; simp; omega
          have HR2 := Lib.hid hR
          clear hR hnn hzs
          generalize (((S.new.all (m ++ (128 :: List.replicate k 0))).n : Nat) : Int) = nn at y0 t1 t2
          go_wp2_with (go_at_call 54; refine (HT.out _ _ _ _ _ HR2.out.st HR2.out.ok ⟨by omega, by omega⟩).mono ?_; rintro e w6 ⟨rfl, st6, k6⟩; have HR6 := Lib.hid (HR2.out.take ⟨by omega, by omega⟩ st6 k6); clear st6 k6)
          go_roundg (gk - 1)
          case measure => omega
          case rel => exact ⟨k + 1, by omega, by rw [rep_snoc, ← List.append_assoc, S.all_snoc]; exact HR6.out⟩
        · have ek : k = zs m.length := by omega
          have t1 : (((S.new.all (m ++ (128 :: List.replicate k 0))).n : Int) == 56) = true := by rw [hnn]; simp; omega
          have t2 : (((S.new.all (m ++ (128 :: List.replicate k 0))).n : Int) != 56) = false := by rw [hnn]; simp; omega
          obtain ⟨m1, hm1⟩ : ∃ m1, m1 = m ++ (128 :: List.replicate k 0) := ⟨_, rfl⟩
          rw [← hm1] at hR y0 t1 t2
          rw [ek] at hm1
          have HM1 := Lib.hid hm1
          have HR2 := Lib.hid hR
          clear hR hnn hzs hm1 ek
          generalize (((S.new.all m1).n : Nat) : Int) = nn at y0 t1 t2
          go_wp2_with fail
          obtain ⟨m2, hm2⟩ : ∃ m2, m2 = m1 ++ List.replicate (8 - 8) 0 := ⟨_, rfl⟩
          have hr2 : SumR w wo3 p (S.new.all m2) (m.length : Int) := by
            rw [hm2, show 8 - 8 = 0 from rfl, List.replicate_zero, List.append_nil]
            exact HR2.out
          rw [HM1.out] at hm2
          have HM2 := Lib.hid hm2
          have HR3 := Lib.hid hr2
          clear hm2 hr2
          go_loopw [8] (fun i wr => ∃ j5 : Nat, j5 ≤ 8 ∧ i = .int .i64 (7 - (j5 : Int)) ∧ SumR w wr p (S.new.all (m2 ++ (List.range j5).map fun i => ((8 * m.length / 2 ^ (8 * (7 - i)) % 256 : Nat) : Int))) (m.length : Int)) (fun i _ => (1 + intOf i).toNat)
          case atStart => exact ⟨0, Nat.zero_le _, rfl, by simpa using HR3.out⟩
          case round =>
            obtain ⟨j5, hj5, rfl, hR⟩ := hrel
            by_cases hlt5 : j5 < 8
            · have y1 := hR.st.at_l
              have HR4 := Lib.hid hR
              have e1 : (8 * (7 - (j5 : Int))).toNat = 8 * (7 - j5) := by omega
              have e2 : 0 ≤ 8 * (7 - (j5 : Int)) := by omega
              have e3 : 8 * (7 - (j5 : Int)) ≤ 56 := by omega
              clear hR
              go_wp2_with (go_at_call 54; refine (HT.out _ _ _ _ _ HR4.out.st HR4.out.ok (byte_wrap _)).mono ?_; rintro e w6 ⟨rfl, st6, k6⟩; have HR6 := Lib.hid (HR4.out.take (byte_wrap _) st6 k6); clear st6 k6)
              clear e1 e2 e3
              go_roundw
              case rel => exact ⟨j5 + 1, by omega, by go_num, by rw [List.range_succ, List.map_append, ← List.append_assoc, List.map_singleton, S.all_snoc, ← len_byte]; exact HR6.out⟩
              case measure => simp [intOf]; omega
            · obtain ⟨wo5, rfl⟩ : ∃ wo5 : World, wo5 = wr := ⟨_, rfl⟩
              have e5 : m2 ++ ((List.range j5).map fun i => ((8 * m.length / 2 ^ (8 * (7 - i)) % 256 : Nat) : Int)) = m ++ tail m.length := by
                rw [show j5 = 8 by omega, tail_eq, HM2.out]
                simp only [List.append_assoc]
              rw [e5] at hR
              have hh : hash m = digest (S.new.all (m ++ tail m.length)).h := rfl
              generalize S.new.all (m ++ tail m.length) = sf at hR hh
              have HR7 := Lib.hid hR
              have HH := Lib.hid hh
              clear hR e5 hh
              go_wp2_with ((with_reducible show wpList _ _ _ (Oper.mk (some 9) _ _ _ _ _ :: _) _ _); refine wpList_alloc_row rfl 37 rfl _ (zeroOut _) ?_)
              have hl5 := HR7.out.below.size
              have hpl := blk_lt HR7.out.st.blk
              have hwp := HR7.out.ne
              have hR8 : SumR w (wo5.alloc (.cells (arr .u8 (List.replicate 32 0)) 37)) p sf (m.length : Int) := HR7.out.alloc _
              have hb9 : (wo5.alloc (.cells (arr .u8 (List.replicate 32 0)) 37)).heap[wo5.heap.size]? = some (.cells (arr .u8 ((digest sf.h).take 0 ++ List.replicate (32 - 0) 0)) 37 (0, 0)) := blk_new _ _
              have HR8 := Lib.hid hR8
              have HB9 := Lib.hid hb9
              clear hR8 hb9
              go_loopw [63] (fun i wr => ∃ i9 : Nat, i9 ≤ 32 ∧ i = .int .i64 i9 ∧ wr.heap[wo5.heap.size]? = some (.cells (arr .u8 ((digest sf.h).take i9 ++ List.replicate (32 - i9) 0)) 37 (0, 0)) ∧ SumR w wr p sf (m.length : Int)) (fun i _ => 32 - (intOf i).toNat)
              case atStart => exact ⟨0, Nat.zero_le _, rfl, HB9.out, HR8.out⟩
              case round =>
                obtain ⟨i9, hi9, rfl, hb, hR⟩ := hrel
                have hdl : (digest sf.h).length = 32 := by simp [digest]
                by_cases hlt9 : i9 < 32
                · have y0 := hR.st.at_h (i9 / 4) (by omega)
                  have y1 := blk_arr hb i9 (by simp [hdl]; omega)
                  have y2 := free_blk hb i9
                  have G1 : Hid (∀ v, v = sf.h.getD (i9 / 4) 0 / 2 ^ (8 * (3 - i9 % 4)) % 256 → (wr.setCell ⟨wo5.heap.size, i9, none⟩ (.int .u8 v)).heap[wo5.heap.size]? = some (.cells (arr .u8 ((digest sf.h).take (i9 + 1) ++ List.replicate (32 - (i9 + 1)) 0)) 37 (0, 0))) := Lib.hid (by
                    rintro v rfl
                    rw [blk_arr_set hb, dig_set sf.h i9 hlt9 _ (dig_get sf.h i9 hlt9).symm])
                  have HRS := Lib.hid (fun v => hR.far (g := wo5.heap.size) i9 v (by omega) (by omega))
                  have e1 : (24 - 8 * ((i9 : Int) % 4)).toNat = 8 * (3 - i9 % 4) := by omega
                  have e2 : 0 ≤ 24 - 8 * ((i9 : Int) % 4) := by omega
                  have e3 : 24 - 8 * ((i9 : Int) % 4) ≤ 24 := by omega
                  clear hb hR hdl
                  generalize sf.h.getD (i9 / 4) 0 = x at y0 G1
                  go_wp2_with fail
                  clear e1 e2 e3
                  go_roundw
                  case rel => exact ⟨i9 + 1, by omega, by go_num, G1.out _ (IntKind.wrap_u8 _), HRS.out _⟩
                  case measure => simp [intOf]; omega
                · rw [show i9 = 32 by omega, Nat.sub_self, List.replicate_zero, List.append_nil, List.take_of_length_le (by omega)] at hb
                  have z1 : (Try.prog.info? 37).map (·.size) = some (digest sf.h).length := by rw [hdl]; exact sizeOut
                  have z2 : (Try.prog.info? 37).map (·.size) = some (arr .u8 (digest sf.h)).size := by rw [arr_size, hdl]; exact sizeOut
                  have z3 : (arr .u8 (digest sf.h)).size = (arr .u8 (List.replicate 32 0)).size := by rw [arr_size, arr_size, hdl, List.length_replicate]
                  have z4 : ((arr .u8 (digest sf.h)).toList.drop 0).take (digest sf.h).length = (digest sf.h).map (Value.int .u8) := by rw [arr_toList, List.drop_zero, List.take_of_length_le (by simp)]
                  have HB := Lib.hid hb
                  have HRE := Lib.hid hR
                  have Z1 := Lib.hid z1
                  have Z2 := Lib.hid z2
                  have Z3 := Lib.hid z3
                  have Z4 := Lib.hid z4
                  clear hb hR z1 z2 z3 z4 hdl
                  go_wp2_with (first | ((with_reducible show wpList _ _ _ (Oper.mk (some 82) _ _ _ _ _ :: _) _ _); refine wpList_load_part rfl 37 _ rfl wo5.heap.size 0 _ 37 (0, 0) _ HB.out rfl .u8 (digest sf.h) Z4.out Try.underlying37 rfl Z1.out ?_) | ((with_reducible show wpList _ _ _ (Oper.mk none _ _ _ _ _ :: _) _ _); refine wpList_store_whole rfl 37 _ _ rfl w.heap.size _ _ 37 HRE.out.res rfl rfl Z3.out Z2.out (all_arr _ _) ?_; intro w7 hb7 hk7 hz7; have HB7 := Lib.hid hb7; have HK7 := Lib.hid hk7; clear hb7 hk7 hz7))
                  (try simp only [Exit.inBlock, Exit.then])
                  refine bodyPost_ret (results_cell_row rfl _ _ w.heap.size 37 _ (0, 0) _ rfl HB7.out Try.underlying37 rfl Z2.out) rfl ?_
                  rw [← HMM.out, HH.out]
                  exact ⟨rfl, HRE.out.below.trans (HK7.out.toBelow HRE.out.below.size (by rintro i rfl; exact Nat.le_refl _))⟩

end Go.Proofs.Ytcecgbjpmegljaa.Ha
