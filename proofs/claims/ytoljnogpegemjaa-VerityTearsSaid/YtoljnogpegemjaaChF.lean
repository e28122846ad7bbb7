/- chacha.Turn and the document's: what they answer. Condition: the key has 32 bytes, the nonce 12; the bytes are at most 2^40. -/
import Derived.Test.YtoljnogpegemjaaChE
namespace Go.Proofs.Ytoljnogpegemjaa.Ch
open Go.RowKit

/-- What holds while bytes are turned: the key, the nonce, what is turned, a block of the stream. -/
structure Tk (w wr : World) (key nonce : List Int) (g ob : Nat) (sp : List Value) (out st : List Int) : Prop where
  bk : wr.heap[w.heap.size]? = some (.cells (arr .u8 key) 23 (0, 0))
  bn : wr.heap[w.heap.size + 1]? = some (.cells (arr .u8 nonce) 46 (0, 0))
  bo : wr.heap[g]? = some (.cells (row8 out sp) 5 (0, 0))
  bs : wr.heap[ob]? = some (.cells (arr .u8 st) 75 (0, 0))
  below : Below w.heap.size w wr
  lg : w.heap.size + 1 < g
  lo : w.heap.size + 1 < ob
  ne : g ≠ ob
theorem Tk.after {w wr w' : World} {key nonce : List Int} {g ob : Nat} {sp : List Value} {out st : List Int} (h : Tk w wr key nonce g ob sp out st) (b : Below wr.heap.size wr w') : Tk w w' key nonce g ob sp out st :=
  ⟨Below.blk b h.bk (blk_lt h.bk), Below.blk b h.bn (blk_lt h.bn), Below.blk b h.bo (blk_lt h.bo), Below.blk b h.bs (blk_lt h.bs), h.below.trans (b.mono h.below.size), h.lg, h.lo, h.ne⟩
theorem Tk.drewN {w wr : World} {key nonce : List Int} {g ob : Nat} {sp : List Value} {out st : List Int} (h : Tk w wr key nonce g ob sp out st) (n : Nat) : Tk w (wr.drewN n) key nonce g ob sp out st := ⟨h.bk, h.bn, h.bo, h.bs, Go.Proofs.Ytoljnogpegemjaa.Below.drewN h.below n, h.lg, h.lo, h.ne⟩
theorem Tk.drew {w wr : World} {key nonce : List Int} {g ob : Nat} {sp : List Value} {out st : List Int} (h : Tk w wr key nonce g ob sp out st) : Tk w wr.drew key nonce g ob sp out st := ⟨h.bk, h.bn, h.bo, h.bs, ⟨h.below.os, h.below.tape, h.below.output, h.below.size, h.below.block⟩, h.lg, h.lo, h.ne⟩
theorem Tk.fresh {w wr w' : World} {key nonce : List Int} {g ob : Nat} {sp : List Value} {out st st' : List Int} (h : Tk w wr key nonce g ob sp out st) (k : Kept (fun i => i = ob) wr w') (hb : w'.heap[ob]? = some (.cells (arr .u8 st') 75 (0, 0))) : Tk w w' key nonce g ob sp out st' := by
  have l1 := h.lo
  have l2 := h.ne
  exact ⟨k.blk h.bk (by omega), k.blk h.bn (by omega), k.blk h.bo (by omega), hb, h.below.trans (k.toBelow h.below.size (by rintro i rfl; omega)), h.lg, l1, l2⟩
theorem Tk.set {w wr : World} {key nonce : List Int} {g ob : Nat} {sp : List Value} {out st : List Int} (h : Tk w wr key nonce g ob sp out st) (i : Nat) (x : Int) (hi : i < out.length) : Tk w (wr.setCell ⟨g, i, none⟩ (.int .u8 x)) key nonce g ob sp (out.set i x) st := by
  have l1 := h.lg
  have l2 := h.ne
  refine ⟨blk_setCell_ne h.bk _ (by omega), blk_setCell_ne h.bn _ (by omega), ?_, blk_setCell_ne h.bs _ (by omega), h.below.setCell (p := ⟨g, i, none⟩) (by simp; omega) _, l1, h.lo, l2⟩
  rw [blk_setCell h.bo, row8_set _ _ _ hi]

/-- What is turned so far, and the block of the stream that was begun last. -/
def Begun (key : List Int) (c : Int) (nonce st : List Int) (i : Nat) : Prop := st.length = 64 ∧ (i % 64 ≠ 0 → st = block key ((c + (i / 64 : Nat)) % 4294967296) nonce)
theorem turn_at (key : List Int) (c : Int) (nonce b : List Int) (i : Nat) (h : i < b.length) : (turn key c nonce b).getD i 0 = bits .xor .u8 (b.getD i 0) ((block key ((c + (i / 64 : Nat)) % 4294967296) nonce).getD (i % 64) 0) := by
  simp [turn, List.getD, h]
theorem mix_set (T r : List Int) (i n : Nat) (x : Int) (hT : T.length = n) (hr : r.length = n) (h : i < n) (hx : x = T.getD i 0) : (T.take i ++ r.drop i).set i x = T.take (i + 1) ++ r.drop (i + 1) := by
  rw [List.set_append_right _ _ (by simp; omega), show i - (T.take i).length = 0 by simp; omega, List.drop_eq_getElem_cons (by omega), List.set_cons_zero, take_snoc T i 0 (by omega), hx]
  simp
theorem mix_len (T r : List Int) (i n : Nat) (hT : T.length = n) (hr : r.length = n) (h : i ≤ n) : (T.take i ++ r.drop i).length = n := by simp; omega
theorem mix_get (T r : List Int) (i n : Nat) (hT : T.length = n) (hr : r.length = n) (h : i < n) : (T.take i ++ r.drop i).getD i 0 = r.getD i 0 := by
  simp only [List.getD]
  rw [List.getElem?_append_right (by simp; omega), List.getElem?_drop]
  congr 2
  simp
  omega

set_option maxRecDepth 100000 in
set_option maxHeartbeats 2000000 in
theorem turn_any (sa : Option Addr) (n cap : Nat) (xs key nonce : List Int) (c : Int) (w : World) (hs : Src w sa n xs) (hk : key.length = 32) (hn : nonce.length = 12) (bk : bytes key) (bn : bytes nonce) (hln : n ≤ 1099511627776) :
    Calls Try.prog 46 #[.agg (arr .u8 key), .int .i64 c, .agg (arr .u8 nonce), .slice sa n cap] w fun e w' => ∃ v, e = .returned v ∧ Own8 w' w.heap.size v (turn key c nonce xs) ∧ Below w.heap.size w w' := by
  have hmk := mk8 n hln
  have z64 := zero64
  obtain ⟨wA, hwA⟩ : ∃ wA, wA = ((((w.alloc (.cells (arr .u8 key) 23)).alloc (.cells (arr .u8 nonce) 46)).alloc (.cells (row8 (zeros n) []) 5)).alloc (.cells (arr .u8 (List.replicate 64 0)) 75)) := ⟨_, rfl⟩
  have s0 : Tk w wA key nonce (w.heap.size + 1 + 1) (w.heap.size + 1 + 1 + 1) [] (zeros n) (List.replicate 64 0) := by
    have e1 : ∀ o, (w.alloc o).heap.size = w.heap.size + 1 := by simp
    have e2 : ∀ o p, ((w.alloc o).alloc p).heap.size = w.heap.size + 1 + 1 := by simp
    have e3 : ∀ o p q, (((w.alloc o).alloc p).alloc q).heap.size = w.heap.size + 1 + 1 + 1 := by simp
    rw [hwA]
    refine ⟨blk_alloc (blk_alloc (blk_alloc (blk_new w _) _) _) _, ?_, ?_, ?_, ((((Below.refl _ w).alloc (Nat.le_refl _) _).alloc (by rw [e1]; omega) _).alloc (by rw [e2]; omega) _).alloc (by rw [e3]; omega) _, by omega, by omega, by omega⟩
    · rw [← e1]
      exact blk_alloc (blk_alloc (blk_new _ _) _) _
    · rw [← e2]
      exact blk_alloc (blk_new _ _) _
    · rw [← e3]
      exact blk_new _ _
  obtain ⟨T, hT⟩ : ∃ T, T = turn key c nonce xs := ⟨_, rfl⟩
  have hTl : T.length = n := by rw [hT, turn_len]; exact hs.len
  have hTa : ∀ i, i < n → T.getD i 0 = bits .xor .u8 (xs.getD i 0) ((block key ((c + (i / 64 : Nat)) % 4294967296) nonce).getD (i % 64) 0) := fun i hi => by rw [hT]; exact turn_at _ _ _ _ _ (by rw [hs.len]; exact hi)
  have p1 : ((arr .u8 key).toList.drop 0).take key.length = key.map (Value.int .u8) := by rw [List.drop_zero, arr_toList, List.take_of_length_le (by simp)]
  have p2 : ((arr .u8 nonce).toList.drop 0).take nonce.length = nonce.map (Value.int .u8) := by rw [List.drop_zero, arr_toList, List.take_of_length_le (by simp)]
  have z1 : (Try.prog.info? 23).map (·.size) = some key.length := by rw [hk]; exact size32
  have z2 : (Try.prog.info? 46).map (·.size) = some nonce.length := by rw [hn]; exact size12
  have HTA := Lib.hid hTa
  have S0 := Lib.hid s0
  have HWA := Lib.hid hwA
  have HT := Lib.hid hT
  have HTL := Lib.hid hTl
  have HS := Lib.hid hs
  have HK := Lib.hid hk
  have HN := Lib.hid hn
  have BK := Lib.hid bk
  have BN := Lib.hid bn
  have P1 := Lib.hid p1
  have P2 := Lib.hid p2
  have Z1 := Lib.hid z1
  have Z2 := Lib.hid z2
  clear s0 hwA hT hTl hs hk hn bk bn p1 p2 z1 z2 hTa
  go_enter Try.func46, Try.ntmps46
  go_wp2_with ((with_reducible show wpList _ _ _ (Oper.mk (some 10) _ _ _ _ _ :: _) _ _); refine wpList_alloc_row rfl 75 rfl _ (zero64 _) ?_; rw [← HWA.out])
  clear hmk z64
  go_loopw [11, 21] (fun cv i wr => ∃ (j : Nat) (st : List Int), j ≤ n ∧ i = .int .i64 j ∧ cv = .int .u32 ((c + ((j + 63) / 64 : Nat)) % 4294967296) ∧ Begun key c nonce st j ∧ Tk w wr key nonce (w.heap.size + 1 + 1) (w.heap.size + 1 + 1 + 1) [] (T.take j ++ (zeros n).drop j) st) (fun _ i _ => n - (intOf i).toNat)
  case atStart => exact ⟨0, List.replicate 64 0, Nat.zero_le _, rfl, by simp, ⟨by simp, fun h => absurd rfl h⟩, by simpa using S0.out⟩
  clear S0 HWA
  case round =>
  obtain ⟨j, st, hj, rfl, rfl, hbg, hB⟩ := hrel
  by_cases hlt : j < n
  · obtain ⟨a, rfl, hc⟩ := HS.out.cell j hlt
    have x0 := below_cell hB.below hc
    have HB := Lib.hid hB
    have HBG := Lib.hid hbg
    have HX := Lib.hid (HTA.out j hlt)
    obtain ⟨cc, hcc⟩ : ∃ cc, cc = (c + ((j + 63) / 64 : Nat)) % 4294967296 := ⟨_, rfl⟩
    have c1 : 0 ≤ cc := by omega
    have c2 : cc ≤ 4294967295 := by omega
    rw [← hcc]
    have HCC := Lib.hid hcc
    clear hB hbg hc hcc
    generalize xs.getD j 0 = x at x0 HX
    by_cases h64 : j % 64 = 0
    · have h64' : (j : Int) % 64 = 0 := by omega
      go_wp2_with (first | ((with_reducible show wpList _ _ _ (Oper.mk (some 29) _ _ _ _ _ :: _) _ _); refine wpList_load_part rfl 23 _ rfl w.heap.size 0 _ 23 (0, 0) _ HB.out.bk rfl .u8 key P1.out Try.underlying23 rfl Z1.out ?_) | ((with_reducible show wpList _ _ _ (Oper.mk (some 32) _ _ _ _ _ :: _) _ _); refine wpList_load_part rfl 46 _ rfl (w.heap.size + 1) 0 _ 46 (0, 0) _ HB.out.bn rfl .u8 nonce P2.out Try.underlying46 rfl Z2.out ?_) | (go_at_call 51; refine (block_any key nonce cc wr HK.out HN.out BK.out BN.out).mono ?_; rintro e w1 ⟨rfl, hb1⟩; have HB1 := Lib.hid (HB.out.after hb1); clear hb1) | ((with_reducible show wpList _ _ _ (Oper.mk none (.store _ (.tmp 10) _) _ _ _ _ :: _) _ _); refine wpList_store_whole rfl 75 _ _ rfl (w.heap.size + 1 + 1 + 1) _ _ 75 HB1.out.bs rfl rfl (by rw [arr_size, arr_size, block_len, HBG.out.1]) (by rw [arr_size, block_len]; exact size64) (all_arr _ _) ?_; intro w2 hb2 hk2 hz2; have hT2 := HB1.out.fresh hk2 hb2; obtain ⟨sb, hsb⟩ : ∃ sb, sb = block key (cc % 4294967296) nonce := ⟨_, rfl⟩; rw [← hsb] at hT2; have hsl : sb.length = 64 := by { rw [hsb]; exact block_len _ _ _ }; have hse : sb = block key ((c + (j / 64 : Nat)) % 4294967296) nonce := by { rw [hsb, HCC.out, show (j + 63) / 64 = j / 64 by omega, Int.emod_emod_of_dvd _ (Int.dvd_refl _)] }; have HSL := Lib.hid hsl; have HSE := Lib.hid hse; have HT2 := Lib.hid hT2; have q1 := blk_arr hT2.bs (j % 64) (by rw [hsl]; omega); have q2 := free_blk hT2.bo j; have q3 := (cell_blk hT2.bo j).trans (row8_get _ _ j (by rw [mix_len T (zeros n) j n HTL.out (zeros_len n) (by omega)]; exact hlt)); have HQ := Lib.hid (HX.out); rw [← hse, h64] at HQ; rw [h64] at q1; clear hb2 hk2 hz2 hT2 hsb hsl hse; generalize sb.getD 0 0 = y at q1 HQ))
      have HT3 := Lib.hid (HT2.out.set j (bits .xor .u8 x y) (by rw [mix_len T (zeros n) j n HTL.out (zeros_len n) (by omega)]; exact hlt))
      rw [mix_set T (zeros n) j n _ HTL.out (zeros_len n) hlt HQ.out.symm] at HT3
      clear q1 q2 q3 x0 HB HB1 HT2
      go_roundw
      case rel =>
        refine ⟨j + 1, sb, by omega, by go_num, ?_, ⟨HSL.out, fun _ => ?_⟩, HT3.out⟩
        · rw [HCC.out]
          congr 1
          omega
        · rw [HSE.out, show (j + 1) / 64 = j / 64 by omega]
      case measure => simp [intOf]; omega
    · have h64' : (j : Int) % 64 ≠ 0 := by omega
      have hse := HBG.out.2 h64
      have HQ := Lib.hid (HX.out)
      rw [← hse] at HQ
      have q1 := blk_arr HB.out.bs (j % 64) (by rw [HBG.out.1]; omega)
      have q2 := free_blk HB.out.bo j
      have q3 := (cell_blk HB.out.bo j).trans (row8_get _ _ j (by rw [mix_len T (zeros n) j n HTL.out (zeros_len n) (by omega)]; exact hlt))
      have HSE := Lib.hid hse
      clear hse
      generalize hy : st.getD (j % 64) 0 = y at q1 HQ
      clear hy
      go_wp2_with fail
      have HT3 := Lib.hid (HB.out.set j (bits .xor .u8 x y) (by rw [mix_len T (zeros n) j n HTL.out (zeros_len n) (by omega)]; exact hlt))
      rw [mix_set T (zeros n) j n _ HTL.out (zeros_len n) hlt HQ.out.symm] at HT3
      clear q1 q2 q3 x0 HB
      go_roundw
      case rel =>
        refine ⟨j + 1, st, by omega, by go_num, ?_, ⟨HBG.out.1, fun h => ?_⟩, HT3.out⟩
        · rw [HCC.out, show (j + 1 + 63) / 64 = (j + 63) / 64 by omega]
        · rw [HSE.out, show (j + 1) / 64 = j / 64 by omega]
      case measure => simp [intOf]; omega
  · have e9 : j = n := by omega
    rw [e9, List.take_of_length_le (by rw [HTL.out]; omega), List.drop_eq_nil_of_le (by rw [zeros_len]; omega), List.append_nil] at hB
    have HB := Lib.hid hB
    clear hB e9
    go_wp2_with fail
    go_ret
    rw [← HT.out]
    refine ⟨.slice (some ⟨w.heap.size + 1 + 1, 0, none⟩) n n, rfl, Own8.of_owns ?_, HB.out.below⟩
    exact ⟨w.heap.size + 1 + 1, n, [], by rw [HTL.out], by omega, HB.out.bo, by simp [HTL.out], by unfold maxLen; omega⟩

end Go.Proofs.Ytoljnogpegemjaa.Ch
