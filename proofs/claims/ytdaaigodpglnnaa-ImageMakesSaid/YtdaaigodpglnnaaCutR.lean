/- portcullisref16.Cut: the blocks of bytes. Condition: the bytes lie there. -/
import Derived.Test.YtdaaigodpglnnaaM1
namespace Go.Proofs.Ytdaaigodpglnnaa
open Go.RowKit

def chunk (xs : List Int) (k : Nat) : List Int := (xs.drop (64 * k)).take 64 ++ zeros (64 - (xs.length - 64 * k))
def nblk (n : Nat) : Nat := if n = 0 then 1 else (n + 63) / 64
def cutL (xs : List Int) : List (List Int) := (List.range (nblk xs.length)).map (chunk xs)
def cutN (xs : List Int) (k : Nat) : List (List Int) := (List.range k).map (chunk xs)
theorem cutN_succ (xs : List Int) (k : Nat) : cutN xs (k + 1) = cutN xs k ++ [chunk xs k] := by simp [cutN, List.range_succ]
theorem cutN_len (xs : List Int) (k : Nat) : (cutN xs k).length = k := by simp [cutN]
theorem chunk_len (xs : List Int) (k : Nat) : (chunk xs k).length = 64 := by simp [chunk, zeros]; omega
theorem add_add (a : Addr) (i j : Nat) : (a.add i).add j = a.add (i + j) := by
  obtain ⟨b, o, s⟩ := a
  unfold Addr.add
  by_cases hi : i = 0
  · subst hi; simp
  · by_cases hj : j = 0
    · subst hj; simp
    · simp [hi, hj, Nat.add_assoc]

theorem chunk_splice (xs : List Int) (k : Nat) :
    (splice ((zeros 64).map (Value.int .u8) ++ []) 0 (((xs.drop (64 * k)).take 64).map (Value.int .u8))).toArray = row8 (chunk xs k) [] := by
  unfold splice row8 chunk zeros
  simp only [List.append_nil, List.take_zero, List.nil_append, Nat.zero_add, List.length_map, List.map_append, List.map_replicate, List.drop_replicate, List.length_take, List.length_drop]
  congr 2
  congr 1
  omega

theorem chunk_src {w : World} {ad : Addr} {n : Nat} {xs : List Int} (h : Src w (some ad) n xs) (k : Nat) :
    ∀ j v, (((xs.drop (64 * k)).take 64).map (Value.int .u8))[j]? = some v → w.cell? ((ad.add (64 * k)).add j) = some v := by
  intro j v hj
  rw [add_add]
  refine src_news h ad rfl (64 * k + j) v ?_
  simp only [List.getElem?_map, List.getElem?_take, List.getElem?_drop] at hj ⊢
  split at hj
  · exact hj
  · cases hj

set_option maxRecDepth 100000 in
theorem rcut_long (sa : Option Addr) (n c : Nat) (w : World) (hn : 2048 < n) :
    Calls Try.prog 15 #[.slice sa n c] w fun e w' => e = .returned (.tuple #[.slice none 0 0, .int .i64 3]) ∧ w' = w := by
  go_enter Try.func15, Try.ntmps15
  go_wp2
  go_ret2
  exact ⟨rfl, rfl⟩

set_option maxRecDepth 100000 in
set_option maxHeartbeats 1000000 in
theorem rcut_any (sa : Option Addr) (n c : Nat) (xs : List Int) (w : World) (hs : Src w sa n xs) (hc : n ≤ c) (hn : n ≤ 2048) :
    Calls Try.prog 15 #[.slice sa n c] w fun e w' => ∃ v, e = .returned (.tuple #[v, .int .i64 0]) ∧ OwnL w' w.heap.size v (cutL xs) ∧ Below w.heap.size w w' := by
  have hxl := hs.len
  have hmk : ∀ w : World, (Instr.makeSlice 22 (.int .i64 64) (.int .i64 64)).run Try.prog w = .ok (.slice (some ⟨w.heap.size, 0, none⟩) 64 64) (w.alloc (.cells (row8 (zeros 64) []) 5)) := mk8 64 (by omega)
  have HS := Lib.hid hs
  have HXL := Lib.hid hxl
  clear hs hxl
  go_enter Try.func15, Try.ntmps15
  go_wp2_with fail
  go_loopw [4, 5] (fun v i wr => ∃ k : Nat, k ≤ nblk n ∧ i = .int .i64 (64 * (k : Int)) ∧ OwnL wr w.heap.size v (cutN xs k) ∧ Below w.heap.size w wr) (fun _ i _ => 4096 - (intOf i).toNat)
  case atStart => exact ⟨0, Nat.zero_le _, rfl, OwnL.nil _ _, Below.refl _ _⟩
  case round =>
    obtain ⟨k, hk, rfl, hO, hB⟩ := hrel
    obtain ⟨va, vc, hv, -⟩ := hO.form
    rw [cutN_len] at hv
    subst hv
    have hOk := hO
    by_cases hlt : 64 * k < n
    · obtain ⟨ad, rfl⟩ : ∃ ad, sa = some ad := by
        obtain ⟨a, e, _⟩ := HS.out.cell 0 (by omega)
        exact ⟨a, e⟩
      have hkn : k < nblk n := by unfold nblk; rw [if_neg (by omega)]; omega
      have hs1 := (HS.out.below hB).below ((Below.refl _ wr).alloc (Nat.le_refl _) (.cells (row8 (zeros 64) []) 5))
      obtain ⟨cs, hcs⟩ : ∃ cs, cs = ((xs.drop (64 * k)).take 64).map (Value.int .u8) := ⟨_, rfl⟩
      have hcl : cs.length = Nat.min (n - 64 * k) 64 := by
        show _ = min (n - 64 * k) 64
        rw [hcs, ← HXL.out]; simp; omega
      have hpos : 0 < cs.length → some (⟨wr.heap.size, 0, none⟩ : Addr) = some ⟨wr.heap.size, 0, none⟩ ∧ ∃ ad', some (ad.add (64 * k)) = some ad' ∧ ∀ j v, cs[j]? = some v → (wr.alloc (.cells (row8 (zeros 64) []) 5)).cell? (ad'.add j) = some v :=
        fun _ => ⟨rfl, _, rfl, fun j v hj => chunk_src hs1 k j v (by rw [← hcs]; exact hj)⟩
      have hb0 : (wr.alloc (.cells (row8 (zeros 64) []) 5)).heap[wr.heap.size]? = some (.cells ((zeros 64).map (Value.int .u8) ++ []).toArray 5 (0, 0)) := blk_new _ _
      have hbel := (Below.refl wr.heap.size wr).alloc (Nat.le_refl _) (.cells (row8 (zeros 64) []) 5)
      have hfit : 0 + cs.length ≤ ((zeros 64).map (Value.int .u8) ++ []).length := by rw [hcl]; show 0 + min (n - 64 * k) 64 ≤ _; simp [zeros]; omega
      have hone : ∀ v ∈ cs, v.oneCell' = true := by rw [hcs]; exact one_ints _ _
      have hch := chunk_splice xs k
      rw [← hcs] at hch
      have HCL := Lib.hid hcl
      have HPOS := Lib.hid hpos
      have HB0 := Lib.hid hb0
      have HBEL := Lib.hid hbel
      have HFIT := Lib.hid hfit
      have HONE := Lib.hid hone
      have HCH := Lib.hid hch
      have HOK := Lib.hid hOk
      have HBB := Lib.hid hB
      clear hs1 hcs hcl hpos hb0 hbel hfit hone hch hOk hO hB
      go_wp2_with (first | ((with_reducible show wpList _ _ _ (Oper.mk (some 25) _ _ _ _ _ :: _) _ _); refine wpList_copy_splice rfl _ _ 22 22 rfl 5 Try.underlying22 size_u8 _ _ _ _ _ _ rfl rfl wr.heap.size 0 _ 5 HB0.out cs HCL.out HPOS.out HFIT.out HONE.out wr.heap.size wr HBEL.out (Nat.le_refl _) ?_; intro w5 hb5 hbl5; have HB5 := hb5; have HBL5 := Lib.hid hbl5; clear hb5 hbl5) | ((with_reducible show wpList _ _ _ (Oper.mk (some 29) _ _ _ _ _ :: _) _ _); refine wpList_appL rfl (.tmp 26) (.tmp 28) rfl w.heap.size _ _ (cutN xs k) (chunk xs k) rfl rfl (HOK.out.below HBL5.out) ⟨wr.heap.size, 64, [], by rw [chunk_len], HBB.out.size, by rw [← HCH.out]; exact HB5.out, by rw [chunk_len]; rfl, by unfold maxLen; omega⟩ (by rw [cutN_len]; omega) (Nat.le_trans HBB.out.size HBL5.out.size) ?_; intro v6 w6 ho6 hg6; have HO6 := Lib.hid ho6; have HG6 := Lib.hid hg6; clear ho6 hg6))
      go_roundw
      case rel => exact ⟨k + 1, by omega, by go_num, by rw [cutN_succ]; exact HO6.out, ((HBB.out.trans (HBL5.out.mono HBB.out.size)).alloc (Nat.le_trans HBB.out.size HBL5.out.size) _).grown HG6.out (Nat.le_trans HBB.out.size (Nat.le_trans HBL5.out.size (by simp))) (fun j e => (OwnL.lt HOK.out j e).1)⟩
      case measure => simp [intOf]; omega
    · by_cases h0 : k = 0
      · subst h0
        have hn0 : n ≤ 0 := by omega
        have HOK := Lib.hid hOk
        have HBB := Lib.hid hB
        have hb0 : (wr.alloc (.cells (row8 (zeros 64) []) 5)).heap[wr.heap.size]? = some (.cells (row8 (zeros 64) []) 5 (0, 0)) := blk_new _ _
        have hch : chunk xs 0 = zeros 64 := by
          have : xs = [] := List.eq_nil_of_length_eq_zero (by rw [HXL.out]; omega)
          subst this
          rfl
        have HB0 := Lib.hid hb0
        have HCH := Lib.hid hch
        have HBEL := Lib.hid ((Below.refl wr.heap.size wr).alloc (Nat.le_refl _) (.cells (row8 (zeros 64) []) 5))
        clear hOk hO hB hb0 hch
        rcases sa with _ | ad
        · go_wp2_with (first | ((with_reducible show wpList _ _ _ (Oper.mk (some 25) _ _ _ _ _ :: _) _ _); refine wpList_copy_nothing rfl _ _ 22 22 rfl 5 Try.underlying22 size_u8 _ _ _ _ _ _ rfl rfl (by show min _ _ = 0; omega) ?_) | ((with_reducible show wpList _ _ _ (Oper.mk (some 29) _ _ _ _ _ :: _) _ _); refine wpList_appL rfl (.tmp 26) (.tmp 28) rfl w.heap.size _ _ (cutN xs 0) (zeros 64) rfl (by rw [World.size_alloc]; rfl) (HOK.out.below HBEL.out) ⟨wr.heap.size, 64, [], rfl, HBB.out.size, HB0.out, by simp [zeros], by unfold maxLen; omega⟩ (by rw [cutN_len]; omega) (Nat.le_trans HBB.out.size HBEL.out.size) ?_; intro v6 w6 ho6 hg6; have HO6 := Lib.hid ho6; have HG6 := Lib.hid hg6; clear ho6 hg6))
          go_roundw
          case rel => exact ⟨0 + 1, by unfold nblk; split <;> omega, by go_num, by rw [cutN_succ, HCH.out]; exact HO6.out, ((HBB.out.trans (HBEL.out.mono HBB.out.size)).alloc (Nat.le_trans HBB.out.size HBEL.out.size) _).grown HG6.out (Nat.le_trans HBB.out.size (Nat.le_trans HBEL.out.size (by simp))) (fun j e => (OwnL.lt HOK.out j e).1)⟩
          case measure => simp [intOf]
        · go_wp2_with (first | ((with_reducible show wpList _ _ _ (Oper.mk (some 25) _ _ _ _ _ :: _) _ _); refine wpList_copy_nothing rfl _ _ 22 22 rfl 5 Try.underlying22 size_u8 _ _ _ _ _ _ rfl rfl (by show min _ _ = 0; omega) ?_) | ((with_reducible show wpList _ _ _ (Oper.mk (some 29) _ _ _ _ _ :: _) _ _); refine wpList_appL rfl (.tmp 26) (.tmp 28) rfl w.heap.size _ _ (cutN xs 0) (zeros 64) rfl (by rw [World.size_alloc]; rfl) (HOK.out.below HBEL.out) ⟨wr.heap.size, 64, [], rfl, HBB.out.size, HB0.out, by simp [zeros], by unfold maxLen; omega⟩ (by rw [cutN_len]; omega) (Nat.le_trans HBB.out.size HBEL.out.size) ?_; intro v6 w6 ho6 hg6; have HO6 := Lib.hid ho6; have HG6 := Lib.hid hg6; clear ho6 hg6))
          go_roundw
          case rel => exact ⟨0 + 1, by unfold nblk; split <;> omega, by go_num, by rw [cutN_succ, HCH.out]; exact HO6.out, ((HBB.out.trans (HBEL.out.mono HBB.out.size)).alloc (Nat.le_trans HBB.out.size HBEL.out.size) _).grown HG6.out (Nat.le_trans HBB.out.size (Nat.le_trans HBEL.out.size (by simp))) (fun j e => (OwnL.lt HOK.out j e).1)⟩
          case measure => simp [intOf]
      · have hk2 : k = nblk n := by
          unfold nblk at hk ⊢
          split at hk
          · rename_i hz; rw [if_pos hz]; omega
          · rename_i hz; rw [if_neg hz]; omega
        have hce : cutN xs k = cutL xs := by rw [hk2, ← HXL.out]; rfl
        rw [hce] at hOk
        have t2 : ((64 * (k : Int)) == 0) = false := by simp; omega
        clear hO hk2 hce h0
        go_wp2_with fail
        go_ret2
        exact ⟨_, rfl, hOk, hB⟩

end Go.Proofs.Ytdaaigodpglnnaa
