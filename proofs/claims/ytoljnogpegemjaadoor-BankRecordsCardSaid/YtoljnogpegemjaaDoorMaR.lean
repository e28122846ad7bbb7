/- The document's Mac, Extract: what they answer. Condition: the key (1 to 64 bytes) and the bytes lie there; the table holds what its text lays. -/
import Derived.Test.YtoljnogpegemjaaDoorMaA
import Derived.Test.YtoljnogpegemjaaDoorApn
import Derived.Test.YtoljnogpegemjaaDoorHr
namespace Go.Proofs.YtoljnogpegemjaaDoor.Wr
open Go.RowKit Lm Cu Sl
set_option linter.unusedSimpArgs false
set_option linter.unusedSimpArgs false
set_option linter.unusedVariables false

theorem ktab_below {a b : World} (h : Ha.TabK a) (k : Below a.heap.size a b) : Ha.TabK b := fun t ht => (Kept.of_below k (T := fun _ => False)).cellX (h t ht) id
theorem wpList_append_new {w : World} {ops : Array Oper} {rest : List Oper} {o : Oper} {a : Act} {Q : Exit → Act → World → Prop} (hgd : o.guard = none) (s x : Operand)
    (ho : o.op = .call { callee := .builtin .append, args := #[s, x], argTypes := #[24, 24] }) (g n m c : Nat) (a2 : Addr) (xs ys : List Int) (hs : a.eval s = .slice (some ⟨g, 0, none⟩) n n) (hx : a.eval x = .slice (some a2) m c)
    (h1 : Src w (some ⟨g, 0, none⟩) n xs) (h2 : Src w (some a2) m ys) (hm : 0 < m) (hle : n + m ≤ 1099511627776)
    (h : ∀ g' cap w', Src w' (some ⟨g', 0, none⟩) (n + m) (xs ++ ys) → n + m ≤ cap → Below w.heap.size w w' → wpList Tryd.prog ops Q rest (a.put o.dst (.slice (some ⟨g', 0, none⟩) (n + m) cap)) w') : wpList Tryd.prog ops Q (o :: rest) a w := by
  refine wpList_plain hgd fun K hK => ?_
  have hq := step_append_new (ops := ops) (a := a) (K := K) (Q := Q) (E := True) hgd s x ho g n m c a2 xs ys hs hx h1 h2 hm hle (fun g' cap w' h3 h4 h5 => hK _ _ (h g' cap w' h3 h4 h5))
  rw [if_pos (by simp [Region.wanted, hgd])] at hq
  exact hq

set_option maxRecDepth 100000 in
set_option maxHeartbeats 16000000 in
theorem rmac_any (key msg : List Int) (ad : Addr) (nk ck : Nat) (a2 : Addr) (nb cb : Nat) (w : World) (hs : Src w (some ad) nk key) (hb : bytes key) (hnk : nk ≤ 64) (hB : Src w (some a2) nb msg) (bB : bytes msg) (h0 : 0 < nb) (hN : nb ≤ 1073741824) (hk : Ha.TabK w) :
    Calls Tryd.prog 71 #[.slice (some ad) nk ck, .slice (some a2) nb cb] w fun e w' => e = .returned (.agg (arr .u8 (mac key msg))) ∧ Below w.heap.size w w' := by
  have hl := hs.len
  have hl2 := hB.len
  have hgt : ¬ (64 : Int) < (nk : Int) := by omega
  obtain ⟨z64, hz⟩ : ∃ z : List Int, z = List.replicate 64 0 := ⟨_, rfl⟩
  have hmk : ∀ u : World, (Instr.makeSlice 24 (.int .i64 64) (.int .i64 64)).run Tryd.prog u = .ok (.slice (some ⟨u.heap.size, 0, none⟩) 64 64) (u.alloc (.cells (arr .u8 z64) 5)) := by intro u; rw [hz]; exact mk64 u
  have hzl : z64.length = 64 := by rw [hz]; rfl
  have h54 : key ++ z64.drop nk = padS key 54 0 := by rw [hz, ← padS_zero key 54 (by omega), List.drop_replicate, hl]
  have h92 : key ++ z64.drop nk = padS key 92 0 := by rw [hz, ← padS_zero key 92 (by omega), List.drop_replicate, hl]
  have hget := fun b i h => padS_get key b i h
  have hset := fun b i h => padS_set key b i h
  have b1 := pad_bytes key 54
  have b2 := pad_bytes key 92
  have l1 : (pad key 54).length = 64 := padS_len _ _ _
  have l2 : (pad key 92).length = 64 := padS_len _ _ _
  have hsh1 := fun (s : Addr) (c : Nat) (u : World) (h : Src u (some s) (64 + nb) (pad key 54 ++ msg)) (hk : Ha.TabK u) => Ha.ref_any (some s) (64 + nb) c _ u h (bytes_app b1 bB) (by omega) hk
  obtain ⟨h1, hh1⟩ : ∃ x, x = Ha.hash (pad key 54 ++ msg) := ⟨_, rfl⟩
  have hl1 : h1.length = 32 := by rw [hh1]; exact hash_len _
  have hb1 : bytes h1 := by rw [hh1]; exact hash_bytes _
  have hsh2 := fun (s : Addr) (c : Nat) (u : World) (h : Src u (some s) (64 + 32) (pad key 92 ++ h1)) (hk : Ha.TabK u) => Ha.ref_any (some s) (64 + 32) c _ u h (bytes_app b2 hb1) (by decide) hk
  have hm : mac key msg = Ha.hash (pad key 92 ++ h1) := by rw [hh1]; rfl
  rw [hm]
  rw [← hh1] at hsh1
  obtain ⟨h2, hh2⟩ : ∃ x, x = Ha.hash (pad key 92 ++ h1) := ⟨_, rfl⟩
  have hl3 : h2.length = 32 := by rw [hh2]; exact hash_len _
  rw [← hh2] at hsh2 ⊢
  have HSH1 := Lib.hid hsh1
  have HSH2 := Lib.hid hsh2
  have HL1 := Lib.hid l1
  have HL2 := Lib.hid l2
  have HH1 := Lib.hid hl1
  have HH2 := Lib.hid hl3
  have HS := Lib.hid hs
  have HB := Lib.hid hB
  have H0 := Lib.hid h0
  have HNB := Lib.hid hN
  have HNK := Lib.hid hnk
  have HZL := Lib.hid hzl
  have H54 := Lib.hid h54
  have H92 := Lib.hid h92
  have HGET := Lib.hid hget
  have HSET := Lib.hid hset
  have HTK := Lib.hid hk
  obtain ⟨zn, hzn⟩ : ∃ zs : List Int, zs = List.replicate 32 0 := ⟨_, rfl⟩
  have HZzn : Hid (∀ w, (zeroValue 23).run Tryd.prog w = .ok (.agg (arr .u8 zn)) w) := Lib.hid (by intro w; rw [hzn]; exact zero_num w)
  have HLzn : Hid (zn.length = 32) := Lib.hid (by rw [hzn]; rfl)
  have HI0 := Lib.hid (Blk.three w (arr .u8 zn) (arr .u8 z64) (arr .u8 z64) 23 5 5)
  clear hz hzl h54 h92 hget hset b1 b2 l1 l2 hsh1 hsh2 hh1 hl1 hb1 hm hh2 hl3 hs hB bB hb hnk h0 hN hk hl hl2 hzn
  go_enter Tryd.func71, Tryd.ntmps71
  go_upto_region 6 with (first | ((with_reducible show wpList _ _ _ (Oper.mk (some 4) _ _ _ _ _ :: _) _ _); refine wpList_alloc_row rfl 23 rfl _ (HZzn.out _) ?_))
  (try simp only [World.size_alloc, Act.put, List.setIfInBounds_toArray, List.set_cons_zero, List.set_cons_succ])
  generalize (((w.alloc (.cells (arr .u8 zn) 23)).alloc (.cells (arr .u8 z64) 5)).alloc (.cells (arr .u8 z64) 5)) = wb at HI0 ⊢
  go_upto_region 9 with (first | ((with_reducible show wpList _ _ _ (Oper.mk (some 20) _ _ _ _ _ :: _) _ _); refine wpList_copy rfl (.tmp 18) (.tmp 19) rfl (w.heap.size + 1) 64 64 nk ck ad z64 key 5 rfl rfl (HI0.out.get 1 rfl) (HS.out.below HI0.out.below) HNK.out (by rw [HZL.out]; exact Nat.le_refl _) ?_; rw [H54.out]; intro w1 hb1 hk1; have HI1 := Lib.hid (HI0.out.put 1 rfl hk1 hb1); clear hb1 hk1) | ((with_reducible show wpList _ _ _ (Oper.mk (some 23) _ _ _ _ _ :: _) _ _); refine wpList_copy rfl (.tmp 21) (.tmp 22) rfl (w.heap.size + 1 + 1) 64 64 nk ck ad z64 key 5 rfl rfl (HI1.out.get 2 rfl) (HS.out.below HI1.out.below) HNK.out (by rw [HZL.out]; exact Nat.le_refl _) ?_; rw [H92.out]; intro w2 hb1 hk1; have HI2 := Lib.hid (HI1.out.put 2 rfl hk1 hb1); clear hb1 hk1))
  (try simp only [World.size_alloc, Act.put, List.setIfInBounds_toArray, List.set_cons_zero, List.set_cons_succ])
  go_loopw [8] (fun v wr => ∃ i : Nat, i ≤ 64 ∧ v = .int .i64 i ∧ Blk w wr [(w.heap.size, arr .u8 zn, 23), (w.heap.size + 1, arr .u8 (padS key 54 i), 5), (w.heap.size + 1 + 1, arr .u8 (padS key 92 i), 5)]) (fun v _ => 64 - (intOf v).toNat)
  case atStart => exact ⟨0, Nat.zero_le _, rfl, HI2.out⟩
  clear HI2 HI0
  case round =>
  obtain ⟨i, hi, rfl, hB⟩ := hrel
  by_cases hlt : i < 64
  · have q0 := arr_get' (hB.get 1 rfl) i (by rw [padS_len]; exact hlt)
    have q1 := free_blk (hB.get 1 rfl) i
    have p0 := arr_get' (hB.get 2 rfl) i (by rw [padS_len]; exact hlt)
    rw [HGET.out _ i hlt] at q0 p0
    have s1 := HSET.out 54 i hlt
    have s2 := HSET.out 92 i hlt
    generalize key.getD i 0 = y at q0 p0 s1 s2
    have hb1 := hB.cell 1 rfl i (.int .u8 (bits .xor .u8 y 54))
    have e1 : (arr .u8 (padS key 54 i)).setIfInBounds i (.int .u8 (bits .xor .u8 y 54)) = arr .u8 (padS key 54 (i + 1)) := by rw [arr_set, s1]
    have hb2 := hb1.cast (l' := [(w.heap.size, arr .u8 zn, 23), (w.heap.size + 1, arr .u8 (padS key 54 (i + 1)), 5), (w.heap.size + 1 + 1, arr .u8 (padS key 92 i), 5)]) (by rw [← e1]; rfl)
    have p1 := arr_get' (hb2.get 2 rfl) i (by rw [padS_len]; exact hlt)
    have p2 := free_blk (hb2.get 2 rfl) i
    rw [HGET.out _ i hlt] at p1
    have hy : key.getD i 0 = y := by
      have := arr_get' (hB.get 2 rfl) i (by rw [padS_len]; exact hlt)
      rw [HGET.out _ i hlt, p0] at this
      injection this with this
      injection this with _ this
      exact this.symm
    rw [hy] at p1
    have hb3 := hb2.cell 2 rfl i (.int .u8 (bits .xor .u8 y 92))
    have e2 : (arr .u8 (padS key 92 i)).setIfInBounds i (.int .u8 (bits .xor .u8 y 92)) = arr .u8 (padS key 92 (i + 1)) := by rw [arr_set, s2]
    have HB3 := Lib.hid (hb3.cast (l' := [(w.heap.size, arr .u8 zn, 23), (w.heap.size + 1, arr .u8 (padS key 54 (i + 1)), 5), (w.heap.size + 1 + 1, arr .u8 (padS key 92 (i + 1)), 5)]) (by rw [← e2]; rfl))
    clear hb1 hb2 hb3 e1 e2 s1 s2 hB p0 hy
    go_wp2_with fail
    go_roundw
    case rel => exact ⟨i + 1, by omega, by go_num, HB3.out⟩
    case measure => simp [intOf]; omega
  · obtain rfl : i = 64 := by omega
    have HI3 := Lib.hid hB
    clear hB
    go_wp2_with (first | ((with_reducible show wpList _ _ _ (Oper.mk (some 46) _ _ _ _ _ :: _) _ _); refine wpList_append_new rfl (.tmp 44) (.tmp 45) rfl (w.heap.size + 1) 64 nb cb a2 (pad key 54) msg rfl rfl (src_all (HI3.out.get 1 rfl) 64 HL1.out) (HB.out.below HI3.out.below) H0.out (by have := HNB.out; omega) ?_; intro g4 c4 w4 hs4 _ hb4; have HS4 := Lib.hid hs4; have HI4 := Lib.hid (HI3.out.kept hb4); clear hs4 hb4) | ((with_reducible show Calls _ 19 _ _ _); go_at_call 19; refine (HSH1.out _ _ _ HS4.out (ktab_below HTK.out HI4.out.below)).mono ?_; rintro e w5 ⟨rfl, hb5⟩; have HI5 := Lib.hid (HI4.out.kept hb5); clear hb5 HSH1) | ((with_reducible show wpList _ _ _ (Oper.mk (some 9) _ _ _ _ _ :: _) _ _); refine wpList_alloc_row rfl 23 rfl _ (HZzn.out _) ?_; have HI6 := Lib.hid (HI5.out.alloc (arr .u8 zn) 23); generalize w5.heap.size = g9 at HI6 ⊢; generalize w5.alloc (.cells (arr .u8 zn) 23) = w6 at HI6 ⊢) | ((with_reducible show wpList _ _ _ (Oper.mk none (Op.store _ (Operand.tmp 9) _) _ _ _ _ :: _) _ _); refine wpList_store_whole rfl 23 _ _ rfl (g9) _ _ 23 (HI6.out.get 3 rfl) rfl rfl (arr_len2 _ _ HH1.out HLzn.out) (num_s HH1.out) (all_arr _ _) ?_; intro w7 hb7 hk7 hz7; have HI7 := Lib.hid (HI6.out.put 3 rfl hk7 hb7); clear hb7 hk7 hz7) | ((with_reducible show wpList _ _ _ (Oper.mk (some 50) _ _ _ _ _ :: _) _ _); refine wpList_append_new rfl (.tmp 48) (.tmp 49) rfl (w.heap.size + 1 + 1) 64 32 32 ⟨g9, 0, none⟩ (pad key 92) h1 rfl rfl (src_all (HI7.out.get 2 rfl) 64 HL2.out) (src_all (HI7.out.get 3 rfl) 32 HH1.out) (by decide) (by decide) ?_; intro g8 c8 w8 hs8 _ hb8; have HS8 := Lib.hid hs8; have HI8 := Lib.hid (HI7.out.kept hb8); clear hs8 hb8) | ((with_reducible show Calls _ 19 _ _ _); go_at_call 19; refine (HSH2.out _ _ _ HS8.out (ktab_below HTK.out HI8.out.below)).mono ?_; rintro e w9 ⟨rfl, hb9⟩; have HI9 := Lib.hid (HI8.out.kept hb9); clear hb9) | ((with_reducible show wpList _ _ _ (Oper.mk none (Op.store _ (Operand.tmp 4) _) _ _ _ _ :: _) _ _); refine wpList_store_whole rfl 23 _ _ rfl (w.heap.size) _ _ 23 (HI9.out.get 0 rfl) rfl rfl (arr_len2 _ _ HH2.out HLzn.out) (num_s HH2.out) (all_arr _ _) ?_; intro w10 hb10 hk10 hz10; have HI10 := Lib.hid (HI9.out.put 0 rfl hk10 hb10); clear hb10 hk10 hz10))
    (try simp only [Exit.then])
    refine bodyPost_ret (results_cell_row rfl _ _ (w.heap.size) 23 _ (0, 0) _ rfl (HI10.out.get 0 rfl) Tryd.underlying23 rfl (num_s HH2.out)) rfl ?_
    exact ⟨rfl, HI10.out.below⟩

set_option maxRecDepth 100000 in
set_option maxHeartbeats 4000000 in
theorem rextract_any (salt key : List Int) (ad : Addr) (nk ck : Nat) (a2 : Addr) (nb cb : Nat) (w : World) (hs : Src w (some ad) nk salt) (hb : bytes salt) (hnk : nk ≤ 64) (hB : Src w (some a2) nb key) (bB : bytes key) (h0 : 0 < nb) (hN : nb ≤ 1073741824) (hk : Ha.TabK w) :
    Calls Tryd.prog 165 #[.slice (some ad) nk ck, .slice (some a2) nb cb] w fun e w' => e = .returned (.agg (arr .u8 (mac salt key))) ∧ Below w.heap.size w w' := by
  have hms := fun (u : World) (h1 : Src u (some ad) nk salt) (h2 : Src u (some a2) nb key) (h3 : Ha.TabK u) => rmac_any salt key ad nk ck a2 nb cb u h1 hb hnk h2 bB h0 hN h3
  obtain ⟨h1, hh1⟩ : ∃ x, x = mac salt key := ⟨_, rfl⟩
  rw [← hh1] at hms ⊢
  have HH1 : Hid (h1.length = 32) := Lib.hid (by rw [hh1]; exact mac_len _ _)
  have HMS := Lib.hid hms
  have HS := Lib.hid hs
  have HSB := Lib.hid hB
  have HTK := Lib.hid hk
  obtain ⟨zn, hzn⟩ : ∃ zs : List Int, zs = List.replicate 32 0 := ⟨_, rfl⟩
  have HZzn : Hid (∀ w, (zeroValue 23).run Tryd.prog w = .ok (.agg (arr .u8 zn)) w) := Lib.hid (by intro w; rw [hzn]; exact zero_num w)
  have HLzn : Hid (zn.length = 32) := Lib.hid (by rw [hzn]; rfl)
  have HI0 := Lib.hid (Blk.one w (arr .u8 zn) 23)
  clear hh1 hms hs hB hzn hb bB hnk hN h0 hk
  go_enter Tryd.func165, Tryd.ntmps165
  go_upto_region 1 with (first | ((with_reducible show wpList _ _ _ (Oper.mk (some 4) _ _ _ _ _ :: _) _ _); refine wpList_alloc_row rfl 23 rfl _ (HZzn.out _) ?_))
  (try simp only [World.size_alloc, Act.put, List.setIfInBounds_toArray, List.set_cons_zero, List.set_cons_succ])
  generalize (w.alloc (.cells (arr .u8 zn) 23)) = wb at HI0 ⊢
  go_wp2_with (first | ((with_reducible show Calls _ 71 _ _ _); go_at_call 71; refine (HMS.out _ (HS.out.below HI0.out.below) (HSB.out.below HI0.out.below) (ktab_below HTK.out HI0.out.below)).mono ?_; rintro e w1 ⟨rfl, hb1⟩; have HI1 := Lib.hid (HI0.out.kept hb1); clear hb1) | ((with_reducible show wpList _ _ _ (Oper.mk none (Op.store _ (Operand.tmp 4) _) _ _ _ _ :: _) _ _); refine wpList_store_whole rfl 23 _ _ rfl (w.heap.size) _ _ 23 (HI1.out.get 0 rfl) rfl rfl (arr_len2 _ _ HH1.out HLzn.out) (num_s HH1.out) (all_arr _ _) ?_; intro w2 hb2 hk2 hz2; have HI2 := Lib.hid (HI1.out.put 0 rfl hk2 hb2); clear hb2 hk2 hz2))
  (try simp only [Exit.then])
  refine bodyPost_ret (results_cell_row rfl _ _ (w.heap.size) 23 _ (0, 0) _ rfl (HI2.out.get 0 rfl) Tryd.underlying23 rfl (num_s HH1.out)) rfl ?_
  exact ⟨rfl, HI2.out.below⟩
end Go.Proofs.YtoljnogpegemjaaDoor.Wr
