/- The document's Mac, Extract: what they answer. Condition: as each theorem says. -/
import Derived.Test.YtogebegdgfdijaaDoorMm
import Derived.Test.YtogebegdgfdijaaDoorHh
import Derived.Test.YtogebegdgfdijaaDoorMa
set_option maxRecDepth 100000
set_option maxHeartbeats 16000000
set_option linter.unusedSimpArgs false
set_option linter.unusedVariables false
namespace Go.Proofs.YtogebegdgfdijaaDoor.Wr
open Go.RowKit Lm Cu Sl
theorem ktab_below {a b : World} (h : Ha.TabK a) (k : Below a.heap.size a b) : Ha.TabK b := fun t ht => (Kept.of_below k (T := fun _ => False)).cellX (h t ht) id
theorem wpList_append_new {w : World} {ops : Array Oper} {rest : List Oper} {o : Oper} {a : Act} {Q : Exit → Act → World → Prop} (hgd : o.guard = none) (s x : Operand)
    (ho : o.op = .call { callee := .builtin .append, args := #[s, x], argTypes := #[25, 25] }) (g n m c : Nat) (a2 : Addr) (xs ys : List Int) (hs : a.eval s = .slice (some ⟨g, 0, none⟩) n n) (hx : a.eval x = .slice (some a2) m c)
    (h1 : Src w (some ⟨g, 0, none⟩) n xs) (h2 : Src w (some a2) m ys) (hm : 0 < m) (hle : n + m ≤ 1099511627776)
    (h : ∀ g' cap w', Src w' (some ⟨g', 0, none⟩) (n + m) (xs ++ ys) → n + m ≤ cap → Below w.heap.size w w' → wpList Tryd.prog ops Q rest (a.put o.dst (.slice (some ⟨g', 0, none⟩) (n + m) cap)) w') : wpList Tryd.prog ops Q (o :: rest) a w := by
  refine wpList_plain hgd fun K hK => ?_
  have hq := step_append_new (ops := ops) (a := a) (K := K) (Q := Q) (E := True) hgd s x ho g n m c a2 xs ys hs hx h1 h2 hm hle (fun g' cap w' h3 h4 h5 => hK _ _ (h g' cap w' h3 h4 h5))
  rw [if_pos (by simp [Region.wanted, hgd])] at hq
  exact hq
theorem rmac_any (key msg : List Int) (ad : Addr) (nk ck : Nat) (a2 : Addr) (nb cb : Nat) (w : World) (hs : Src w (some ad) nk key) (hb : bytes key) (hnk : nk ≤ 64) (hB : Src w (some a2) nb msg) (bB : bytes msg) (h0 : 0 < nb) (hN : nb ≤ 1073741824) (hk : Ha.TabK w) :
    Calls Tryd.prog 65 #[.slice (some ad) nk ck, .slice (some a2) nb cb] w fun e w' => e = .returned (.agg (arr .u8 (mac key msg))) ∧ Below w.heap.size w w' := by
  have hl := hs.len
  have hl2 := hB.len
  have hgt : ¬ (64 : Int) < (nk : Int) := by omega
  obtain ⟨z64, hz⟩ : ∃ z : List Int, z = List.replicate 64 0 := ⟨_, rfl⟩
  have hmk : ∀ u : World, (Instr.makeSlice 25 (.int .i64 64) (.int .i64 64)).run Tryd.prog u = .ok (.slice (some ⟨u.heap.size, 0, none⟩) 64 64) (u.alloc (.cells (arr .u8 z64) 5)) := by intro u; rw [hz]; exact mk64 u
  have hzl : z64.length = 64 := by rw [hz]; rfl
  have h54 : key ++ z64.drop nk = padS key 54 0 := by rw [hz, ← padS_zero key 54 (by omega), List.drop_replicate, hl]
  have h92 : key ++ z64.drop nk = padS key 92 0 := by rw [hz, ← padS_zero key 92 (by omega), List.drop_replicate, hl]
  have hget := fun b i h => padS_get key b i h
  have hset := fun b i h => padS_set key b i h
  have b1 := pad_bytes key 54
  have b2 := pad_bytes key 92
  have l1 : (pad key 54).length = 64 := padS_len _ _ _
  have l2 : (pad key 92).length = 64 := padS_len _ _ _
  have hsh1 := fun (s : Addr) (c : Nat) (u : World) (h : Src u (some s) (64 + nb) (pad key 54 ++ msg)) (hk : Ha.TabK u) => Ha.ref_any (some s) (64 + nb) c _ u h (bytes_app b1 bB) (by omega) hk
  obtain ⟨h1, hh1⟩ : ∃ x, x = Ha.hash (pad key 54 ++ msg) := ⟨_, rfl⟩
  have hl1 : h1.length = 32 := by rw [hh1]; exact hash_len _
  have hb1 : bytes h1 := by rw [hh1]; exact hash_bytes _
  have hsh2 := fun (s : Addr) (c : Nat) (u : World) (h : Src u (some s) (64 + 32) (pad key 92 ++ h1)) (hk : Ha.TabK u) => Ha.ref_any (some s) (64 + 32) c _ u h (bytes_app b2 hb1) (by decide) hk
  have hm : mac key msg = Ha.hash (pad key 92 ++ h1) := by rw [hh1]; rfl
  rw [hm]
  rw [← hh1] at hsh1
  obtain ⟨h2, hh2⟩ : ∃ x, x = Ha.hash (pad key 92 ++ h1) := ⟨_, rfl⟩
  have hl3 : h2.length = 32 := by rw [hh2]; exact hash_len _
  rw [← hh2] at hsh2 ⊢
  have HSH1 := Lib.hid hsh1
  have HSH2 := Lib.hid hsh2
  have HL1 := Lib.hid l1
  have HL2 := Lib.hid l2
  have HH1 := Lib.hid hl1
  have HH2 := Lib.hid hl3
  have HS := Lib.hid hs
  have HB := Lib.hid hB
  have H0 := Lib.hid h0
  have HNB := Lib.hid hN
  have HNK := Lib.hid hnk
  have HZL := Lib.hid hzl
  have H54 := Lib.hid h54
  have H92 := Lib.hid h92
  have HGET := Lib.hid hget
  have HSET := Lib.hid hset
  have HTK := Lib.hid hk
  obtain ⟨zn, hzn⟩ : ∃ zs : List Int, zs = List.replicate 32 0 := ⟨_, rfl⟩
  have HZzn : Hid (∀ w, (zeroValue 23).run Tryd.prog w = .ok (.agg (arr .u8 zn)) w) := Lib.hid (by intro w; rw [hzn]; exact zero_num w)
  have HLzn : Hid (zn.length = 32) := Lib.hid (by rw [hzn]; rfl)
  have HI0 := Lib.hid (Blk.three w (arr .u8 zn) (arr .u8 z64) (arr .u8 z64) 23 5 5)
  clear hz hzl h54 h92 hget hset b1 b2 l1 l2 hsh1 hsh2 hh1 hl1 hb1 hm hh2 hl3 hs hB bB hb hnk h0 hN hk hl hl2 hzn
  go_enter Tryd.func65, Tryd.ntmps65
  go_upto_region 6 with (first | ((with_reducible refine aS 4 ?_); refine wpList_alloc_row rfl 23 rfl _ (HZzn.out _) ?_))
  (try simp only [World.size_alloc, Act.put, sA, sZ, sS])
  generalize (((w.alloc (.cells (arr .u8 zn) 23)).alloc (.cells (arr .u8 z64) 5)).alloc (.cells (arr .u8 z64) 5)) = wb at HI0 ⊢
  go_upto_region 9 with (first | ((with_reducible refine aS 20 ?_); refine wpList_copy rfl (.tmp 18) (.tmp 19) rfl (w.heap.size + 1) 64 64 nk ck ad z64 key 5 rfl rfl (HI0.out.get 1 rfl) (HS.out.below HI0.out.below) HNK.out (by rw [HZL.out]; exact Nat.le_refl _) ?_; rw [H54.out]; intro w1 hb1 hk1; have HI1 := Lib.hid (HI0.out.put 1 rfl hk1 hb1); clear hb1 hk1) | ((with_reducible refine aS 23 ?_); refine wpList_copy rfl (.tmp 21) (.tmp 22) rfl (w.heap.size + 1 + 1) 64 64 nk ck ad z64 key 5 rfl rfl (HI1.out.get 2 rfl) (HS.out.below HI1.out.below) HNK.out (by rw [HZL.out]; exact Nat.le_refl _) ?_; rw [H92.out]; intro w2 hb1 hk1; have HI2 := Lib.hid (HI1.out.put 2 rfl hk1 hb1); clear hb1 hk1))
  (try simp only [World.size_alloc, Act.put, sA, sZ, sS])
  go_loopw [8] (fun v wr => ∃ i : Nat, i ≤ 64 ∧ v = .int .i64 i ∧ Blk w wr [(w.heap.size, arr .u8 zn, 23), (w.heap.size + 1, arr .u8 (padS key 54 i), 5), (w.heap.size + 1 + 1, arr .u8 (padS key 92 i), 5)]) (fun v _ => 64 - (intOf v).toNat)
  case atStart => exact ⟨0, Nat.zero_le _, rfl, HI2.out⟩
  clear HI2 HI0
  case round =>
  obtain ⟨i, hi, rfl, hB⟩ := hrel
  by_cases hlt : i < 64
  · have q0 := arr_get' (hB.get 1 rfl) i (by rw [padS_len]; exact hlt)
    have q1 := free_blk (hB.get 1 rfl) i
    have p0 := arr_get' (hB.get 2 rfl) i (by rw [padS_len]; exact hlt)
    rw [HGET.out _ i hlt] at q0 p0
    have s1 := HSET.out 54 i hlt
    have s2 := HSET.out 92 i hlt
    generalize key.getD i 0 = y at q0 p0 s1 s2
    have hb1 := hB.cell 1 rfl i (.int .u8 (bits .xor .u8 y 54))
    have e1 : (arr .u8 (padS key 54 i)).setIfInBounds i (.int .u8 (bits .xor .u8 y 54)) = arr .u8 (padS key 54 (i + 1)) := by rw [arr_set, s1]
    have hb2 := hb1.cast (l' := [(w.heap.size, arr .u8 zn, 23), (w.heap.size + 1, arr .u8 (padS key 54 (i + 1)), 5), (w.heap.size + 1 + 1, arr .u8 (padS key 92 i), 5)]) (by rw [← e1]; rfl)
    have p1 := arr_get' (hb2.get 2 rfl) i (by rw [padS_len]; exact hlt)
    have p2 := free_blk (hb2.get 2 rfl) i
    rw [HGET.out _ i hlt] at p1
    have hy : key.getD i 0 = y := by
      have := arr_get' (hB.get 2 rfl) i (by rw [padS_len]; exact hlt)
      rw [HGET.out _ i hlt, p0] at this
      injection this with this
      injection this with _ this
      exact this.symm
    rw [hy] at p1
    have hb3 := hb2.cell 2 rfl i (.int .u8 (bits .xor .u8 y 92))
    have e2 : (arr .u8 (padS key 92 i)).setIfInBounds i (.int .u8 (bits .xor .u8 y 92)) = arr .u8 (padS key 92 (i + 1)) := by rw [arr_set, s2]
    have HB3 := Lib.hid (hb3.cast (l' := [(w.heap.size, arr .u8 zn, 23), (w.heap.size + 1, arr .u8 (padS key 54 (i + 1)), 5), (w.heap.size + 1 + 1, arr .u8 (padS key 92 (i + 1)), 5)]) (by rw [← e2]; rfl))
    clear hb1 hb2 hb3 e1 e2 s1 s2 hB p0 hy
    go_wp2_with fail
    go_roundw
    case rel => exact ⟨i + 1, by omega, by go_num, HB3.out⟩
    case measure => simp [intOf]; omega
  · obtain rfl : i = 64 := by omega
    have HI3 := Lib.hid hB
    clear hB
    go_wp2_with (first | ((with_reducible refine aS 46 ?_); refine wpList_append_new rfl (.tmp 44) (.tmp 45) rfl (w.heap.size + 1) 64 nb cb a2 (pad key 54) msg rfl rfl (src_all (HI3.out.get 1 rfl) 64 HL1.out) (HB.out.below HI3.out.below) H0.out (by have := HNB.out; omega) ?_; intro g4 c4 w4 hs4 _ hb4; have HS4 := Lib.hid hs4; have HI4 := Lib.hid (HI3.out.kept hb4); clear hs4 hb4) | ((with_reducible show Calls _ 84 _ _ _); go_at_call 84; refine (HSH1.out _ _ _ HS4.out (ktab_below HTK.out HI4.out.below)).mono ?_; rintro e w5 ⟨rfl, hb5⟩; have HI5 := Lib.hid (HI4.out.kept hb5); clear hb5 HSH1) | ((with_reducible refine aS 9 ?_); refine wpList_alloc_row rfl 23 rfl _ (HZzn.out _) ?_; have HI6 := Lib.hid (HI5.out.alloc (arr .u8 zn) 23); generalize w5.heap.size = g9 at HI6 ⊢; generalize w5.alloc (.cells (arr .u8 zn) 23) = w6 at HI6 ⊢) | ((with_reducible refine aT 9 ?_); refine wpList_store_whole rfl 23 _ _ rfl (g9) _ _ 23 (HI6.out.get 3 rfl) rfl rfl (arr_len2 _ _ HH1.out HLzn.out) (num_s HH1.out) (all_arr _ _) ?_; intro w7 hb7 hk7 hz7; have HI7 := Lib.hid (HI6.out.put 3 rfl hk7 hb7); clear hb7 hk7 hz7) | ((with_reducible refine aS 50 ?_); refine wpList_append_new rfl (.tmp 48) (.tmp 49) rfl (w.heap.size + 1 + 1) 64 32 32 ⟨g9, 0, none⟩ (pad key 92) h1 rfl rfl (src_all (HI7.out.get 2 rfl) 64 HL2.out) (src_all (HI7.out.get 3 rfl) 32 HH1.out) (by decide) (by decide) ?_; intro g8 c8 w8 hs8 _ hb8; have HS8 := Lib.hid hs8; have HI8 := Lib.hid (HI7.out.kept hb8); clear hs8 hb8) | ((with_reducible show Calls _ 84 _ _ _); go_at_call 84; refine (HSH2.out _ _ _ HS8.out (ktab_below HTK.out HI8.out.below)).mono ?_; rintro e w9 ⟨rfl, hb9⟩; have HI9 := Lib.hid (HI8.out.kept hb9); clear hb9) | ((with_reducible refine aT 4 ?_); refine wpList_store_whole rfl 23 _ _ rfl (w.heap.size) _ _ 23 (HI9.out.get 0 rfl) rfl rfl (arr_len2 _ _ HH2.out HLzn.out) (num_s HH2.out) (all_arr _ _) ?_; intro w10 hb10 hk10 hz10; have HI10 := Lib.hid (HI9.out.put 0 rfl hk10 hb10); clear hb10 hk10 hz10))
    (try simp only [Exit.then])
    refine bodyPost_ret (results_cell_row rfl _ _ (w.heap.size) 23 _ (0, 0) _ rfl (HI10.out.get 0 rfl) Tryd.underlying23 rfl (num_s HH2.out)) rfl ?_
    exact ⟨rfl, HI10.out.below⟩
theorem rextract_any (salt key : List Int) (ad : Addr) (nk ck : Nat) (a2 : Addr) (nb cb : Nat) (w : World) (hs : Src w (some ad) nk salt) (hb : bytes salt) (hnk : nk ≤ 64) (hB : Src w (some a2) nb key) (bB : bytes key) (h0 : 0 < nb) (hN : nb ≤ 1073741824) (hk : Ha.TabK w) :
    Calls Tryd.prog 37 #[.slice (some ad) nk ck, .slice (some a2) nb cb] w fun e w' => e = .returned (.agg (arr .u8 (mac salt key))) ∧ Below w.heap.size w w' := by
  have hms := fun (u : World) (h1 : Src u (some ad) nk salt) (h2 : Src u (some a2) nb key) (h3 : Ha.TabK u) => rmac_any salt key ad nk ck a2 nb cb u h1 hb hnk h2 bB h0 hN h3
  obtain ⟨h1, hh1⟩ : ∃ x, x = mac salt key := ⟨_, rfl⟩
  rw [← hh1] at hms ⊢
  have HH1 : Hid (h1.length = 32) := Lib.hid (by rw [hh1]; exact mac_len _ _)
  have HMS := Lib.hid hms
  have HS := Lib.hid hs
  have HSB := Lib.hid hB
  have HTK := Lib.hid hk
  obtain ⟨zn, hzn⟩ : ∃ zs : List Int, zs = List.replicate 32 0 := ⟨_, rfl⟩
  have HZzn : Hid (∀ w, (zeroValue 23).run Tryd.prog w = .ok (.agg (arr .u8 zn)) w) := Lib.hid (by intro w; rw [hzn]; exact zero_num w)
  have HLzn : Hid (zn.length = 32) := Lib.hid (by rw [hzn]; rfl)
  have HI0 := Lib.hid (Blk.one w (arr .u8 zn) 23)
  clear hh1 hms hs hB hzn hb bB hnk hN h0 hk
  go_enter Tryd.func37, Tryd.ntmps37
  go_upto_region 1 with (first | ((with_reducible refine aS 4 ?_); refine wpList_alloc_row rfl 23 rfl _ (HZzn.out _) ?_))
  (try simp only [World.size_alloc, Act.put, sA, sZ, sS])
  generalize (w.alloc (.cells (arr .u8 zn) 23)) = wb at HI0 ⊢
  go_wp2_with (first | ((with_reducible show Calls _ 65 _ _ _); go_at_call 65; refine (HMS.out _ (HS.out.below HI0.out.below) (HSB.out.below HI0.out.below) (ktab_below HTK.out HI0.out.below)).mono ?_; rintro e w1 ⟨rfl, hb1⟩; have HI1 := Lib.hid (HI0.out.kept hb1); clear hb1) | ((with_reducible refine aT 4 ?_); refine wpList_store_whole rfl 23 _ _ rfl (w.heap.size) _ _ 23 (HI1.out.get 0 rfl) rfl rfl (arr_len2 _ _ HH1.out HLzn.out) (num_s HH1.out) (all_arr _ _) ?_; intro w2 hb2 hk2 hz2; have HI2 := Lib.hid (HI1.out.put 0 rfl hk2 hb2); clear hb2 hk2 hz2))
  (try simp only [Exit.then])
  refine bodyPost_ret (results_cell_row rfl _ _ (w.heap.size) 23 _ (0, 0) _ rfl (HI2.out.get 0 rfl) Tryd.underlying23 rfl (num_s HH1.out)) rfl ?_
  exact ⟨rfl, HI2.out.below⟩
end Go.Proofs.YtogebegdgfdijaaDoor.Wr
namespace Go.Proofs.YtogebegdgfdijaaDoor.Wr
open Go.RowKit Lm Cu Sl
theorem Blk.grown {w wr w' : World} {l : List (Nat × Array Value × TypeId)} {r : Option Nat} (h : Blk w wr l) (hg : wr.grownBy w' r) (hne : ∀ e ∈ l, some e.1 ≠ r) (hb : Below w.heap.size w w') : Blk w w' l := by
  refine ⟨fun i g c t hi => ?_, h.inj, hb⟩
  obtain ⟨h1, h2⟩ := h.mem i g c t hi
  refine ⟨?_, h2⟩
  rw [hg.block g (h.lt i hi) (hne _ (List.mem_of_getElem? hi))]
  exact h1
theorem rexpand_any (key info : List Int) (a2 : Addr) (nb cb : Nat) (w : World) (hkl : key.length = 32) (hb : bytes key) (hB : Src w (some a2) nb info) (bB : bytes info) (hN : nb ≤ 1000000) (hk : Ha.TabK w) :
    Calls Tryd.prog 36 #[.agg (arr .u8 key), .slice (some a2) nb cb, .int .i64 32] w fun e w' => ∃ v, e = .returned v ∧ Own8 w' w.heap.size v (mac key (info ++ [1])) ∧ Below w.heap.size w w' := by
  have hl := hB.len
  have hms := fun (g : Addr) (s : Addr) (c : Nat) (u : World) (h1 : Src u (some g) 32 key) (h2 : Src u (some s) (nb + 1) (info ++ [1])) (h3 : Ha.TabK u) => rmac_any key (info ++ [1]) g 32 32 s (nb + 1) c u h1 hb (by decide) h2 (bytes_app bB (by intro x hx; simp only [List.mem_singleton] at hx; subst hx; decide)) (by omega) (by omega) h3
  obtain ⟨h1, hh1⟩ : ∃ x, x = mac key (info ++ [1]) := ⟨_, rfl⟩
  rw [← hh1] at hms ⊢
  have HH1 : Hid (h1.length = 32) := Lib.hid (by rw [hh1]; exact mac_len _ _)
  have HMS := Lib.hid hms
  have HS := Lib.hid hB
  have HTK := Lib.hid hk
  have HKL := Lib.hid hkl
  have HL := Lib.hid hl
  have HNB := Lib.hid hN
  obtain ⟨zn, hzn⟩ : ∃ zs : List Int, zs = List.replicate 32 0 := ⟨_, rfl⟩
  have HZzn : Hid (∀ w, (zeroValue 23).run Tryd.prog w = .ok (.agg (arr .u8 zn)) w) := Lib.hid (by intro w; rw [hzn]; exact zero_num w)
  have HLzn : Hid (zn.length = 32) := Lib.hid (by rw [hzn]; rfl)
  have HI0 := Lib.hid (Blk.one w (arr .u8 key) 23)
  clear hh1 hms hB hzn hb bB hN hk hkl hl
  go_enter Tryd.func36, Tryd.ntmps36
  go_wp2_with fail
  go_loopw [7, 8, 9] (fun v7 v8 v9 wr => (v9 = .int .i64 1 ∧ v7 = .slice none 0 0 ∧ v8 = .slice none 0 0 ∧ Blk w wr [(w.heap.size, arr .u8 key, 23)]) ∨ (v9 = .int .i64 2 ∧ Own8 wr w.heap.size v7 h1 ∧ Below w.heap.size w wr)) (fun _ _ v9 _ => (3 - intOf v9).toNat)
  case atStart => exact Or.inl ⟨rfl, rfl, rfl, HI0.out⟩
  clear HI0
  case round =>
  rcases hrel with ⟨rfl, rfl, rfl, hB⟩ | ⟨rfl, ho, hbl⟩
  rotate_left
  · have hq := ho.form
    obtain ⟨sa, c, rfl, hcc, hcm, hsr, hor⟩ := hq
    rw [HH1.out] at hcc hsr ⊢
    have HSR := Lib.hid hsr
    have HBL := Lib.hid hbl
    have hc1 : ¬ (c : Int) < 32 := by omega
    have hsa : ∃ g, sa = some ⟨g, 0, none⟩ := by
      rcases hor with ⟨-, h0, -⟩ | ⟨g, rfl, -, -⟩
      · have := HH1.out
        rw [h0] at this
        exact absurd this (by decide)
      · exact ⟨g, rfl⟩
    obtain ⟨g, rfl⟩ := hsa
    clear ho hsr hbl hcm hor
    go_wp2_with (first | ((with_reducible refine aS 38 ?_); refine wpList_app8 rfl (.const (.slice none 0 0)) (.tmp 37) rfl wr.heap.size _ [] rfl (Own8.nil _ _) _ 32 c h1 rfl HSR.out (by decide) (Nat.le_refl _) ?_; rw [List.nil_append]; intro v9 w9 how hgr _ _; have hb9 := app8_below (Own8.nil wr wr.heap.size) hgr (Below.refl _ _) (Nat.le_refl _); have HO9 := Lib.hid (how.mono HBL.out.size); have HB9 := Lib.hid (HBL.out.trans (hb9.mono HBL.out.size)); clear how hgr hb9))
    (try simp only [Exit.then])
    go_ret
    exact ⟨v9, rfl, HO9.out, HB9.out⟩
  have HB := Lib.hid hB
  clear hB
  go_upto_region 7 with (first | ((with_reducible refine aS 19 ?_); refine wpList_app8 rfl (.const (.slice none 0 0)) (.tmp 18) rfl wr.heap.size _ [] rfl (Own8.nil _ _) none 0 0 [] rfl ⟨rfl, fun i hi => absurd hi (by simp)⟩ (by decide) (Nat.le_refl _) ?_; intro vz wz how hgr hnn _; obtain rfl := hnn.2 ⟨rfl, rfl⟩; have hbz := app8_below (Own8.nil wr wr.heap.size) hgr (Below.refl _ _) (Nat.le_refl _); have HIz := Lib.hid (HB.out.kept hbz); have HSZ := Lib.hid hbz.size; clear how hgr hbz) | ((with_reducible refine aS 21 ?_); refine wpList_app8 rfl (.tmp 19) (.tmp 20) rfl wz.heap.size _ [] rfl (Own8.nil _ _) (some a2) nb cb info rfl (HS.out.below HIz.out.below) (by have := HNB.out; simp; omega) (Nat.le_refl _) ?_; rw [List.nil_append]; intro vb wb how hgr _ _; have hbb := app8_below (Own8.nil wz wz.heap.size) hgr (Below.refl _ _) (Nat.le_refl _); have HI1 := Lib.hid (HIz.out.kept hbb); have HOB := Lib.hid how; have HWZ := Lib.hid (show wz.heap.size ≤ wb.heap.size from hbb.size); have HKZ := Lib.hid (HIz.out.lt 0 rfl); clear how hgr hbb))
  (try simp only [World.size_alloc, Act.put, sA, sZ, sS])
  refine wp_region_held_drew (S := fun _ => True) (by kernel_rfl) trivial (fun hHeld => ?_)
  have HBd := Lib.hid (HI1.out.drew)
  have HOd : Hid (Own8 wb.drew wz.heap.size vb info) := Lib.hid HOB.out.drew
  have HWd : Hid (wz.heap.size ≤ wb.drew.heap.size) := HWZ
  generalize wb.drew = wd at HBd HOd HWd ⊢
  refine wpAnyH_take (i := 0) (oi := (⟨some 22, _, _, _, _, none⟩ : Oper)) (v := .slice (some ⟨w.heap.size, 0, none⟩) 32 32) rfl (by kernel_rfl) (by kernel_rfl) (by kernel_rfl) (fun _ _ _ h => h) (Or.inl ⟨by rfl, ?hy6701⟩) trivial ?rest6701
  case hy6701 => (intro w _; (try dsimp only); go_simp; try (with_reducible rfl))
  (try simp only [Act.put, sA, sZ, sS])
  refine wpAnyH_take (i := 1) (oi := (⟨some 23, _, _, _, _, none⟩ : Oper)) (v := vb) rfl (by kernel_rfl) (by kernel_rfl) (by kernel_rfl) (fun _ _ _ h => h) (Or.inl ⟨by rfl, ?hy6702⟩) trivial ?rest6702
  case hy6702 => (intro w _; (try dsimp only); first | rfl | kernel_rfl)
  (try simp only [Act.put, sA, sZ, sS])
  refine wpAnyH_take (i := 2) (oi := (⟨some 24, _, _, _, _, none⟩ : Oper)) (v := .int .i64 1) rfl (by kernel_rfl) (by kernel_rfl) (by kernel_rfl) (fun _ _ _ h => h) (Or.inl ⟨by rfl, ?hy6703⟩) trivial ?rest6703
  case hy6703 => (intro w _; (try dsimp only); first | rfl | kernel_rfl)
  (try simp only [Act.put, sA, sZ, sS])
  refine wpAnyH_take (i := 3) (oi := (⟨some 25, _, _, _, _, none⟩ : Oper)) (v := .int .i64 1) rfl (by kernel_rfl) (by kernel_rfl) (by kernel_rfl) (fun _ _ _ h => h) (Or.inl ⟨by rfl, ?hy6704⟩) trivial ?rest6704
  case hy6704 => (intro w _; (try dsimp only); first | rfl | kernel_rfl | (go_simp; done))
  (try simp only [Act.put, sA, sZ, sS])
  refine wpAnyH_take (i := 4) (oi := (⟨some 26, _, _, _, _, none⟩ : Oper)) (v := .int .u8 1) rfl (by kernel_rfl) (by kernel_rfl) (by kernel_rfl) (fun _ _ _ h => h) (Or.inl ⟨by rfl, ?hy6705⟩) trivial ?rest6705
  case hy6705 => (intro w _; (try dsimp only); first | rfl | kernel_rfl | (go_simp; done))
  (try simp only [Act.put, sA, sZ, sS])
  refine wpAnyH_ready (rs := [5, 8]) (by kernel_rfl) (by simp) ?_
  refine AllReadyH.cons (o := (⟨some 27, _, _, _, _, none⟩ : Oper)) rfl (fun K hK => ?_) ?_
  · go_simp
    have HY1 := Lib.hid (HBd.out.alloc (arr .u8 [1]) 5)
    have HO1_ := Lib.hid (HOd.out.alloc (.cells (arr .u8 [1]) 5))
    have HW1 : Hid (wz.heap.size ≤ (wd.alloc (.cells (arr .u8 [1]) 5)).heap.size) := Lib.hid (Nat.le_trans HWd.out (by simp))
    have HG1 : Hid (∀ k, vb.ownBlock = some k → k < wd.heap.size) := Lib.hid (fun k h => (HOd.out.lt k h).2)
    rw [show (#[.int .u8 1] : Array Value) = arr .u8 [1] from rfl]
    generalize wd.heap.size = gk at HY1 HG1 ⊢
    generalize wd.alloc (.cells (arr .u8 [1]) 5) = y1 at HY1 HO1_ HW1 ⊢
    refine hK.out _ _ trivial (fun _ => ?_)
    clear hK K
    (try simp only [Act.put, sA, sZ, sS])
    refine wpAnyH_ready (rs := [6, 8]) (by kernel_rfl) (by simp) ?_
    refine AllReadyH.cons (o := (⟨some 28, _, _, _, _, none⟩ : Oper)) rfl (fun K hK => ?_) ?_
    · refine step_app8 rfl (.tmp 23) (.tmp 27) rfl wz.heap.size vb info rfl HO1_.out _ 1 1 [1] rfl (src_all (HY1.out.get 1 rfl) 1 rfl) (by have := HL.out; have := HNB.out; omega) HW1.out ?_
      intro v2 y2 how hgr _ _
      have hbe : Below w.heap.size w y2 := app8_below (HO1_.out.mono (Nat.le_trans (Nat.le_of_lt HKZ.out) (Nat.le_refl _))) hgr HY1.out.below HY1.out.below.size
      have HY2 := Lib.hid (Blk.grown HY1.out hgr (by
        intro e he
        simp only [List.mem_append, List.mem_cons, List.not_mem_nil, or_false, List.cons_append, List.nil_append] at he
        intro e2
        have hlt := HO1_.out.lt e.1 e2.symm
        have hkz := HKZ.out
        have hgk := HG1.out e.1 e2.symm
        rcases he with rfl | rfl <;> simp only at hlt hkz hgk <;> omega) hbe)
      have HO2_ := Lib.hid how
      have HW2 : Hid (wz.heap.size ≤ y2.heap.size) := Lib.hid (Nat.le_trans HW1.out hgr.size)
      clear how hgr hbe
      refine hK.out _ _ trivial (fun _ => ?_)
      clear hK K
      (try simp only [Act.put, sA, sZ, sS])
      refine wpAnyH_ready (rs := [7, 8]) (by kernel_rfl) (by simp) ?_
      refine AllReadyH.cons (o := (⟨some 29, _, _, _, _, none⟩ : Oper)) rfl (fun K hK => ?_) ?_
      · have hfm := HO2_.out.form
        obtain ⟨sm, cm, rfl, -, -, hsm, hom⟩ := hfm
        obtain ⟨gm, rfl⟩ : ∃ g, sm = some ⟨g, 0, none⟩ := by
          rcases hom with ⟨-, h0, -⟩ | ⟨g, rfl, -, -⟩
          · exact absurd h0 (by simp)
          · exact ⟨g, rfl⟩
        rw [List.length_append, HL.out, show ([1] : List Int).length = 1 from rfl] at hsm ⊢
        go_simp
        go_at_call 65
        refine (HMS.out _ _ _ _ (src_all (HY2.out.get 0 rfl) 32 HKL.out) hsm (ktab_below HTK.out HY2.out.below)).mono ?_
        rintro e y3 ⟨rfl, hb9⟩
        have HY3 := Lib.hid (HY2.out.kept hb9)
        have HO3_ := Lib.hid (HO2_.out.below hb9)
        have HW3 : Hid (wz.heap.size ≤ y3.heap.size) := Lib.hid (Nat.le_trans HW2.out hb9.size)
        clear hb9 hsm hom
        (try dsimp only)
        refine hK.out _ _ trivial (fun _ => ?_)
        clear hK K
        (try simp only [Act.put, sA, sZ, sS])
        refine wpAnyH_ready (rs := [8]) (by kernel_rfl) (by simp) ?_
        refine AllReadyH.cons (o := (⟨some 11, _, _, _, _, none⟩ : Oper)) rfl (fun K hK => ?_) AllReadyH.nil
        refine step_alloc_row rfl 23 rfl _ (HZzn.out _) ?_
        have HY4 := Lib.hid (HY3.out.alloc (arr .u8 zn) 23)
        have HO4_ := Lib.hid (HO3_.out.alloc (.cells (arr .u8 zn) 23))
        have HW4 : Hid (wz.heap.size ≤ (y3.alloc (.cells (arr .u8 zn) 23)).heap.size) := Lib.hid (Nat.le_trans HW3.out (by simp))
        generalize y3.heap.size = g11 at HY4 ⊢
        generalize y3.alloc (.cells (arr .u8 zn) 23) = y4 at HY4 HO4_ HW4 ⊢
        refine hK.out _ _ trivial (fun _ => ?_)
        clear hK K
        (try simp only [Act.put, sA, sZ, sS])
        refine wpAnyH_ready (rs := [9]) (by kernel_rfl) (by simp) ?_
        refine AllReadyH.cons (o := (⟨none, _, _, _, _, none⟩ : Oper)) rfl (fun K hK => ?_) AllReadyH.nil
        refine step_store_whole rfl 23 (.tmp 11) (.tmp 29) rfl g11 _ _ 23 (HY4.out.get 2 rfl) rfl rfl (arr_len2 _ _ HH1.out HLzn.out) (num_s HH1.out) (all_arr _ _) ?_
        intro y5 hb9 hk9 hz9
        have HY5 := Lib.hid (HY4.out.put 2 rfl hk9 hb9)
        clear hb9 hk9 hz9
        refine hK.out _ _ trivial (fun _ => ?_)
        clear hK K
        (try simp only [Act.put, sA, sZ, sS])
        refine wpAnyH_done (by kernel_rfl) ?_ _
        (try simp only [Exit.then])
        go_wp2_with (first | ((with_reducible refine aS 31 ?_); refine wpList_app8 rfl (.const (.slice none 0 0)) (.tmp 30) rfl (y5).heap.size _ [] rfl (Own8.nil _ _) _ 32 32 h1 rfl (src_all (HY5.out.get 2 rfl) 32 HH1.out) (by decide) (Nat.le_refl _) ?_; rw [List.nil_append]; intro vt wt how hgr _ _; have hbt := app8_below (Own8.nil (y5) (y5).heap.size) hgr (Below.refl _ _) (Nat.le_refl _); have HIt := Lib.hid (HY5.out.kept hbt); have HOT := Lib.hid how; clear how hgr hbt) | ((with_reducible refine aS 34 ?_); obtain ⟨st_, ct_, rfl, -, -, hst, -⟩ := HOT.out.form; refine wpList_app8 rfl (.tmp 32) (.tmp 33) rfl wt.heap.size _ [] rfl (Own8.nil _ _) st_ _ ct_ h1 rfl hst (by rw [HH1.out]; decide) (Nat.le_refl _) ?_; rw [List.nil_append]; intro v7 w7 how hgr _ _; have hb7 := app8_below (Own8.nil wt wt.heap.size) hgr (Below.refl _ _) (Nat.le_refl _); have HO7 := Lib.hid (how.mono HIt.out.below.size); have HB7 := Lib.hid (HIt.out.kept hb7).below; clear how hgr hb7 hst))
        go_roundw
        case rel => exact Or.inr ⟨rfl, HO7.out, HB7.out⟩
        case measure => simp [intOf]
      refine AllReadyH.cons (o := (⟨some 11, _, _, _, _, none⟩ : Oper)) rfl (fun K hK => ?_) AllReadyH.nil
      refine step_alloc_row rfl 23 rfl _ (HZzn.out _) ?_
      have HY6 := Lib.hid (HY2.out.alloc (arr .u8 zn) 23)
      have HO6_ := Lib.hid (HO2_.out.alloc (.cells (arr .u8 zn) 23))
      have HW6 : Hid (wz.heap.size ≤ (y2.alloc (.cells (arr .u8 zn) 23)).heap.size) := Lib.hid (Nat.le_trans HW2.out (by simp))
      generalize y2.heap.size = g11 at HY6 ⊢
      generalize y2.alloc (.cells (arr .u8 zn) 23) = y6 at HY6 HO6_ HW6 ⊢
      refine hK.out _ _ trivial (fun _ => ?_)
      clear hK K
      (try simp only [Act.put, sA, sZ, sS])
      refine wpAnyH_ready (rs := [7]) (by kernel_rfl) (by simp) ?_
      refine AllReadyH.cons (o := (⟨some 29, _, _, _, _, none⟩ : Oper)) rfl (fun K hK => ?_) AllReadyH.nil
      have hfm := HO6_.out.form
      obtain ⟨sm, cm, rfl, -, -, hsm, hom⟩ := hfm
      obtain ⟨gm, rfl⟩ : ∃ g, sm = some ⟨g, 0, none⟩ := by
        rcases hom with ⟨-, h0, -⟩ | ⟨g, rfl, -, -⟩
        · exact absurd h0 (by simp)
        · exact ⟨g, rfl⟩
      rw [List.length_append, HL.out, show ([1] : List Int).length = 1 from rfl] at hsm ⊢
      go_simp
      go_at_call 65
      refine (HMS.out _ _ _ _ (src_all (HY6.out.get 0 rfl) 32 HKL.out) hsm (ktab_below HTK.out HY6.out.below)).mono ?_
      rintro e y7 ⟨rfl, hb9⟩
      have HY7 := Lib.hid (HY6.out.kept hb9)
      have HO7_ := Lib.hid (HO6_.out.below hb9)
      have HW7 : Hid (wz.heap.size ≤ y7.heap.size) := Lib.hid (Nat.le_trans HW6.out hb9.size)
      clear hb9 hsm hom
      (try dsimp only)
      refine hK.out _ _ trivial (fun _ => ?_)
      clear hK K
      (try simp only [Act.put, sA, sZ, sS])
      refine wpAnyH_ready (rs := [9]) (by kernel_rfl) (by simp) ?_
      refine AllReadyH.cons (o := (⟨none, _, _, _, _, none⟩ : Oper)) rfl (fun K hK => ?_) AllReadyH.nil
      refine step_store_whole rfl 23 (.tmp 11) (.tmp 29) rfl g11 _ _ 23 (HY7.out.get 2 rfl) rfl rfl (arr_len2 _ _ HH1.out HLzn.out) (num_s HH1.out) (all_arr _ _) ?_
      intro y8 hb9 hk9 hz9
      have HY8 := Lib.hid (HY7.out.put 2 rfl hk9 hb9)
      clear hb9 hk9 hz9
      refine hK.out _ _ trivial (fun _ => ?_)
      clear hK K
      (try simp only [Act.put, sA, sZ, sS])
      refine wpAnyH_done (by kernel_rfl) ?_ _
      (try simp only [Exit.then])
      go_wp2_with (first | ((with_reducible refine aS 31 ?_); refine wpList_app8 rfl (.const (.slice none 0 0)) (.tmp 30) rfl (y8).heap.size _ [] rfl (Own8.nil _ _) _ 32 32 h1 rfl (src_all (HY8.out.get 2 rfl) 32 HH1.out) (by decide) (Nat.le_refl _) ?_; rw [List.nil_append]; intro vt wt how hgr _ _; have hbt := app8_below (Own8.nil (y8) (y8).heap.size) hgr (Below.refl _ _) (Nat.le_refl _); have HIt := Lib.hid (HY8.out.kept hbt); have HOT := Lib.hid how; clear how hgr hbt) | ((with_reducible refine aS 34 ?_); obtain ⟨st_, ct_, rfl, -, -, hst, -⟩ := HOT.out.form; refine wpList_app8 rfl (.tmp 32) (.tmp 33) rfl wt.heap.size _ [] rfl (Own8.nil _ _) st_ _ ct_ h1 rfl hst (by rw [HH1.out]; decide) (Nat.le_refl _) ?_; rw [List.nil_append]; intro v7 w7 how hgr _ _; have hb7 := app8_below (Own8.nil wt wt.heap.size) hgr (Below.refl _ _) (Nat.le_refl _); have HO7 := Lib.hid (how.mono HIt.out.below.size); have HB7 := Lib.hid (HIt.out.kept hb7).below; clear how hgr hb7 hst))
      go_roundw
      case rel => exact Or.inr ⟨rfl, HO7.out, HB7.out⟩
      case measure => simp [intOf]
    refine AllReadyH.cons (o := (⟨some 11, _, _, _, _, none⟩ : Oper)) rfl (fun K hK => ?_) AllReadyH.nil
    refine step_alloc_row rfl 23 rfl _ (HZzn.out _) ?_
    have HY9 := Lib.hid (HY1.out.alloc (arr .u8 zn) 23)
    have HO9_ := Lib.hid (HO1_.out.alloc (.cells (arr .u8 zn) 23))
    have HW9 : Hid (wz.heap.size ≤ (y1.alloc (.cells (arr .u8 zn) 23)).heap.size) := Lib.hid (Nat.le_trans HW1.out (by simp))
    have HG9 : Hid (∀ k, vb.ownBlock = some k → k < y1.heap.size) := Lib.hid (fun k h => (HO1_.out.lt k h).2)
    generalize y1.heap.size = g11 at HY9 HG9 ⊢
    generalize y1.alloc (.cells (arr .u8 zn) 23) = y9 at HY9 HO9_ HW9 ⊢
    refine hK.out _ _ trivial (fun _ => ?_)
    clear hK K
    (try simp only [Act.put, sA, sZ, sS])
    refine wpAnyH_ready (rs := [6]) (by kernel_rfl) (by simp) ?_
    refine AllReadyH.cons (o := (⟨some 28, _, _, _, _, none⟩ : Oper)) rfl (fun K hK => ?_) AllReadyH.nil
    refine step_app8 rfl (.tmp 23) (.tmp 27) rfl wz.heap.size vb info rfl HO9_.out _ 1 1 [1] rfl (src_all (HY9.out.get 1 rfl) 1 rfl) (by have := HL.out; have := HNB.out; omega) HW9.out ?_
    intro v2 y10 how hgr _ _
    have hbe : Below w.heap.size w y10 := app8_below (HO9_.out.mono (Nat.le_trans (Nat.le_of_lt HKZ.out) (Nat.le_refl _))) hgr HY9.out.below HY9.out.below.size
    have HY10 := Lib.hid (Blk.grown HY9.out hgr (by
      intro e he
      simp only [List.mem_append, List.mem_cons, List.not_mem_nil, or_false, List.cons_append, List.nil_append] at he
      intro e2
      have hlt := HO9_.out.lt e.1 e2.symm
      have hkz := HKZ.out
      have hgk := HG1.out e.1 e2.symm
      have hg11 := HG9.out e.1 e2.symm
      rcases he with rfl | rfl | rfl <;> simp only at hlt hkz hgk hg11 <;> omega) hbe)
    have HO10_ := Lib.hid how
    have HW10 : Hid (wz.heap.size ≤ y10.heap.size) := Lib.hid (Nat.le_trans HW9.out hgr.size)
    clear how hgr hbe
    refine hK.out _ _ trivial (fun _ => ?_)
    clear hK K
    (try simp only [Act.put, sA, sZ, sS])
    refine wpAnyH_ready (rs := [7]) (by kernel_rfl) (by simp) ?_
    refine AllReadyH.cons (o := (⟨some 29, _, _, _, _, none⟩ : Oper)) rfl (fun K hK => ?_) AllReadyH.nil
    have hfm := HO10_.out.form
    obtain ⟨sm, cm, rfl, -, -, hsm, hom⟩ := hfm
    obtain ⟨gm, rfl⟩ : ∃ g, sm = some ⟨g, 0, none⟩ := by
      rcases hom with ⟨-, h0, -⟩ | ⟨g, rfl, -, -⟩
      · exact absurd h0 (by simp)
      · exact ⟨g, rfl⟩
    rw [List.length_append, HL.out, show ([1] : List Int).length = 1 from rfl] at hsm ⊢
    go_simp
    go_at_call 65
    refine (HMS.out _ _ _ _ (src_all (HY10.out.get 0 rfl) 32 HKL.out) hsm (ktab_below HTK.out HY10.out.below)).mono ?_
    rintro e y11 ⟨rfl, hb9⟩
    have HY11 := Lib.hid (HY10.out.kept hb9)
    have HO11_ := Lib.hid (HO10_.out.below hb9)
    have HW11 : Hid (wz.heap.size ≤ y11.heap.size) := Lib.hid (Nat.le_trans HW10.out hb9.size)
    clear hb9 hsm hom
    (try dsimp only)
    refine hK.out _ _ trivial (fun _ => ?_)
    clear hK K
    (try simp only [Act.put, sA, sZ, sS])
    refine wpAnyH_ready (rs := [9]) (by kernel_rfl) (by simp) ?_
    refine AllReadyH.cons (o := (⟨none, _, _, _, _, none⟩ : Oper)) rfl (fun K hK => ?_) AllReadyH.nil
    refine step_store_whole rfl 23 (.tmp 11) (.tmp 29) rfl g11 _ _ 23 (HY11.out.get 2 rfl) rfl rfl (arr_len2 _ _ HH1.out HLzn.out) (num_s HH1.out) (all_arr _ _) ?_
    intro y12 hb9 hk9 hz9
    have HY12 := Lib.hid (HY11.out.put 2 rfl hk9 hb9)
    clear hb9 hk9 hz9
    refine hK.out _ _ trivial (fun _ => ?_)
    clear hK K
    (try simp only [Act.put, sA, sZ, sS])
    refine wpAnyH_done (by kernel_rfl) ?_ _
    (try simp only [Exit.then])
    go_wp2_with (first | ((with_reducible refine aS 31 ?_); refine wpList_app8 rfl (.const (.slice none 0 0)) (.tmp 30) rfl (y12).heap.size _ [] rfl (Own8.nil _ _) _ 32 32 h1 rfl (src_all (HY12.out.get 2 rfl) 32 HH1.out) (by decide) (Nat.le_refl _) ?_; rw [List.nil_append]; intro vt wt how hgr _ _; have hbt := app8_below (Own8.nil (y12) (y12).heap.size) hgr (Below.refl _ _) (Nat.le_refl _); have HIt := Lib.hid (HY12.out.kept hbt); have HOT := Lib.hid how; clear how hgr hbt) | ((with_reducible refine aS 34 ?_); obtain ⟨st_, ct_, rfl, -, -, hst, -⟩ := HOT.out.form; refine wpList_app8 rfl (.tmp 32) (.tmp 33) rfl wt.heap.size _ [] rfl (Own8.nil _ _) st_ _ ct_ h1 rfl hst (by rw [HH1.out]; decide) (Nat.le_refl _) ?_; rw [List.nil_append]; intro v7 w7 how hgr _ _; have hb7 := app8_below (Own8.nil wt wt.heap.size) hgr (Below.refl _ _) (Nat.le_refl _); have HO7 := Lib.hid (how.mono HIt.out.below.size); have HB7 := Lib.hid (HIt.out.kept hb7).below; clear how hgr hb7 hst))
    go_roundw
    case rel => exact Or.inr ⟨rfl, HO7.out, HB7.out⟩
    case measure => simp [intOf]
  refine AllReadyH.cons (o := (⟨some 11, _, _, _, _, none⟩ : Oper)) rfl (fun K hK => ?_) AllReadyH.nil
  refine step_alloc_row rfl 23 rfl _ (HZzn.out _) ?_
  have HY13 := Lib.hid (HBd.out.alloc (arr .u8 zn) 23)
  have HO13_ := Lib.hid (HOd.out.alloc (.cells (arr .u8 zn) 23))
  have HW13 : Hid (wz.heap.size ≤ (wd.alloc (.cells (arr .u8 zn) 23)).heap.size) := Lib.hid (Nat.le_trans HWd.out (by simp))
  have HG13 : Hid (∀ k, vb.ownBlock = some k → k < wd.heap.size) := Lib.hid (fun k h => (HOd.out.lt k h).2)
  generalize wd.heap.size = g11 at HY13 HG13 ⊢
  generalize wd.alloc (.cells (arr .u8 zn) 23) = y13 at HY13 HO13_ HW13 ⊢
  refine hK.out _ _ trivial (fun _ => ?_)
  clear hK K
  (try simp only [Act.put, sA, sZ, sS])
  refine wpAnyH_ready (rs := [5]) (by kernel_rfl) (by simp) ?_
  refine AllReadyH.cons (o := (⟨some 27, _, _, _, _, none⟩ : Oper)) rfl (fun K hK => ?_) AllReadyH.nil
  go_simp
  have HY14 := Lib.hid (HY13.out.alloc (arr .u8 [1]) 5)
  have HO14_ := Lib.hid (HO13_.out.alloc (.cells (arr .u8 [1]) 5))
  have HW14 : Hid (wz.heap.size ≤ (y13.alloc (.cells (arr .u8 [1]) 5)).heap.size) := Lib.hid (Nat.le_trans HW13.out (by simp))
  have HG14 : Hid (∀ k, vb.ownBlock = some k → k < y13.heap.size) := Lib.hid (fun k h => (HO13_.out.lt k h).2)
  rw [show (#[.int .u8 1] : Array Value) = arr .u8 [1] from rfl]
  generalize y13.heap.size = gk at HY14 HG14 ⊢
  generalize y13.alloc (.cells (arr .u8 [1]) 5) = y14 at HY14 HO14_ HW14 ⊢
  refine hK.out _ _ trivial (fun _ => ?_)
  clear hK K
  (try simp only [Act.put, sA, sZ, sS])
  refine wpAnyH_ready (rs := [6]) (by kernel_rfl) (by simp) ?_
  refine AllReadyH.cons (o := (⟨some 28, _, _, _, _, none⟩ : Oper)) rfl (fun K hK => ?_) AllReadyH.nil
  refine step_app8 rfl (.tmp 23) (.tmp 27) rfl wz.heap.size vb info rfl HO14_.out _ 1 1 [1] rfl (src_all (HY14.out.get 2 rfl) 1 rfl) (by have := HL.out; have := HNB.out; omega) HW14.out ?_
  intro v2 y15 how hgr _ _
  have hbe : Below w.heap.size w y15 := app8_below (HO14_.out.mono (Nat.le_trans (Nat.le_of_lt HKZ.out) (Nat.le_refl _))) hgr HY14.out.below HY14.out.below.size
  have HY15 := Lib.hid (Blk.grown HY14.out hgr (by
    intro e he
    simp only [List.mem_append, List.mem_cons, List.not_mem_nil, or_false, List.cons_append, List.nil_append] at he
    intro e2
    have hlt := HO14_.out.lt e.1 e2.symm
    have hkz := HKZ.out
    have hgk := HG14.out e.1 e2.symm
    have hg11 := HG13.out e.1 e2.symm
    rcases he with rfl | rfl | rfl <;> simp only at hlt hkz hgk hg11 <;> omega) hbe)
  have HO15_ := Lib.hid how
  have HW15 : Hid (wz.heap.size ≤ y15.heap.size) := Lib.hid (Nat.le_trans HW14.out hgr.size)
  clear how hgr hbe
  refine hK.out _ _ trivial (fun _ => ?_)
  clear hK K
  (try simp only [Act.put, sA, sZ, sS])
  refine wpAnyH_ready (rs := [7]) (by kernel_rfl) (by simp) ?_
  refine AllReadyH.cons (o := (⟨some 29, _, _, _, _, none⟩ : Oper)) rfl (fun K hK => ?_) AllReadyH.nil
  have hfm := HO15_.out.form
  obtain ⟨sm, cm, rfl, -, -, hsm, hom⟩ := hfm
  obtain ⟨gm, rfl⟩ : ∃ g, sm = some ⟨g, 0, none⟩ := by
    rcases hom with ⟨-, h0, -⟩ | ⟨g, rfl, -, -⟩
    · exact absurd h0 (by simp)
    · exact ⟨g, rfl⟩
  rw [List.length_append, HL.out, show ([1] : List Int).length = 1 from rfl] at hsm ⊢
  go_simp
  go_at_call 65
  refine (HMS.out _ _ _ _ (src_all (HY15.out.get 0 rfl) 32 HKL.out) hsm (ktab_below HTK.out HY15.out.below)).mono ?_
  rintro e y16 ⟨rfl, hb9⟩
  have HY16 := Lib.hid (HY15.out.kept hb9)
  have HO16_ := Lib.hid (HO15_.out.below hb9)
  have HW16 : Hid (wz.heap.size ≤ y16.heap.size) := Lib.hid (Nat.le_trans HW15.out hb9.size)
  clear hb9 hsm hom
  (try dsimp only)
  refine hK.out _ _ trivial (fun _ => ?_)
  clear hK K
  (try simp only [Act.put, sA, sZ, sS])
  refine wpAnyH_ready (rs := [9]) (by kernel_rfl) (by simp) ?_
  refine AllReadyH.cons (o := (⟨none, _, _, _, _, none⟩ : Oper)) rfl (fun K hK => ?_) AllReadyH.nil
  refine step_store_whole rfl 23 (.tmp 11) (.tmp 29) rfl g11 _ _ 23 (HY16.out.get 1 rfl) rfl rfl (arr_len2 _ _ HH1.out HLzn.out) (num_s HH1.out) (all_arr _ _) ?_
  intro y17 hb9 hk9 hz9
  have HY17 := Lib.hid (HY16.out.put 1 rfl hk9 hb9)
  clear hb9 hk9 hz9
  refine hK.out _ _ trivial (fun _ => ?_)
  clear hK K
  (try simp only [Act.put, sA, sZ, sS])
  refine wpAnyH_done (by kernel_rfl) ?_ _
  (try simp only [Exit.then])
  go_wp2_with (first | ((with_reducible refine aS 31 ?_); refine wpList_app8 rfl (.const (.slice none 0 0)) (.tmp 30) rfl (y17).heap.size _ [] rfl (Own8.nil _ _) _ 32 32 h1 rfl (src_all (HY17.out.get 1 rfl) 32 HH1.out) (by decide) (Nat.le_refl _) ?_; rw [List.nil_append]; intro vt wt how hgr _ _; have hbt := app8_below (Own8.nil (y17) (y17).heap.size) hgr (Below.refl _ _) (Nat.le_refl _); have HIt := Lib.hid (HY17.out.kept hbt); have HOT := Lib.hid how; clear how hgr hbt) | ((with_reducible refine aS 34 ?_); obtain ⟨st_, ct_, rfl, -, -, hst, -⟩ := HOT.out.form; refine wpList_app8 rfl (.tmp 32) (.tmp 33) rfl wt.heap.size _ [] rfl (Own8.nil _ _) st_ _ ct_ h1 rfl hst (by rw [HH1.out]; decide) (Nat.le_refl _) ?_; rw [List.nil_append]; intro v7 w7 how hgr _ _; have hb7 := app8_below (Own8.nil wt wt.heap.size) hgr (Below.refl _ _) (Nat.le_refl _); have HO7 := Lib.hid (how.mono HIt.out.below.size); have HB7 := Lib.hid (HIt.out.kept hb7).below; clear how hgr hb7 hst))
  go_roundw
  case rel => exact Or.inr ⟨rfl, HO7.out, HB7.out⟩
  case measure => simp [intOf]
end Go.Proofs.YtogebegdgfdijaaDoor.Wr
namespace Go.Proofs.YtogebegdgfdijaaDoor.Wr
open Go.RowKit Lm Cu Sl
theorem step_copy' {w : World} {ops : Array Oper} {o : Oper} {a : Act} {K : Act → World → Prop} {Q : Exit → Act → World → Prop} {E : Prop} (hgd : o.guard = none) (d s : Operand)
    (ho : o.op = .call { callee := .builtin .copy, args := #[d, s], argTypes := #[25, 25] }) (g m c n cs : Nat) (ad : Addr) (cur xs : List Int) (t : TypeId)
    (hd : a.eval d = .slice (some ⟨g, 0, none⟩) m c) (hs : a.eval s = .slice (some ad) n cs) (hg : w.heap[g]? = some (.cells (arr .u8 cur) t (0, 0))) (hsrc : Src w (some ad) n xs) (hnm : n ≤ m) (hfit : m ≤ cur.length)
    (h : ∀ w', w'.heap[g]? = some (.cells (arr .u8 (xs ++ cur.drop n)) t (0, 0)) → Kept (fun x => x = g) w w' → K (a.put o.dst (.int .i64 (n : Int))) w') :
    if Region.wanted o (yielded ops a.tmps) = true then Oper.wp Tryd.prog o a w K Q else E := by
  rw [if_pos (by simp [Region.wanted, hgd])]
  have hl := hsrc.len
  have hrun := run_copy_row (P := Tryd.prog) w 25 25 o.type 5 g 0 m c ad n cs (arr .u8 cur) t (xs.map (Value.int .u8)) Tryd.underlying25 (by kernel_rfl) hg (by rw [List.length_map, hl]; exact (Nat.min_eq_left hnm).symm) (src_news hsrc _ rfl) (by rw [List.length_map, hl, arr_size]; omega) (one_ints _ _)
  unfold Oper.wp execOp
  simp only [ho, resolve, invoke, builtin, Sem.run_bind, Sem.run_pure, Result.andThen_ok, List.map_toArray, List.map_cons, List.map_nil, hd, hs, hrun]
  have e : ((arr .u8 cur).toList.take 0 ++ xs.map (Value.int .u8) ++ (arr .u8 cur).toList.drop (0 + (xs.map (Value.int .u8)).length)).toArray = arr .u8 (xs ++ cur.drop n) := by
    show ((cur.map (Value.int .u8)).take 0 ++ xs.map (Value.int .u8) ++ (cur.map (Value.int .u8)).drop (0 + (xs.map (Value.int .u8)).length)).toArray = ((xs ++ cur.drop n).map (Value.int .u8)).toArray
    rw [List.length_map, hl, List.map_append, List.map_drop, List.take_zero, List.nil_append, Nat.zero_add]
  rw [e, List.length_map, hl]
  exact h _ (setRow_heap w g _ _ t _ hg) ⟨rfl, rfl, rfl, by simp [World.setRow], fun k _ hne => setRow_other w g k _ hne⟩
theorem conv_next {w w' : World} {v v' : Value} {t u : TypeId} (h : (convert t u v).run Tryd.prog w = .ok v' w') : (do pure (Next.value (← convert t u v)) : Sem Next).run Tryd.prog w = .ok (.value v') w' := by
  simp only [Sem.run_bind, h, Result.andThen_ok]
  rfl
theorem lin_world {P : Program} {Q : Exit → Act → World → Prop} {ops : Array Oper} {o : Oper} {b : Act} {u u' : World} {K : Act → World → Prop} {E : Prop} (hgd : o.guard = none) (v : Value) (hrun : (execOp b.eval o).run P u = .ok (.value v) u') (h : K (b.put o.dst v) u') :
    if Region.wanted o (yielded ops b.tmps) = true then Oper.wp P o b u K Q else E := by
  rw [if_pos (by simp [Region.wanted, hgd])]
  unfold Oper.wp
  rw [hrun]
  exact h
/-- A literal's row is marked: its cells, and all other blocks, stay. -/
theorem conv_lit (w : World) (g n c : Nat) (C : Array Value) (hg : w.heap[g]? = some (.cells C 5 (0, 0))) :
    ∃ w', (convert 25 25 (.slice (some ⟨g, 0, none⟩) n c)).run Tryd.prog w = .ok (.slice (some ⟨g, 0, none⟩) n c) w' ∧ w'.heap[g]? = some (.cells C 5 (C.size, C.size + 1)) ∧ Kept (fun x => x = g) w w' := by
  have hsh : w.shape? g = some (5, C.size) := by
    unfold World.shape?
    rw [hg]
  refine ⟨w.freeze ⟨g, C.size, none⟩ 1, ?_, ?_, ?_⟩
  · simp [convert, run_underlying Tryd.underlying25, run_underlying Tryd.underlying5, markStringish, hsh]
  · unfold World.freeze
    rw [if_neg (by decide)]
    simp only [Array.getElem?_modify, if_true, hg, Option.map_some]
    rfl
  · unfold World.freeze
    rw [if_neg (by decide)]
    refine ⟨rfl, rfl, rfl, by simp, fun k hk hne => ?_⟩
    simp only [Array.getElem?_modify]
    rw [if_neg (fun e => hne e.symm)]
theorem wrapping_any (es zs : List Int) (w : World) (he : es.length = 32) (hz : zs.length = 32) (be : bytes es) (bz : bytes zs) (hk : Ha.TabK w) :
    Calls Tryd.prog 18 #[.agg (arr .u8 es), .agg (arr .u8 zs)] w fun e w' => e = .returned (.agg (arr .u8 (wkey es zs))) ∧ Below w.heap.size w w' := by
  have hex := fun (g1 g2 : Addr) (u : World) (h1 : Src u (some g1) 32 es) (h2 : Src u (some g2) 32 zs) (h3 : Ha.TabK u) => rextract_any es zs g1 32 32 g2 32 32 u h1 be (by decide) h2 bz (by decide) (by decide) h3
  obtain ⟨lit, hlit⟩ : ∃ x : List Int, x = [119, 114, 97, 112] := ⟨_, rfl⟩
  have hlb : bytes lit := by rw [hlit]; intro x hx; simp only [List.mem_cons, List.not_mem_nil, or_false] at hx; rcases hx with rfl | rfl | rfl | rfl <;> decide
  have hll : lit.length = 4 := by rw [hlit]; rfl
  have hla : (#[.int .u8 119, .int .u8 114, .int .u8 97, .int .u8 112] : Array Value) = arr .u8 lit := by rw [hlit]; rfl
  have hxp : ∀ (u : World) (a : Addr), Src u (some a) 4 lit → Ha.TabK u → Calls Tryd.prog 36 #[.agg (arr .u8 (mac es zs)), .slice (some a) 4 4, .int .i64 32] u fun e w' => ∃ g c, e = .returned (.slice (some ⟨g, 0, none⟩) 32 c) ∧ Src w' (some ⟨g, 0, none⟩) 32 (wkey es zs) ∧ Below u.heap.size u w' := by
    intro u a h1 h2
    refine (rexpand_any (mac es zs) lit a 4 4 u (mac_len _ _) (mac_bytes _ _) h1 hlb (by decide) h2).mono ?_
    rintro e w' ⟨v, rfl, ho, hb⟩
    rw [show mac (mac es zs) (lit ++ [1]) = wkey es zs by rw [hlit]; rfl] at ho
    obtain ⟨sa, c, rfl, -, -, h3, hor⟩ := ho.form
    rw [wkey_len] at h3 ⊢
    rcases hor with ⟨-, h0, -⟩ | ⟨g, rfl, -, -⟩
    · have := wkey_len es zs
      rw [h0] at this
      exact absurd this (by decide)
    · exact ⟨g, c, rfl, h3, hb⟩
  obtain ⟨m1, hm1⟩ : ∃ x, x = mac es zs := ⟨_, rfl⟩
  obtain ⟨k1, hk1⟩ : ∃ x, x = wkey es zs := ⟨_, rfl⟩
  rw [← hm1] at hex hxp
  rw [← hk1] at hxp ⊢
  have HK1 : Hid (k1.length = 32) := Lib.hid (by rw [hk1]; exact wkey_len _ _)
  have HEX := Lib.hid hex
  have HXP := Lib.hid hxp
  have HLA := Lib.hid hla
  have HLL := Lib.hid hll
  have HEL := Lib.hid he
  have HZL := Lib.hid hz
  have HTK := Lib.hid hk
  obtain ⟨zn, hzn⟩ : ∃ zs : List Int, zs = List.replicate 32 0 := ⟨_, rfl⟩
  have HZzn : Hid (∀ w, (zeroValue 23).run Tryd.prog w = .ok (.agg (arr .u8 zn)) w) := Lib.hid (by intro w; rw [hzn]; exact zero_num w)
  have HLzn : Hid (zn.length = 32) := Lib.hid (by rw [hzn]; rfl)
  have HCP : Hid (k1 ++ zn.drop 32 = k1) := Lib.hid (by rw [hzn]; simp)
  have HI0 := Lib.hid (Blk.three w (arr .u8 es) (arr .u8 zs) (arr .u8 zn) 23 23 23)
  clear hm1 hk1 hex hxp hla hll hlb hlit he hz be bz hzn hk
  go_enter Tryd.func18, Tryd.ntmps18
  go_upto_region 1 with (first | ((with_reducible refine aS 4 ?_); refine wpList_alloc_row rfl 23 rfl _ (HZzn.out _) ?_))
  (try simp only [World.size_alloc, Act.put, sA, sZ, sS])
  generalize (((w.alloc (.cells (arr .u8 es) 23)).alloc (.cells (arr .u8 zs) 23)).alloc (.cells (arr .u8 zn) 23)) = wb at HI0 ⊢
  go_upto_region 2 with (first | ((with_reducible refine aS 5 ?_); refine wpList_alloc_row rfl 23 rfl _ (HZzn.out _) ?_; have HI1 := Lib.hid (HI0.out.alloc (arr .u8 zn) 23); generalize wb.heap.size = g5 at HI1 ⊢; generalize wb.alloc (.cells (arr .u8 zn) 23) = w1 at HI1 ⊢))
  (try simp only [World.size_alloc, Act.put, sA, sZ, sS])
  refine wp_region_held_drew (S := fun _ => True) (by kernel_rfl) trivial (fun hHeld => ?_)
  have HBd := Lib.hid (HI1.out.drew)
  generalize w1.drew = wd at HBd ⊢
  refine wpAnyH_take (i := 0) (oi := (⟨some 6, _, _, _, _, none⟩ : Oper)) (v := .slice (some ⟨g5, 0, none⟩) 32 32) rfl (by kernel_rfl) (by kernel_rfl) (by kernel_rfl) (fun _ _ _ h => h) (Or.inl ⟨by rfl, ?hy6706⟩) trivial ?rest6706
  case hy6706 => (intro w _; (try dsimp only); go_simp; try (with_reducible rfl))
  (try simp only [Act.put, sA, sZ, sS])
  refine wpAnyH_take (i := 1) (oi := (⟨some 7, _, _, _, _, none⟩ : Oper)) (v := .slice (some ⟨w.heap.size, 0, none⟩) 32 32) rfl (by kernel_rfl) (by kernel_rfl) (by kernel_rfl) (fun _ _ _ h => h) (Or.inl ⟨by rfl, ?hy6707⟩) trivial ?rest6707
  case hy6707 => (intro w _; (try dsimp only); go_simp; try (with_reducible rfl))
  (try simp only [Act.put, sA, sZ, sS])
  refine wpAnyH_take (i := 2) (oi := (⟨some 8, _, _, _, _, none⟩ : Oper)) (v := .slice (some ⟨w.heap.size + 1, 0, none⟩) 32 32) rfl (by kernel_rfl) (by kernel_rfl) (by kernel_rfl) (fun _ _ _ h => h) (Or.inl ⟨by rfl, ?hy6708⟩) trivial ?rest6708
  case hy6708 => (intro w _; (try dsimp only); go_simp; try (with_reducible rfl))
  (try simp only [Act.put, sA, sZ, sS])
  refine wpAnyH_ready (rs := [3, 4]) (by kernel_rfl) (by simp) ?_
  refine AllReadyH.cons (o := (⟨some 9, _, _, _, _, none⟩ : Oper)) rfl (fun K hK => ?_) ?_
  · go_simp
    go_at_call 37
    refine (HEX.out _ _ _ (src_all (HBd.out.get 0 rfl) 32 HEL.out) (src_all (HBd.out.get 1 rfl) 32 HZL.out) (ktab_below HTK.out HBd.out.below)).mono ?_
    rintro e y18 ⟨rfl, hb9⟩
    have HY18 := Lib.hid (HBd.out.kept hb9)
    clear hb9
    (try dsimp only)
    refine hK.out _ _ trivial (fun _ => ?_)
    clear hK K
    (try simp only [Act.put, sA, sZ, sS])
    refine wpAnyH_ready (rs := [4]) (by kernel_rfl) (by simp) ?_
    refine AllReadyH.cons (o := (⟨some 10, _, _, _, _, none⟩ : Oper)) rfl (fun K hK => ?_) AllReadyH.nil
    go_simp
    rw [HLA.out]
    have HY19 := Lib.hid (HY18.out.alloc (arr .u8 lit) 5)
    generalize y18.heap.size = gl at HY19 ⊢
    generalize y18.alloc (.cells (arr .u8 lit) 5) = y19 at HY19 ⊢
    refine hK.out _ _ trivial (fun _ => ?_)
    clear hK K
    (try simp only [Act.put, sA, sZ, sS])
    refine wpAnyH_ready (rs := [5]) (by kernel_rfl) (by simp) ?_
    refine AllReadyH.cons (o := (⟨some 11, _, _, _, _, none⟩ : Oper)) rfl (fun K hK => ?_) AllReadyH.nil
    obtain ⟨y20, hrun, hcl, hkp⟩ := conv_lit y19 gl 4 4 (arr .u8 lit) (HY19.out.get 4 rfl)
    have hbe : Below w.heap.size w y20 := ⟨hkp.os.trans HY19.out.below.os, hkp.tape.trans HY19.out.below.tape, hkp.output.trans HY19.out.below.output, Nat.le_trans HY19.out.below.size hkp.size, fun k hk => (hkp.block k (Nat.lt_of_lt_of_le hk HY19.out.below.size) (fun e => by have := HY19.out.low 4 rfl; omega)).trans (HY19.out.below.block k hk)⟩
    have HY20 := Lib.hid (Blk.grown (r := some gl) (HY19.out.less 4) ⟨hkp.os, hkp.tape, hkp.output, hkp.size, fun k hk hne => hkp.block k hk (fun e => hne (by rw [e]))⟩ (by
      intro e he
      have n0 := HY19.out.ne 0 4 rfl rfl (by decide)
      have n1 := HY19.out.ne 1 4 rfl rfl (by decide)
      have n2 := HY19.out.ne 2 4 rfl rfl (by decide)
      have n3 := HY19.out.ne 3 4 rfl rfl (by decide)
      simp only [List.take, List.mem_append, List.mem_cons, List.not_mem_nil, or_false, List.cons_append, List.nil_append] at he
      intro e2
      have e3 := Option.some.inj e2
      rcases he with rfl | rfl | rfl | rfl <;> simp only at e3 <;> first | exact n0 e3 | exact n1 e3 | exact n2 e3 | exact n3 e3) hbe)
    have HS20 : Hid (Src y20 (some ⟨gl, 0, none⟩) 4 lit) := Lib.hid (src_all hcl 4 HLL.out)
    refine lin_world rfl (.slice (some ⟨gl, 0, none⟩) 4 4) (conv_next hrun) ?_
    clear hrun hcl hkp hbe
    refine hK.out _ _ trivial (fun _ => ?_)
    clear hK K
    (try simp only [Act.put, sA, sZ, sS])
    refine wpAnyH_ready (rs := [6]) (by kernel_rfl) (by simp) ?_
    refine AllReadyH.cons (o := (⟨some 12, _, _, _, _, none⟩ : Oper)) rfl (fun K hK => ?_) AllReadyH.nil
    go_simp
    go_at_call 36
    refine (HXP.out _ _ HS20.out (ktab_below HTK.out HY20.out.below)).mono ?_
    rintro e y21 ⟨gv, cv, rfl, hsv, hb9⟩
    have HY21 := Lib.hid (HY20.out.kept hb9)
    have HSV := Lib.hid hsv
    clear hb9 hsv
    (try dsimp only)
    refine hK.out _ _ trivial (fun _ => ?_)
    clear hK K
    (try simp only [Act.put, sA, sZ, sS])
    refine wpAnyH_ready (rs := [7]) (by kernel_rfl) (by simp) ?_
    refine AllReadyH.cons (o := (⟨some 13, _, _, _, _, none⟩ : Oper)) rfl (fun K hK => ?_) AllReadyH.nil
    refine step_copy' rfl (.tmp 6) (.tmp 12) rfl g5 32 32 32 cv ⟨gv, 0, none⟩ zn k1 23 rfl rfl (HY21.out.get 3 rfl) HSV.out (Nat.le_refl _) (by rw [HLzn.out]; exact Nat.le_refl _) ?_
    rw [HCP.out]
    intro y22 hb9 hk9
    have HY22 := Lib.hid (HY21.out.put 3 rfl hk9 hb9)
    clear hb9 hk9
    refine hK.out _ _ trivial (fun _ => ?_)
    clear hK K
    (try simp only [Act.put, sA, sZ, sS])
    refine wpAnyH_done (by kernel_rfl) ?_ _
    (try simp only [Exit.then])
    go_wp2_with (first | ((with_reducible refine aS 14 ?_); refine wpList_load_part rfl 23 _ rfl (g5) 0 _ 23 (0, 0) _ (HY22.out.get 3 rfl) rfl .u8 k1 (arr_part _ _) Tryd.underlying23 rfl (num_i HK1.out) ?_) | ((with_reducible refine aT 4 ?_); refine wpList_store_whole rfl 23 _ _ rfl (w.heap.size + 1 + 1) _ _ 23 (HY22.out.get 2 rfl) rfl rfl (arr_len2 _ _ HK1.out HLzn.out) (num_s HK1.out) (all_arr _ _) ?_; intro w99 hb99 hk99 hz99; have HIF := Lib.hid (HY22.out.put 2 rfl hk99 hb99); clear hb99 hk99 hz99))
    (try simp only [Exit.then])
    refine bodyPost_ret (results_cell_row rfl _ _ (w.heap.size + 1 + 1) 23 _ (0, 0) _ rfl (HIF.out.get 2 rfl) Tryd.underlying23 rfl (num_s HK1.out)) rfl ?_
    exact ⟨rfl, HIF.out.below⟩
  refine AllReadyH.cons (o := (⟨some 10, _, _, _, _, none⟩ : Oper)) rfl (fun K hK => ?_) AllReadyH.nil
  go_simp
  rw [HLA.out]
  have HY23 := Lib.hid (HBd.out.alloc (arr .u8 lit) 5)
  generalize wd.heap.size = gl at HY23 ⊢
  generalize wd.alloc (.cells (arr .u8 lit) 5) = y23 at HY23 ⊢
  refine hK.out _ _ trivial (fun _ => ?_)
  clear hK K
  (try simp only [Act.put, sA, sZ, sS])
  refine wpAnyH_ready (rs := [3, 5]) (by kernel_rfl) (by simp) ?_
  refine AllReadyH.cons (o := (⟨some 9, _, _, _, _, none⟩ : Oper)) rfl (fun K hK => ?_) ?_
  · go_simp
    go_at_call 37
    refine (HEX.out _ _ _ (src_all (HY23.out.get 0 rfl) 32 HEL.out) (src_all (HY23.out.get 1 rfl) 32 HZL.out) (ktab_below HTK.out HY23.out.below)).mono ?_
    rintro e y24 ⟨rfl, hb9⟩
    have HY24 := Lib.hid (HY23.out.kept hb9)
    clear hb9
    (try dsimp only)
    refine hK.out _ _ trivial (fun _ => ?_)
    clear hK K
    (try simp only [Act.put, sA, sZ, sS])
    refine wpAnyH_ready (rs := [5]) (by kernel_rfl) (by simp) ?_
    refine AllReadyH.cons (o := (⟨some 11, _, _, _, _, none⟩ : Oper)) rfl (fun K hK => ?_) AllReadyH.nil
    obtain ⟨y25, hrun, hcl, hkp⟩ := conv_lit y24 gl 4 4 (arr .u8 lit) (HY24.out.get 4 rfl)
    have hbe : Below w.heap.size w y25 := ⟨hkp.os.trans HY24.out.below.os, hkp.tape.trans HY24.out.below.tape, hkp.output.trans HY24.out.below.output, Nat.le_trans HY24.out.below.size hkp.size, fun k hk => (hkp.block k (Nat.lt_of_lt_of_le hk HY24.out.below.size) (fun e => by have := HY24.out.low 4 rfl; omega)).trans (HY24.out.below.block k hk)⟩
    have HY25 := Lib.hid (Blk.grown (r := some gl) (HY24.out.less 4) ⟨hkp.os, hkp.tape, hkp.output, hkp.size, fun k hk hne => hkp.block k hk (fun e => hne (by rw [e]))⟩ (by
      intro e he
      have n0 := HY24.out.ne 0 4 rfl rfl (by decide)
      have n1 := HY24.out.ne 1 4 rfl rfl (by decide)
      have n2 := HY24.out.ne 2 4 rfl rfl (by decide)
      have n3 := HY24.out.ne 3 4 rfl rfl (by decide)
      simp only [List.take, List.mem_append, List.mem_cons, List.not_mem_nil, or_false, List.cons_append, List.nil_append] at he
      intro e2
      have e3 := Option.some.inj e2
      rcases he with rfl | rfl | rfl | rfl <;> simp only at e3 <;> first | exact n0 e3 | exact n1 e3 | exact n2 e3 | exact n3 e3) hbe)
    have HS25 : Hid (Src y25 (some ⟨gl, 0, none⟩) 4 lit) := Lib.hid (src_all hcl 4 HLL.out)
    refine lin_world rfl (.slice (some ⟨gl, 0, none⟩) 4 4) (conv_next hrun) ?_
    clear hrun hcl hkp hbe
    refine hK.out _ _ trivial (fun _ => ?_)
    clear hK K
    (try simp only [Act.put, sA, sZ, sS])
    refine wpAnyH_ready (rs := [6]) (by kernel_rfl) (by simp) ?_
    refine AllReadyH.cons (o := (⟨some 12, _, _, _, _, none⟩ : Oper)) rfl (fun K hK => ?_) AllReadyH.nil
    go_simp
    go_at_call 36
    refine (HXP.out _ _ HS25.out (ktab_below HTK.out HY25.out.below)).mono ?_
    rintro e y26 ⟨gv, cv, rfl, hsv, hb9⟩
    have HY26 := Lib.hid (HY25.out.kept hb9)
    have HSV := Lib.hid hsv
    clear hb9 hsv
    (try dsimp only)
    refine hK.out _ _ trivial (fun _ => ?_)
    clear hK K
    (try simp only [Act.put, sA, sZ, sS])
    refine wpAnyH_ready (rs := [7]) (by kernel_rfl) (by simp) ?_
    refine AllReadyH.cons (o := (⟨some 13, _, _, _, _, none⟩ : Oper)) rfl (fun K hK => ?_) AllReadyH.nil
    refine step_copy' rfl (.tmp 6) (.tmp 12) rfl g5 32 32 32 cv ⟨gv, 0, none⟩ zn k1 23 rfl rfl (HY26.out.get 3 rfl) HSV.out (Nat.le_refl _) (by rw [HLzn.out]; exact Nat.le_refl _) ?_
    rw [HCP.out]
    intro y27 hb9 hk9
    have HY27 := Lib.hid (HY26.out.put 3 rfl hk9 hb9)
    clear hb9 hk9
    refine hK.out _ _ trivial (fun _ => ?_)
    clear hK K
    (try simp only [Act.put, sA, sZ, sS])
    refine wpAnyH_done (by kernel_rfl) ?_ _
    (try simp only [Exit.then])
    go_wp2_with (first | ((with_reducible refine aS 14 ?_); refine wpList_load_part rfl 23 _ rfl (g5) 0 _ 23 (0, 0) _ (HY27.out.get 3 rfl) rfl .u8 k1 (arr_part _ _) Tryd.underlying23 rfl (num_i HK1.out) ?_) | ((with_reducible refine aT 4 ?_); refine wpList_store_whole rfl 23 _ _ rfl (w.heap.size + 1 + 1) _ _ 23 (HY27.out.get 2 rfl) rfl rfl (arr_len2 _ _ HK1.out HLzn.out) (num_s HK1.out) (all_arr _ _) ?_; intro w99 hb99 hk99 hz99; have HIF := Lib.hid (HY27.out.put 2 rfl hk99 hb99); clear hb99 hk99 hz99))
    (try simp only [Exit.then])
    refine bodyPost_ret (results_cell_row rfl _ _ (w.heap.size + 1 + 1) 23 _ (0, 0) _ rfl (HIF.out.get 2 rfl) Tryd.underlying23 rfl (num_s HK1.out)) rfl ?_
    exact ⟨rfl, HIF.out.below⟩
  refine AllReadyH.cons (o := (⟨some 11, _, _, _, _, none⟩ : Oper)) rfl (fun K hK => ?_) AllReadyH.nil
  obtain ⟨y28, hrun, hcl, hkp⟩ := conv_lit y23 gl 4 4 (arr .u8 lit) (HY23.out.get 4 rfl)
  have hbe : Below w.heap.size w y28 := ⟨hkp.os.trans HY23.out.below.os, hkp.tape.trans HY23.out.below.tape, hkp.output.trans HY23.out.below.output, Nat.le_trans HY23.out.below.size hkp.size, fun k hk => (hkp.block k (Nat.lt_of_lt_of_le hk HY23.out.below.size) (fun e => by have := HY23.out.low 4 rfl; omega)).trans (HY23.out.below.block k hk)⟩
  have HY28 := Lib.hid (Blk.grown (r := some gl) (HY23.out.less 4) ⟨hkp.os, hkp.tape, hkp.output, hkp.size, fun k hk hne => hkp.block k hk (fun e => hne (by rw [e]))⟩ (by
    intro e he
    have n0 := HY23.out.ne 0 4 rfl rfl (by decide)
    have n1 := HY23.out.ne 1 4 rfl rfl (by decide)
    have n2 := HY23.out.ne 2 4 rfl rfl (by decide)
    have n3 := HY23.out.ne 3 4 rfl rfl (by decide)
    simp only [List.take, List.mem_append, List.mem_cons, List.not_mem_nil, or_false, List.cons_append, List.nil_append] at he
    intro e2
    have e3 := Option.some.inj e2
    rcases he with rfl | rfl | rfl | rfl <;> simp only at e3 <;> first | exact n0 e3 | exact n1 e3 | exact n2 e3 | exact n3 e3) hbe)
  have HS28 : Hid (Src y28 (some ⟨gl, 0, none⟩) 4 lit) := Lib.hid (src_all hcl 4 HLL.out)
  refine lin_world rfl (.slice (some ⟨gl, 0, none⟩) 4 4) (conv_next hrun) ?_
  clear hrun hcl hkp hbe
  refine hK.out _ _ trivial (fun _ => ?_)
  clear hK K
  (try simp only [Act.put, sA, sZ, sS])
  refine wpAnyH_ready (rs := [3]) (by kernel_rfl) (by simp) ?_
  refine AllReadyH.cons (o := (⟨some 9, _, _, _, _, none⟩ : Oper)) rfl (fun K hK => ?_) AllReadyH.nil
  go_simp
  go_at_call 37
  refine (HEX.out _ _ _ (src_all (HY28.out.get 0 rfl) 32 HEL.out) (src_all (HY28.out.get 1 rfl) 32 HZL.out) (ktab_below HTK.out HY28.out.below)).mono ?_
  rintro e y29 ⟨rfl, hb9⟩
  have HY29 := Lib.hid (HY28.out.kept hb9)
  have HS29 := Lib.hid (HS28.out.below hb9)
  clear hb9
  (try dsimp only)
  refine hK.out _ _ trivial (fun _ => ?_)
  clear hK K
  (try simp only [Act.put, sA, sZ, sS])
  refine wpAnyH_ready (rs := [6]) (by kernel_rfl) (by simp) ?_
  refine AllReadyH.cons (o := (⟨some 12, _, _, _, _, none⟩ : Oper)) rfl (fun K hK => ?_) AllReadyH.nil
  go_simp
  go_at_call 36
  refine (HXP.out _ _ HS29.out (ktab_below HTK.out HY29.out.below)).mono ?_
  rintro e y30 ⟨gv, cv, rfl, hsv, hb9⟩
  have HY30 := Lib.hid (HY29.out.kept hb9)
  have HSV := Lib.hid hsv
  clear hb9 hsv
  (try dsimp only)
  refine hK.out _ _ trivial (fun _ => ?_)
  clear hK K
  (try simp only [Act.put, sA, sZ, sS])
  refine wpAnyH_ready (rs := [7]) (by kernel_rfl) (by simp) ?_
  refine AllReadyH.cons (o := (⟨some 13, _, _, _, _, none⟩ : Oper)) rfl (fun K hK => ?_) AllReadyH.nil
  refine step_copy' rfl (.tmp 6) (.tmp 12) rfl g5 32 32 32 cv ⟨gv, 0, none⟩ zn k1 23 rfl rfl (HY30.out.get 3 rfl) HSV.out (Nat.le_refl _) (by rw [HLzn.out]; exact Nat.le_refl _) ?_
  rw [HCP.out]
  intro y31 hb9 hk9
  have HY31 := Lib.hid (HY30.out.put 3 rfl hk9 hb9)
  clear hb9 hk9
  refine hK.out _ _ trivial (fun _ => ?_)
  clear hK K
  (try simp only [Act.put, sA, sZ, sS])
  refine wpAnyH_done (by kernel_rfl) ?_ _
  (try simp only [Exit.then])
  go_wp2_with (first | ((with_reducible refine aS 14 ?_); refine wpList_load_part rfl 23 _ rfl (g5) 0 _ 23 (0, 0) _ (HY31.out.get 3 rfl) rfl .u8 k1 (arr_part _ _) Tryd.underlying23 rfl (num_i HK1.out) ?_) | ((with_reducible refine aT 4 ?_); refine wpList_store_whole rfl 23 _ _ rfl (w.heap.size + 1 + 1) _ _ 23 (HY31.out.get 2 rfl) rfl rfl (arr_len2 _ _ HK1.out HLzn.out) (num_s HK1.out) (all_arr _ _) ?_; intro w99 hb99 hk99 hz99; have HIF := Lib.hid (HY31.out.put 2 rfl hk99 hb99); clear hb99 hk99 hz99))
  (try simp only [Exit.then])
  refine bodyPost_ret (results_cell_row rfl _ _ (w.heap.size + 1 + 1) 23 _ (0, 0) _ rfl (HIF.out.get 2 rfl) Tryd.underlying23 rfl (num_s HK1.out)) rfl ?_
  exact ⟨rfl, HIF.out.below⟩
end Go.Proofs.YtogebegdgfdijaaDoor.Wr
