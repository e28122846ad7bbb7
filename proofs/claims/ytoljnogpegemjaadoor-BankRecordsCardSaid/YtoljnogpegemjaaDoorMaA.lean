/- mac.padded, mac.Sum: what they answer. Condition: the key (1 to 64 bytes) and the lists lie there. -/
import Derived.Test.YtoljnogpegemjaaDoorMaP
import Derived.Test.YtoljnogpegemjaaDoorApl
import Derived.Test.YtoljnogpegemjaaDoorHlp
import Derived.Test.YtoljnogpegemjaaDoorHh
namespace Go.Proofs.YtoljnogpegemjaaDoor.Wr
open Go.RowKit Lm Cu Sl
set_option linter.unusedSimpArgs false
set_option linter.unusedSimpArgs false
set_option linter.unusedVariables false

theorem wpList_copy {w : World} {ops : Array Oper} {rest : List Oper} {o : Oper} {a : Act} {Q : Exit → Act → World → Prop} (hgd : o.guard = none) (d s : Operand)
    (ho : o.op = .call { callee := .builtin .copy, args := #[d, s], argTypes := #[24, 24] }) (g m c n cs : Nat) (ad : Addr) (cur xs : List Int) (t : TypeId)
    (hd : a.eval d = .slice (some ⟨g, 0, none⟩) m c) (hs : a.eval s = .slice (some ad) n cs) (hg : w.heap[g]? = some (.cells (arr .u8 cur) t (0, 0))) (hsrc : Src w (some ad) n xs) (hnm : n ≤ m) (hfit : m ≤ cur.length)
    (h : ∀ w', w'.heap[g]? = some (.cells (arr .u8 (xs ++ cur.drop n)) t (0, 0)) → Kept (fun x => x = g) w w' → wpList Tryd.prog ops Q rest (a.put o.dst (.int .i64 (n : Int))) w') : wpList Tryd.prog ops Q (o :: rest) a w := by
  refine wpList_plain hgd fun K hK => ?_
  have hl := hsrc.len
  have hrun := run_copy_row (P := Tryd.prog) w 24 24 o.type 5 g 0 m c ad n cs (arr .u8 cur) t (xs.map (Value.int .u8)) Tryd.underlying24 (by kernel_rfl) hg (by rw [List.length_map, hl]; exact (Nat.min_eq_left hnm).symm) (src_news hsrc _ rfl) (by rw [List.length_map, hl, arr_size]; omega) (one_ints _ _)
  unfold Oper.wp execOp
  simp only [ho, resolve, invoke, builtin, Sem.run_bind, Sem.run_pure, Result.andThen_ok, List.map_toArray, List.map_cons, List.map_nil, hd, hs, hrun]
  have e : ((arr .u8 cur).toList.take 0 ++ xs.map (Value.int .u8) ++ (arr .u8 cur).toList.drop (0 + (xs.map (Value.int .u8)).length)).toArray = arr .u8 (xs ++ cur.drop n) := by
    show ((cur.map (Value.int .u8)).take 0 ++ xs.map (Value.int .u8) ++ (cur.map (Value.int .u8)).drop (0 + (xs.map (Value.int .u8)).length)).toArray = ((xs ++ cur.drop n).map (Value.int .u8)).toArray
    rw [List.length_map, hl, List.map_append, List.map_drop, List.take_zero, List.nil_append, Nat.zero_add]
  rw [e, List.length_map, hl]
  exact hK _ _ (h _ (setRow_heap w g _ _ t _ hg) ⟨rfl, rfl, rfl, by simp [World.setRow], fun k _ hne => setRow_other w g k _ hne⟩)
theorem mk64 (w : World) : (Instr.makeSlice 24 (.int .i64 64) (.int .i64 64)).run Tryd.prog w = .ok (.slice (some ⟨w.heap.size, 0, none⟩) 64 64) (w.alloc (.cells (arr .u8 (List.replicate 64 0)) 5)) := by kernel_rfl

set_option maxRecDepth 100000 in
set_option maxHeartbeats 4000000 in
theorem padded_any (key : List Int) (b : Int) (ad : Addr) (nk ck : Nat) (w : World) (hs : Src w (some ad) nk key) (hb : bytes key) (hnk : nk ≤ 64) :
    Calls Tryd.prog 109 #[.slice (some ad) nk ck, .int .u8 b] w fun e w' => ∃ g, e = .returned (.slice (some ⟨g, 0, none⟩) 64 64) ∧ (w'.heap[g]? = some (.cells (arr .u8 (pad key b)) 5 (0, 0)) ∧ w.heap.size ≤ g) ∧ Below w.heap.size w w' := by
  have hl := hs.len
  obtain ⟨z64, hz⟩ : ∃ z : List Int, z = List.replicate 64 0 := ⟨_, rfl⟩
  have hmk : ∀ u : World, (Instr.makeSlice 24 (.int .i64 64) (.int .i64 64)).run Tryd.prog u = .ok (.slice (some ⟨u.heap.size, 0, none⟩) 64 64) (u.alloc (.cells (arr .u8 z64) 5)) := by intro u; rw [hz]; exact mk64 u
  have hzl : z64.length = 64 := by rw [hz]; rfl
  have h0 : key ++ z64.drop nk = padS key b 0 := by rw [hz, ← padS_zero key b (by omega), List.drop_replicate, hl]
  have hget := fun i h => padS_get key b i h
  have hset := fun i h => padS_set key b i h
  have HS := Lib.hid hs
  have HZL := Lib.hid hzl
  have H0 := Lib.hid h0
  have HGET := Lib.hid hget
  have HSET := Lib.hid hset
  have HNK := Lib.hid hnk
  have HS0 := Lib.hid (Blk.one w (arr .u8 z64) 5)
  clear hs hz hzl h0 hget hset hnk hl hb
  go_enter Tryd.func109, Tryd.ntmps109
  go_upto_region 3 with (first | ((with_reducible show wpList _ _ _ (Oper.mk (some 10) _ _ _ _ _ :: _) _ _); refine wpList_copy rfl (.tmp 8) (.tmp 9) rfl w.heap.size 64 64 nk ck ad z64 key 5 rfl rfl (HS0.out.get 0 rfl) (HS.out.below HS0.out.below) HNK.out (by rw [HZL.out]; exact Nat.le_refl _) ?_; rw [H0.out]; intro w1 hb1 hk1; have HI1 := Lib.hid (HS0.out.put 0 rfl hk1 hb1); clear hb1 hk1))
  go_wp2_with fail
  go_loopw [13] (fun v wr => ∃ i : Nat, i ≤ 64 ∧ v = .int .i64 i ∧ Blk w wr [(w.heap.size, arr .u8 (padS key b i), 5)]) (fun v _ => 64 - (intOf v).toNat)
  case atStart => exact ⟨0, Nat.zero_le _, rfl, HI1.out⟩
  clear HI1 HS0
  case round =>
  obtain ⟨i, hi, rfl, hB⟩ := hrel
  by_cases hlt : i < 64
  · have q0 := arr_get' (hB.get 0 rfl) i (by rw [padS_len]; exact hlt)
    have q1 := free_blk (hB.get 0 rfl) i
    rw [HGET.out i hlt] at q0
    have hset := HSET.out i hlt
    generalize key.getD i 0 = y at q0 hset
    have hb1 := hB.cell 0 rfl i (.int .u8 (bits .xor .u8 y b))
    have e2 : (arr .u8 (padS key b i)).setIfInBounds i (.int .u8 (bits .xor .u8 y b)) = arr .u8 (padS key b (i + 1)) := by rw [arr_set, hset]
    have HB1 := Lib.hid (hb1.cast (l' := [(w.heap.size, arr .u8 (padS key b (i + 1)), 5)]) (by rw [← e2]; rfl))
    clear hb1 e2 hset hB
    go_wp2_with fail
    go_roundw
    case rel => exact ⟨i + 1, by omega, by go_num, HB1.out⟩
    case measure => simp [intOf]; omega
  · obtain rfl : i = 64 := by omega
    have HB1 := Lib.hid hB
    clear hB
    go_wp2_with fail
    go_ret
    exact ⟨_, rfl, ⟨HB1.out.get 0 rfl, HB1.out.low 0 rfl⟩, HB1.out.below⟩

set_option maxRecDepth 100000 in
set_option maxHeartbeats 8000000 in
theorem msum_any (key : List Int) (ad : Addr) (nk ck : Nat) (sb : Option Addr) (nb cb : Nat) (LB : List (List Int)) (w : World) (hs : Src w (some ad) nk key) (hb : bytes key) (hnk : nk ≤ 64) (hB : SrcL w sb nb LB) (bB : ∀ l ∈ LB, bytes l) (hN : LB.flatten.length ≤ 1125899906842624) (hn : nb ≤ 1099511627770) :
    Calls Tryd.prog 69 #[.slice (some ad) nk ck, .slice sb nb cb] w fun e w' => e = .returned (.agg (arr .u8 (mac key LB.flatten))) ∧ Below w.heap.size w w' := by
  have hpd := fun (b : Int) (u : World) (h : Src u (some ad) nk key) => padded_any key b ad nk ck u h hb hnk
  have hgt : ¬ (64 : Int) < (nk : Int) := by omega
  have l1 : (pad key 54).length = 64 := padS_len _ _ _
  have l2 : (pad key 92).length = 64 := padS_len _ _ _
  have b1 := pad_bytes key 54
  have b2 := pad_bytes key 92
  have hs1 := fun (g : Addr) (c : Nat) (u : World) (h : SrcL u (some g) (1 + nb) ([pad key 54] ++ LB)) => Ha.sum_any (some g) (1 + nb) c _ u h (fun l h => (List.mem_append.1 h).elim (fun h => by simp only [List.mem_singleton] at h; subst h; exact b1) (bB l)) (by rw [List.flatten_append, List.length_append, show ([pad key 54] : List (List Int)).flatten = pad key 54 by simp, l1]; omega) (by omega)
  rw [show ([pad key 54] ++ LB).flatten = pad key 54 ++ LB.flatten by simp] at hs1
  obtain ⟨h1, hh1⟩ : ∃ x, x = Ha.hash (pad key 54 ++ LB.flatten) := ⟨_, rfl⟩
  have hl1 : h1.length = 32 := by rw [hh1]; exact hash_len _
  have hb1 : bytes h1 := by rw [hh1]; exact hash_bytes _
  have hs2 := fun (g : Addr) (c : Nat) (u : World) (h : SrcL u (some g) 2 [pad key 92, h1]) => Ha.sum_any (some g) 2 c _ u h (by intro l h; simp only [List.mem_cons, List.not_mem_nil, or_false] at h; rcases h with rfl | rfl; exact b2; exact hb1) (by rw [show ([pad key 92, h1] : List (List Int)).flatten = pad key 92 ++ h1 by simp, List.length_append, l2, hl1]; decide) (by decide)
  rw [show ([pad key 92, h1] : List (List Int)).flatten = pad key 92 ++ h1 by simp] at hs2
  have hm : mac key LB.flatten = Ha.hash (pad key 92 ++ h1) := by rw [hh1]; rfl
  rw [hm]
  rw [← hh1] at hs1
  obtain ⟨h2, hh2⟩ : ∃ x, x = Ha.hash (pad key 92 ++ h1) := ⟨_, rfl⟩
  have hl2 : h2.length = 32 := by rw [hh2]; exact hash_len _
  rw [← hh2] at hs2 ⊢
  have hp1 := hpd 54
  have hp2 := hpd 92
  obtain ⟨p1, hpp1⟩ : ∃ x, x = pad key 54 := ⟨_, rfl⟩
  obtain ⟨p2, hpp2⟩ : ∃ x, x = pad key 92 := ⟨_, rfl⟩
  rw [← hpp1] at hs1 hp1 l1
  rw [← hpp2] at hs2 hp2 l2
  have HP1 := Lib.hid hp1
  have HP2 := Lib.hid hp2
  have HS1 := Lib.hid hs1
  have HS2 := Lib.hid hs2
  have HL1 := Lib.hid l1
  have HL2 := Lib.hid l2
  have HH1 := Lib.hid hl1
  have HH2 := Lib.hid hl2
  have HS := Lib.hid hs
  have HSB := Lib.hid hB
  have HN := Lib.hid hn
  obtain ⟨zn, hzn⟩ : ∃ zs : List Int, zs = List.replicate 32 0 := ⟨_, rfl⟩
  have HZzn : Hid (∀ w, (zeroValue 23).run Tryd.prog w = .ok (.agg (arr .u8 zn)) w) := Lib.hid (by intro w; rw [hzn]; exact zero_num w)
  have HLzn : Hid (zn.length = 32) := Lib.hid (by rw [hzn]; rfl)
  have HI0 := Lib.hid (Blk.one w (arr .u8 zn) 23)
  clear hpp1 hpp2 hp1 hp2 hpd l1 l2 b1 b2 hs1 hs2 hh1 hl1 hb1 hm hh2 hl2 hs hB hn hN bB hb hnk hzn
  go_enter Tryd.func69, Tryd.ntmps69
  go_upto_region 1 with (first | ((with_reducible show wpList _ _ _ (Oper.mk (some 4) _ _ _ _ _ :: _) _ _); refine wpList_alloc_row rfl 23 rfl _ (HZzn.out _) ?_))
  (try simp only [World.size_alloc, Act.put, List.setIfInBounds_toArray, List.set_cons_zero, List.set_cons_succ])
  generalize (w.alloc (.cells (arr .u8 zn) 23)) = wb at HI0 ⊢
  go_upto_region 5 with (first | ((with_reducible show Calls _ 109 _ _ _); go_at_call 109; refine (HP1.out _ (HS.out.below HI0.out.below)).mono ?_; rintro e w1 ⟨gp, rfl, ⟨h1', h2'⟩, hb1⟩; have HI1 := Lib.hid (Sl.Blk.add HI0.out hb1 h1' h2'); clear h1' h2' hb1) | ((with_reducible show wpList _ _ _ (Oper.mk (some 18) _ _ _ _ _ :: _) _ _); refine wpList_appLL rfl (.tmp 16) (.tmp 17) rfl _ 0 1 [p1] sb nb cb LB rfl rfl (csrcL_one (src_all (HI1.out.get 1 rfl) 64 HL1.out) (Nat.le_refl _)) (HSB.out.below (HI1.out.below.alloc HI1.out.below.size _)) (by have := HN.out; omega) ?_; intro ad' cap w2 hL hb2; have HSL := Lib.hid hL; have HI2 := Lib.hid (HI1.out.kept (below_new hb2)); clear hL hb2) | ((with_reducible show Calls _ 63 _ _ _); go_at_call 63; refine (HS1.out _ _ _ HSL.out).mono ?_; rintro e w3 ⟨rfl, hb3⟩; have HI3 := Lib.hid (HI2.out.kept hb3); clear hb3) | ((with_reducible show wpList _ _ _ (Oper.mk (some 6) _ _ _ _ _ :: _) _ _); refine wpList_alloc_row rfl 23 rfl _ (HZzn.out _) ?_; have HI4 := Lib.hid (HI3.out.alloc (arr .u8 zn) 23); generalize w3.heap.size = g6 at HI4 ⊢; generalize w3.alloc (.cells (arr .u8 zn) 23) = w4 at HI4 ⊢) | ((with_reducible show wpList _ _ _ (Oper.mk none (Op.store _ (Operand.tmp 6) _) _ _ _ _ :: _) _ _); refine wpList_store_whole rfl 23 _ _ rfl (g6) _ _ 23 (HI4.out.get 2 rfl) rfl rfl (arr_len2 _ _ HH1.out HLzn.out) (num_s HH1.out) (all_arr _ _) ?_; intro w5 hb5 hk5 hz5; have HI5 := Lib.hid (HI4.out.put 2 rfl hk5 hb5); clear hb5 hk5 hz5))
  (try simp only [World.size_alloc, Act.put, List.setIfInBounds_toArray, List.set_cons_zero, List.set_cons_succ])
  refine wp_region_held_drew (S := fun _ => True) (by kernel_rfl) trivial (fun hHeld => ?_)
  have HBd := Lib.hid (HI5.out.drew)
  generalize w5.drew = wd at HBd ⊢
  refine wpAnyH_take (i := 0) (oi := ({ dst := some 20, op := Op.move (Operand.tmp 0), type := 24, pos := "mac.go:32", after := #[], guard := none } : Oper)) (v := .slice (some ad) nk ck) rfl (by kernel_rfl) (by kernel_rfl) (by kernel_rfl) (fun _ _ _ h => h) (Or.inl ⟨by rfl, ?hy6201⟩) trivial ?rest6201
  case hy6201 => (intro w _; (try dsimp only); go_simp; try (with_reducible rfl))
  (try simp only [Act.put, List.setIfInBounds_toArray, List.set_cons_zero, List.set_cons_succ])
  refine wpAnyH_take (i := 2) (oi := ({ dst := some 22, op := Op.slice 23 (Operand.tmp 6) none none none, type := 24, pos := "mac.go:32", after := #[], guard := none } : Oper)) (v := .slice (some ⟨g6, 0, none⟩) 32 32) rfl (by kernel_rfl) (by kernel_rfl) (by kernel_rfl) (fun _ _ _ h => h) (Or.inl ⟨by rfl, ?hy6202⟩) trivial ?rest6202
  case hy6202 => (intro w _; (try dsimp only); go_simp; try (with_reducible rfl))
  (try simp only [Act.put, List.setIfInBounds_toArray, List.set_cons_zero, List.set_cons_succ])
  refine wpAnyH_ready (rs := [1]) (by kernel_rfl) (by simp) ?_
  refine AllReadyH.cons (o := ({ dst := some 21, op := Op.call { callee := Callee.value (Operand.func 109), args := #[Operand.tmp 20, Operand.const (Value.int IntKind.u8 92)], argTypes := #[24, 5] }, type := 24, pos := "mac.go:32", after := #[{ on := 0, ground := Ground.data }], guard := none } : Oper)) rfl (fun K hK => ?_) AllReadyH.nil
  go_simp
  go_at_call 109
  refine (HP2.out _ (HS.out.below HBd.out.below)).mono ?_
  rintro e w6 ⟨gq, rfl, ⟨h1', h2'⟩, hb1⟩
  have HI6 := Lib.hid (Sl.Blk.add HBd.out hb1 h1' h2')
  clear h1' h2' hb1
  (try dsimp only)
  refine hK.out _ _ trivial (fun _ => ?_)
  clear hK K
  (try simp only [Act.put, List.setIfInBounds_toArray, List.set_cons_zero, List.set_cons_succ])
  refine wpAnyH_ready (rs := [3]) (by kernel_rfl) (by simp) ?_
  refine AllReadyH.cons (o := ({ dst := some 23, op := Op.buildSlice 60 2 #[(0, Operand.tmp 21), (1, Operand.tmp 22)], type := 60, pos := "mac.go:32", after := #[{ on := 1, ground := Ground.data }, { on := 2, ground := Ground.data }], guard := none } : Oper)) rfl (fun K hK => ?_) AllReadyH.nil
  go_simp
  refine hK.out _ _ trivial (fun _ => ?_)
  clear hK K
  (try simp only [Act.put, List.setIfInBounds_toArray, List.set_cons_zero, List.set_cons_succ])
  refine wpAnyH_ready (rs := [4]) (by kernel_rfl) (by simp) ?_
  refine AllReadyH.cons (o := ({ dst := some 24, op := Op.call { callee := Callee.value (Operand.func 63), args := #[Operand.tmp 23], argTypes := #[60] }, type := 23, pos := "mac.go:32", after := #[{ on := 3, ground := Ground.data }, { on := 1, ground := Ground.chain }], guard := none } : Oper)) rfl (fun K hK => ?_) AllReadyH.nil
  go_simp
  go_at_call 63
  refine (HS2.out _ _ _ (src_two (blk_new w6 _) ((src_all (HI6.out.get 3 rfl) 64 HL2.out).below ((Below.refl _ w6).alloc (Nat.le_refl _) _)) ((src_all (HI6.out.get 2 rfl) 32 HH1.out).below ((Below.refl _ w6).alloc (Nat.le_refl _) _)) (Nat.le_refl _) (Nat.le_refl _))).mono ?_
  rintro e w7 ⟨rfl, hb7⟩
  have HI7 := Lib.hid (HI6.out.kept (below_new hb7))
  clear hb7
  (try dsimp only)
  refine hK.out _ _ trivial (fun _ => ?_)
  clear hK K
  (try simp only [Act.put, List.setIfInBounds_toArray, List.set_cons_zero, List.set_cons_succ])
  refine wpAnyH_ready (rs := [5]) (by kernel_rfl) (by simp) ?_
  refine AllReadyH.cons (o := ({ dst := none, op := Op.store 23 (Operand.tmp 4) (Operand.tmp 24), type := 0, pos := "mac.go:32", after := #[{ on := 4, ground := Ground.data }, { on := 4, ground := Ground.chain }, { on := 0, ground := Ground.phase }, { on := 1, ground := Ground.phase }, { on := 2, ground := Ground.phase }, { on := 3, ground := Ground.phase }, { on := 4, ground := Ground.phase }], guard := none } : Oper)) rfl (fun K hK => ?_) AllReadyH.nil
  refine step_store_whole rfl 23 (.tmp 4) (.tmp 24) rfl (w.heap.size) _ _ 23 (HI7.out.get 0 rfl) rfl rfl (arr_len2 _ _ HH2.out HLzn.out) (num_s HH2.out) (all_arr _ _) ?_
  intro w8 hb8 hk8 hz8
  have HI8 := Lib.hid (HI7.out.put 0 rfl hk8 hb8)
  clear hb8 hk8 hz8
  refine hK.out _ _ trivial (fun _ => ?_)
  clear hK K
  (try simp only [Act.put, List.setIfInBounds_toArray, List.set_cons_zero, List.set_cons_succ])
  refine wpAnyH_done (by kernel_rfl) ?_ _
  (try simp only [Exit.then])
  go_wp2_with fail
  refine bodyPost_ret (results_cell_row rfl _ _ (w.heap.size) 23 _ (0, 0) _ rfl (HI8.out.get 0 rfl) Tryd.underlying23 rfl (num_s HH2.out)) rfl ?_
  exact ⟨rfl, HI8.out.below⟩
end Go.Proofs.YtoljnogpegemjaaDoor.Wr
