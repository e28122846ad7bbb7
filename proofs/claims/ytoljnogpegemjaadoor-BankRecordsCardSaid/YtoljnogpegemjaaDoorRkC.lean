/- The document's Key, Record: what they answer. Conditions: 32 bytes of a secret; the bytes lie there; the table holds what its text lays. -/
import Derived.Test.YtoljnogpegemjaaDoorBkA
import Derived.Test.YtoljnogpegemjaaDoorMaS
import Derived.Test.YtoljnogpegemjaaDoorRin
namespace Go.Proofs.YtoljnogpegemjaaDoor.Bk
open Go.RowKit Wr Sl
set_option linter.unusedSimpArgs false
set_option linter.unusedVariables false

theorem step_copyk {w : World} {ops : Array Oper} {o : Oper} {a : Act} {K : Act → World → Prop} {Q : Exit → Act → World → Prop} {E : Prop} (hgd : o.guard = none) (d s : Operand)
    (ho : o.op = .call { callee := .builtin .copy, args := #[d, s], argTypes := #[24, 24] }) (g m c n cs : Nat) (ad : Addr) (cur xs : List Int) (t : TypeId)
    (hd : a.eval d = .slice (some ⟨g, 0, none⟩) m c) (hs : a.eval s = .slice (some ad) n cs) (hg : w.heap[g]? = some (.cells (arr .u8 cur) t (0, 0))) (hsrc : Src w (some ad) n xs) (hnm : n ≤ m) (hfit : m ≤ cur.length)
    (h : ∀ w', w'.heap[g]? = some (.cells (arr .u8 (xs ++ cur.drop n)) t (0, 0)) → Kept (fun x => x = g) w w' → K (a.put o.dst (.int .i64 (n : Int))) w') :
    if Region.wanted o (yielded ops a.tmps) = true then Oper.wp Tryd.prog o a w K Q else E := by
  rw [if_pos (by simp [Region.wanted, hgd])]
  have hl := hsrc.len
  have hrun := run_copy_row (P := Tryd.prog) w 24 24 o.type 5 g 0 m c ad n cs (arr .u8 cur) t (xs.map (Value.int .u8)) Tryd.underlying24 (by kernel_rfl) hg (by rw [List.length_map, hl]; exact (Nat.min_eq_left hnm).symm) (src_news hsrc _ rfl) (by rw [List.length_map, hl, arr_size]; omega) (one_ints _ _)
  unfold Oper.wp execOp
  simp only [ho, resolve, invoke, builtin, Sem.run_bind, Sem.run_pure, Result.andThen_ok, List.map_toArray, List.map_cons, List.map_nil, hd, hs, hrun]
  have e : ((arr .u8 cur).toList.take 0 ++ xs.map (Value.int .u8) ++ (arr .u8 cur).toList.drop (0 + (xs.map (Value.int .u8)).length)).toArray = arr .u8 (xs ++ cur.drop n) := by
    show ((cur.map (Value.int .u8)).take 0 ++ xs.map (Value.int .u8) ++ (cur.map (Value.int .u8)).drop (0 + (xs.map (Value.int .u8)).length)).toArray = ((xs ++ cur.drop n).map (Value.int .u8)).toArray
    rw [List.length_map, hl, List.map_append, List.map_drop, List.take_zero, List.nil_append, Nat.zero_add]
  rw [e, List.length_map, hl]
  exact h _ (setRow_heap w g _ _ t _ hg) ⟨rfl, rfl, rfl, by simp [World.setRow], fun k _ hne => setRow_other w g k _ hne⟩
theorem conv_nextk {w w' : World} {v v' : Value} {t u : TypeId} (h : (convert t u v).run Tryd.prog w = .ok v' w') : (do pure (Next.value (← convert t u v)) : Sem Next).run Tryd.prog w = .ok (.value v') w' := by
  simp only [Sem.run_bind, h, Result.andThen_ok]
  rfl
theorem lin_worldk {P : Program} {Q : Exit → Act → World → Prop} {ops : Array Oper} {o : Oper} {b : Act} {u u' : World} {K : Act → World → Prop} {E : Prop} (hgd : o.guard = none) (v : Value) (hrun : (execOp b.eval o).run P u = .ok (.value v) u') (h : K (b.put o.dst v) u') :
    if Region.wanted o (yielded ops b.tmps) = true then Oper.wp P o b u K Q else E := by
  rw [if_pos (by simp [Region.wanted, hgd])]
  unfold Oper.wp
  rw [hrun]
  exact h

set_option maxRecDepth 100000 in
set_option maxHeartbeats 4000000 in
theorem rkey_any (key : List Int) (s : ByteArray) (w : World) (hk : key.length = 32) (hb : bytes key) (hn : s.size ≤ 1000000) (hT : Ha.TabK w) :
    Calls Tryd.prog 70 #[.agg (arr .u8 key), .string s] w fun e w' => e = .returned (.agg (arr .u8 (mac key (sbytes s ++ [1])))) ∧ Below w.heap.size w w' := by
  have hex : ∀ (u : World) (a : Addr) (c : Nat), Src u (some a) s.size (sbytes s) → Ha.TabK u → Calls Tryd.prog 110 #[.agg (arr .u8 key), .slice (some a) s.size c, .int .i64 32] u fun e w' => ∃ g c, e = .returned (.slice (some ⟨g, 0, none⟩) 32 c) ∧ Src w' (some ⟨g, 0, none⟩) 32 (mac key (sbytes s ++ [1])) ∧ Below u.heap.size u w' := by
    intro u a c h1 h2
    refine (rexpand_any key (sbytes s) a s.size c u hk hb h1 (bytes_sbytes s) hn h2).mono ?_
    rintro e w' ⟨v, rfl, ho, hb⟩
    obtain ⟨sa, c, rfl, -, -, h3, hor⟩ := ho.form
    rw [mac_len] at h3 ⊢
    rcases hor with ⟨-, h0, -⟩ | ⟨g, rfl, -, -⟩
    · have := mac_len key (sbytes s ++ [1])
      rw [h0] at this
      exact absurd this (by decide)
    · exact ⟨g, c, rfl, h3, hb⟩
  obtain ⟨k1, hk1⟩ : ∃ x, x = mac key (sbytes s ++ [1]) := ⟨_, rfl⟩
  have HK1 : Hid (k1.length = 32) := Lib.hid (by rw [hk1]; exact mac_len _ _)
  rw [← hk1] at hex ⊢
  have HEX := Lib.hid hex
  have HKL := Lib.hid hk
  have HTK := Lib.hid hT
  obtain ⟨zn, hzn⟩ : ∃ zs : List Int, zs = List.replicate 32 0 := ⟨_, rfl⟩
  have HZzn : Hid (∀ w, (zeroValue 23).run Tryd.prog w = .ok (.agg (arr .u8 zn)) w) := Lib.hid (by intro w; rw [hzn]; exact zero_num w)
  have HCP : Hid (k1 ++ zn.drop 32 = k1) := Lib.hid (by rw [hzn]; simp)
  have HLzn : Hid (zn.length = 32) := Lib.hid (by rw [hzn]; rfl)
  have HI0 := Lib.hid (Blk.two w (arr .u8 key) (arr .u8 zn) 23 23)
  clear hk1 hex hk hb hn hzn hT
  go_enter Tryd.func70, Tryd.ntmps70
  go_upto_region 1 with (first | ((with_reducible show wpList _ _ _ (Oper.mk (some 4) _ _ _ _ _ :: _) _ _); refine wpList_alloc_row rfl 23 rfl _ (HZzn.out _) ?_))
  (try simp only [World.size_alloc, Act.put, List.setIfInBounds_toArray, List.set_cons_zero, List.set_cons_succ])
  generalize ((w.alloc (.cells (arr .u8 key) 23)).alloc (.cells (arr .u8 zn) 23)) = wb at HI0 ⊢
  go_upto_region 2 with (first | ((with_reducible show wpList _ _ _ (Oper.mk (some 5) _ _ _ _ _ :: _) _ _); refine wpList_alloc_row rfl 23 rfl _ (HZzn.out _) ?_; have HI1 := Lib.hid (HI0.out.alloc (arr .u8 zn) 23); generalize wb.heap.size = g5 at HI1 ⊢; generalize wb.alloc (.cells (arr .u8 zn) 23) = w1 at HI1 ⊢))
  (try simp only [World.size_alloc, Act.put, List.setIfInBounds_toArray, List.set_cons_zero, List.set_cons_succ])
  have HGN : Hid (w.heap.size ≠ g5) := Lib.hid (fun e => by have := HI1.out.inj 0 2 _ _ _ _ _ rfl (by rw [e]; rfl); omega)
  have HK0 := Lib.hid ((Kept.refl (fun x => x = g5) w1).drew)
  have HBd := Lib.hid (HI1.out.drew)
  refine wp_region_held_drew (S := (fun w' => Kept (fun x => x = g5) w1 w')) (by kernel_rfl) (HK0.out) (fun hHeld => ?_)
  generalize w1.drew = wd at HK0 HBd hHeld ⊢
  refine wpAnyH_take (i := 0) (oi := ({ dst := some 6, op := Op.slice 23 (Operand.tmp 5) none none none, type := 24, pos := "bytes.go:316", after := #[], guard := none } : Oper)) (v := .slice (some ⟨g5, 0, none⟩) 32 32) rfl (by kernel_rfl) (by kernel_rfl) (by kernel_rfl) (fun _ _ _ h => h) (Or.inl ⟨by rfl, ?hy8001⟩) (by assumption) ?rest8001
  case hy8001 => (intro w hSw; (try dsimp only at hSw); go_simp; try (with_reducible rfl))
  (try simp only [World.size_alloc, Act.put, List.setIfInBounds_toArray, List.set_cons_zero, List.set_cons_succ])
  refine' wpAnyH_take (i := 1) (oi := ({ dst := some 7, op := Op.load 23 (Operand.tmp 2), type := 23, pos := "bytes.go:316", after := #[], guard := none } : Oper)) (v := _) rfl (by kernel_rfl) (by kernel_rfl) (by kernel_rfl) (fun _ _ _ h => h) (yieldsIf_load_mid (by rfl) _ _ rfl _ _ rfl (key.map (Value.int .u8)) _ ?hS8002 Tryd.underlying23 rfl (by rw [List.length_map]; exact num_i HKL.out)) (by assumption) ?rest8002
  case hS8002 => (intro w hSw; (try dsimp only at hSw); exact range_part (hSw.blk (HI1.out.get 0 rfl) (fun e => HGN.out e)) 0 _ (by rw [List.length_map]; exact arr_part _ _))
  (try simp only [World.size_alloc, Act.put, List.setIfInBounds_toArray, List.set_cons_zero, List.set_cons_succ])
  refine wpAnyH_take (i := 2) (oi := ({ dst := some 8, op := Op.move (Operand.tmp 1), type := 9, pos := "bytes.go:316", after := #[], guard := none } : Oper)) (v := .string s) rfl (by kernel_rfl) (by kernel_rfl) (by kernel_rfl) (fun _ _ _ h => h) (Or.inl ⟨by rfl, ?hy8003⟩) (by assumption) ?rest8003
  case hy8003 => (intro w hSw; (try dsimp only at hSw); go_simp; try (with_reducible rfl))
  (try simp only [World.size_alloc, Act.put, List.setIfInBounds_toArray, List.set_cons_zero, List.set_cons_succ])
  refine wpAnyH_ready (rs := [3]) (by kernel_rfl) (by simp) ?_
  refine AllReadyH.cons (o := ({ dst := some 9, op := Op.convert 9 24 (Operand.tmp 8), type := 24, pos := "bytes.go:316", after := #[{ on := 2, ground := Ground.data }], guard := none } : Oper)) rfl (fun K hK => ?_) AllReadyH.nil
  have hs9 := conv_str_src wd s
  have hb9 := conv_str_below wd s
  refine lin_worldk rfl _ (conv_nextk (conv_str s wd)) ?_
  have HY801 := Lib.hid (HBd.out.kept hb9)
  have HQ801 := Lib.hid (HK0.out.trans (Kept.of_below hb9))
  have HSS := Lib.hid hs9
  clear hs9 hb9
  generalize Lib.bytesWorld wd 5 s = y801 at HY801 HQ801 HSS ⊢
  generalize wd.heap.size = gs at HSS ⊢
  generalize grownCap wd s.size 0 5 = cs
  refine hK.out _ _ (HQ801.out) (fun hHeld => ?_)
  clear hK K
  (try simp only [World.size_alloc, Act.put, List.setIfInBounds_toArray, List.set_cons_zero, List.set_cons_succ])
  refine wpAnyH_ready (rs := [4]) (by kernel_rfl) (by simp) ?_
  refine AllReadyH.cons (o := ({ dst := some 10, op := Op.call { callee := Callee.value (Operand.func 110), args := #[Operand.tmp 7, Operand.tmp 9, Operand.const (Value.int IntKind.i64 32)], argTypes := #[23, 24, 3] }, type := 24, pos := "bytes.go:316", after := #[{ on := 1, ground := Ground.data }, { on := 3, ground := Ground.data }], guard := none } : Oper)) rfl (fun K hK => ?_) AllReadyH.nil
  go_simp
  go_at_call 110
  refine (HEX.out _ _ _ HSS.out (ktab_below HTK.out HY801.out.below)).mono ?_
  rintro e y802 ⟨g2, c2, rfl, hs2, hb9⟩
  have HY802 := Lib.hid (HY801.out.kept hb9)
  have HQ802 := Lib.hid (HQ801.out.trans (Kept.of_below hb9))
  have HS2 := Lib.hid hs2
  clear hs2
  clear hb9
  (try dsimp only)
  refine hK.out _ _ (HQ802.out) (fun hHeld => ?_)
  clear hK K
  (try simp only [World.size_alloc, Act.put, List.setIfInBounds_toArray, List.set_cons_zero, List.set_cons_succ])
  refine wpAnyH_ready (rs := [5]) (by kernel_rfl) (by simp) ?_
  refine AllReadyH.cons (o := ({ dst := some 11, op := Op.call { callee := Callee.builtin Builtin.copy, args := #[Operand.tmp 6, Operand.tmp 10], argTypes := #[24, 24] }, type := 3, pos := "bytes.go:316", after := #[{ on := 0, ground := Ground.data }, { on := 4, ground := Ground.data }, { on := 4, ground := Ground.chain }], guard := none } : Oper)) rfl (fun K hK => ?_) AllReadyH.nil
  refine step_copyk rfl (.tmp 6) (.tmp 10) rfl g5 32 32 32 c2 ⟨g2, 0, none⟩ zn k1 23 rfl rfl (HY802.out.get 2 rfl) HS2.out (Nat.le_refl _) (by rw [HLzn.out]; exact Nat.le_refl _) ?_
  intro y803 hg9 hk9
  rw [HCP.out] at hg9
  have HY803 := Lib.hid (HY802.out.put 2 rfl hk9 hg9)
  have HQ803 := Lib.hid (HQ802.out.trans hk9)
  clear hg9 hk9
  refine hK.out _ _ (HQ803.out) (fun hHeld => ?_)
  clear hK K
  (try simp only [World.size_alloc, Act.put, List.setIfInBounds_toArray, List.set_cons_zero, List.set_cons_succ])
  refine wpAnyH_done (by kernel_rfl) ?_ _
  (try simp only [Exit.then])
  go_wp2_with (first | ((with_reducible show wpList _ _ _ (Oper.mk (some 12) _ _ _ _ _ :: _) _ _); refine wpList_load_part rfl 23 _ rfl (g5) 0 _ 23 (0, 0) _ (HY803.out.get 2 rfl) rfl .u8 k1 (arr_part _ _) Tryd.underlying23 rfl (num_i HK1.out) ?_) | ((with_reducible show wpList _ _ _ (Oper.mk none (Op.store _ (Operand.tmp 4) _) _ _ _ _ :: _) _ _); refine wpList_store_whole rfl 23 _ _ rfl (w.heap.size + 1) _ _ 23 (HY803.out.get 1 rfl) rfl rfl (arr_len2 _ _ HK1.out HLzn.out) (num_s HK1.out) (all_arr _ _) ?_; intro w9 hb9 hk9 hz9; have HB9 := Lib.hid (HY803.out.put 1 rfl hk9 hb9); clear hb9 hk9 hz9))
  (try simp only [Exit.then])
  refine bodyPost_ret (results_cell_row rfl _ _ (w.heap.size + 1) 23 _ (0, 0) _ rfl (HB9.out.get 1 rfl) Tryd.underlying23 rfl (num_s HK1.out)) rfl ?_
  exact ⟨rfl, HB9.out.below⟩

set_option maxRecDepth 100000 in
set_option maxHeartbeats 4000000 in
theorem drec_any (s : List Int) (n : Int) (sa : Option Addr) (m c : Nat) (x : List Int) (w : World) (hsl : s.length = 32) (hsb : bytes s) (hn : -9223372036854775808 ≤ n ∧ n ≤ 9223372036854775807) (hm : m ≤ 1000000) (hs : Src w sa m x) (hx : bytes x) (hT : Ha.TabK w) :
    Calls Tryd.prog 23 #[.agg (arr .u8 s), .int .i64 n, .slice sa m c] w fun e w' => ∃ v, e = .returned v ∧ Own8 w' w.heap.size v (recd s n x) ∧ Below w.heap.size w w' := by
  have hlx := hs.len
  have hbd : packL mk [n, (m : Int)] ++ x = body n x := by rw [body, hlx]
  have hmn : (mk ++ be8 n ++ be8 (m : Int)).length = 20 := by simp [mk, be8_len]
  have hpi := fun (u : World) (g1 g2 : Addr) (c1 c2 : Nat) h1 h2 => rint_any (some g1) (some g2) 4 c1 2 c2 mk [n, (m : Int)] u h1 h2 (by decide) (by decide) (by intro x hx; simp only [List.mem_cons, List.not_mem_nil, or_false] at hx; rcases hx with rfl | rfl <;> omega)
  have hky := fun u h => rkey_any s ⟨#[98, 97, 110, 107]⟩ u hsl hsb (by decide) h
  rw [show sbytes ⟨#[98, 97, 110, 107]⟩ ++ [1] = nm by decide] at hky
  obtain ⟨kv, hkv⟩ : ∃ k, k = mac s nm := ⟨_, rfl⟩
  have hkl : kv.length = 32 := by rw [hkv]; exact mac_len _ _
  have hkb : bytes kv := by rw [hkv]; exact mac_bytes _ _
  have hms : ∀ (u : World) (g1 g2 : Addr) (c : Nat), Src u (some g1) 32 kv → Src u (some g2) (20 + m) (body n x) → Ha.TabK u → Calls Tryd.prog 71 #[.slice (some g1) 32 32, .slice (some g2) (20 + m) c] u fun e w' => e = .returned (.agg (arr .u8 (mac kv (body n x)))) ∧ Below u.heap.size u w' :=
    fun u g1 g2 c h1 h2 h3 => rmac_any kv (body n x) g1 32 32 g2 (20 + m) c u h1 hkb (by decide) h2 (body_bytes n x hx) (by omega) (by omega) h3
  obtain ⟨sv, hsv⟩ : ∃ k, k = mac kv (body n x) := ⟨_, rfl⟩
  have hvl : sv.length = 32 := by rw [hsv]; exact mac_len _ _
  have hrc : body n x ++ sv = recd s n x := by rw [recd, hsv, hkv]
  rw [← hkv] at hky
  rw [← hsv] at hms
  have hbl := body_len n x
  rw [hlx] at hbl
  obtain ⟨pk, hpk⟩ : ∃ k, k = packL mk [n, (m : Int)] := ⟨_, rfl⟩
  rw [← hpk] at hbd hpi
  have hpl : pk.length = 20 := by rw [hpk, packL_len]; rfl
  generalize body n x = bd at hbd hms hbl hrc
  generalize recd s n x = rc at hrc ⊢
  have HBD := Lib.hid hbd
  have HPI := Lib.hid hpi
  have HKY := Lib.hid hky
  have HMS := Lib.hid hms
  have HKL := Lib.hid hkl
  have HVL := Lib.hid hvl
  have HBL := Lib.hid hbl
  have HRC := Lib.hid hrc
  have HPL := Lib.hid hpl
  have HS := Lib.hid hs
  have HTK := Lib.hid hT
  have HSL := Lib.hid hsl
  have HI0 := Lib.hid (Blk.one w (arr .u8 s) 23)
  obtain ⟨zn, hzn⟩ : ∃ zs : List Int, zs = List.replicate 32 0 := ⟨_, rfl⟩
  have HZzn : Hid (∀ w, (zeroValue 23).run Tryd.prog w = .ok (.agg (arr .u8 zn)) w) := Lib.hid (by intro w; rw [hzn]; exact zero_num w)
  have HLzn : Hid (zn.length = 32) := Lib.hid (by rw [hzn]; rfl)
  clear hzn
  clear hbd hpi hky hms hkl hkb hvl hbl hrc hs hsl hsb hx hmn hlx hpk hkv hsv hpl hT
  go_enter Tryd.func23, Tryd.ntmps23
  go_upto_region 1 with fail
  generalize w.alloc (.cells (arr .u8 s) 23) = wb at HI0 ⊢
  have kc := conv_mk wb
  obtain ⟨wc, hwc⟩ : ∃ x, x = wb.alloc (.cells #[.int .u8 80, .int .u8 67, .int .u8 66, .int .u8 49] 5 (4, 5)) := ⟨_, rfl⟩
  have hzc : wc.heap.size = wb.heap.size + 1 := by rw [hwc]; simp
  have hm4 : Src wc (some ⟨wb.heap.size, 0, none⟩) 4 mk := by rw [hwc]; exact src_mk4 wb
  have hi1 : Blk w wc [(w.heap.size, arr .u8 s, 23)] := by rw [hwc]; exact HI0.out.kept ((Below.refl _ wb).alloc (Nat.le_refl _) _)
  have hbw : Below wc.heap.size wc (wc.alloc (.cells #[.int .i64 n, .int .i64 m] 3)) := (Below.refl _ wc).alloc (Nat.le_refl _) _
  have hsi := srcI_two wc n m
  rw [← hwc] at kc
  have HWC := Lib.hid hwc
  have HM4 := Lib.hid (hm4.below hbw)
  have HI1 := Lib.hid (hi1.kept hbw)
  have HSI := Lib.hid hsi
  have HZC := Lib.hid hzc
  clear hwc hzc hm4 hi1 hbw hsi
  have HLB : Hid (w.heap.size < wb.heap.size) := Lib.hid (HI0.out.lt 0 rfl)
  go_upto_region 2 with ((with_reducible show Calls _ 62 _ _ _); go_at_call 62; (refine (HPI.out (wc.alloc (.cells #[.int .i64 n, .int .i64 m] 3)) _ _ _ _ HM4.out HSI.out).mono ?_; rintro e w1 ⟨v1, rfl, ho1, hb1⟩; have HI2 := Lib.hid (HI1.out.kept hb1); have HO1 := Lib.hid (ho1.mono (B' := wb.heap.size) (by simp [HZC.out]; omega)); have HZ1 : Hid (wb.heap.size ≤ w1.heap.size) := Lib.hid (by have := hb1.size; simp [HZC.out] at this; omega); clear ho1 hb1))
  go_upto_region 3 with ((with_reducible show wpList _ _ _ (Oper.mk (some 19) _ _ _ _ _ :: _) _ _); (refine wpList_app8 rfl (.tmp 17) (.tmp 18) rfl wb.heap.size v1 pk rfl HO1.out sa m c x rfl (HS.out.below HI2.out.below) (by rw [HPL.out]; omega) HZ1.out ?_; intro v2 w2 ho2 hg2 hn2 hq2; have hbb := app8_below HO1.out hg2 (Below.refl wb.heap.size w1) HZ1.out; have HI3 := Lib.hid (blk_grown HI2.out hg2 (by intro e he e2; simp only [List.mem_singleton] at he; subst he; have := HO1.out.lt _ e2.symm; have := HLB.out; omega) (HI2.out.below.trans (hbb.mono (Nat.le_of_lt HLB.out)))); rw [HBD.out] at ho2; have HO2 := Lib.hid ho2; have HZ2 : Hid (wb.heap.size ≤ w2.heap.size) := Lib.hid (Nat.le_trans HZ1.out hg2.size); clear ho2 hg2 hn2 hq2 hbb))
  obtain ⟨s2, c2, e2, hc2, -, -, hor⟩ := HO2.out.form
  obtain ⟨g2, rfl⟩ : ∃ g : Nat, s2 = some ⟨g, 0, none⟩ := by
    rcases hor with ⟨-, h0, -⟩ | ⟨g, rfl, -, -⟩
    · have := HBL.out
      rw [h0] at this
      simp at this
      omega
    · exact ⟨g, rfl⟩
  rw [HBL.out] at e2 hc2
  subst e2
  have HC2 := Lib.hid hc2
  have HLT := Lib.hid HO2.out.lt
  clear kc HWC HM4 HI1 HSI HZC HI2 HO1 HZ1 HPI HBD HPL HS hc2 HI0 hor
  go_upto_region 4 with (first | ((with_reducible show wpList _ _ _ (Oper.mk (some 20) _ _ _ _ _ :: _) _ _); refine wpList_load_part rfl 23 _ rfl (w.heap.size) 0 _ 23 (0, 0) _ (HI3.out.get 0 rfl) rfl .u8 s (arr_part _ _) Tryd.underlying23 rfl (num_i HSL.out) ?_) | (go_at_call 70; refine (HKY.out _ (ktab_below HTK.out HI3.out.below)).mono ?_; rintro e w3 ⟨rfl, hb3⟩; have HI4 := Lib.hid (HI3.out.kept hb3); have HO3 := Lib.hid (HO2.out.below hb3); have HZ3 := Lib.hid hb3.size; clear hb3) | ((with_reducible show wpList _ _ _ (Oper.mk (some 8) _ _ _ _ _ :: _) _ _); refine wpList_alloc_row rfl 23 rfl _ (HZzn.out _) ?_; have HI5 := Lib.hid (HI4.out.alloc (arr .u8 zn) 23); have HO4 := Lib.hid (HO3.out.alloc (.cells (arr .u8 zn) 23)); have HG9 : Hid (∀ k, (Value.slice (some ⟨g2, 0, none⟩) (20 + m) c2).ownBlock = some k → k ≠ w3.heap.size) := Lib.hid (fun k e => by have := HLT.out k e; have := HZ3.out; omega); have HGL : Hid (wb.heap.size ≤ w3.heap.size) := Lib.hid (Nat.le_trans HZ2.out HZ3.out); generalize w3.heap.size = g9 at HI5 HG9 HGL ⊢; generalize w3.alloc (.cells (arr .u8 zn) 23) = w4 at HI5 HO4 ⊢) | ((with_reducible show wpList _ _ _ (Oper.mk none (Op.store _ (Operand.tmp 8) _) _ _ _ _ :: _) _ _); refine wpList_store_whole rfl 23 _ _ rfl g9 _ _ 23 (HI5.out.get 1 rfl) rfl rfl (arr_len2 _ _ HKL.out HLzn.out) (num_s HKL.out) (all_arr _ _) ?_; intro w5 hb5 hk5 hz5; have HI6 := Lib.hid (HI5.out.put 1 rfl hk5 hb5); have HO5 := Lib.hid (HO4.out.kept hk5 (fun k e => HG9.out k e)); clear hb5 hk5 hz5))
  clear HI3 HI4 HI5 HO2 HO3 HO4 HG9 HZ3 HKY HSL
  have HL5 := Lib.hid HO5.out.lt
  obtain ⟨hs5, -, -⟩ := own8_src HO5.out
  have HS5 := Lib.hid hs5
  have HQ5 := Lib.hid (src_all (HI6.out.get 1 rfl) 32 HKL.out)
  clear hs5
  go_upto_region 5 with (first | (go_at_call 71; (refine (HMS.out _ _ _ _ HQ5.out HS5.out (ktab_below HTK.out HI6.out.below)).mono ?_; rintro e w6 ⟨rfl, hb6⟩; have HI8 := Lib.hid (HI6.out.kept hb6); have HO7 := Lib.hid (HO5.out.below hb6); have HZ6 : Hid (w5.heap.size ≤ w6.heap.size) := Lib.hid hb6.size; clear hb6)) | ((with_reducible show wpList _ _ _ (Oper.mk (some 9) _ _ _ _ _ :: _) _ _); (refine wpList_alloc_row rfl 23 rfl _ (HZzn.out _) ?_; have HI9 := Lib.hid (HI8.out.alloc (arr .u8 zn) 23); have HO8 := Lib.hid (HO7.out.alloc (.cells (arr .u8 zn) 23)); have HG10 : Hid (∀ k, (Value.slice (some ⟨g2, 0, none⟩) (20 + m) c2).ownBlock = some k → k ≠ w6.heap.size) := Lib.hid (fun k e => by have := HL5.out k e; have := HZ6.out; omega); generalize w6.heap.size = g10 at HI9 HG10 ⊢; generalize w6.alloc (.cells (arr .u8 zn) 23) = w7 at HI9 HO8 ⊢)) | ((with_reducible show wpList _ _ _ (Oper.mk none (Op.store _ (Operand.tmp 9) _) _ _ _ _ :: _) _ _); (refine wpList_store_whole rfl 23 _ _ rfl g10 _ _ 23 (HI9.out.get 2 rfl) rfl rfl (arr_len2 _ _ HVL.out HLzn.out) (num_s HVL.out) (all_arr _ _) ?_; intro w8 hb8 hk8 hz8; have HIa := Lib.hid (HI9.out.put 2 rfl hk8 hb8); have HOa := Lib.hid (HO8.out.kept hk8 (fun k e => HG10.out k e)); have HZa : Hid (wb.heap.size ≤ w8.heap.size) := Lib.hid (by have := HIa.out.lt 1 rfl; have := HGL.out; omega); clear hb8 hk8 hz8)))
  go_wp2_with ((with_reducible show wpList _ _ _ (Oper.mk (some 27) _ _ _ _ _ :: _) _ _); (refine wpList_app8 rfl (.tmp 25) (.tmp 26) rfl wb.heap.size (.slice (some ⟨g2, 0, none⟩) (20 + m) c2) bd rfl HOa.out (some ⟨g10, 0, none⟩) 32 32 sv rfl (src_all (HIa.out.get 2 rfl) 32 HVL.out) (by rw [HBL.out]; omega) HZa.out ?_; intro v9 w9 ho9 hg9 hn9 hq9; have hbb := app8_below HOa.out hg9 (Below.refl wb.heap.size w8) HZa.out; have HB9 := Lib.hid (HIa.out.below.trans (hbb.mono (Nat.le_of_lt HLB.out))); rw [HRC.out] at ho9; have HO9 := Lib.hid ho9; clear ho9 hg9 hn9 hq9 hbb))
  (try simp only [Exit.then])
  go_ret
  exact ⟨_, rfl, HO9.out.mono (Nat.le_of_lt HLB.out), HB9.out⟩
end Go.Proofs.YtoljnogpegemjaaDoor.Bk
