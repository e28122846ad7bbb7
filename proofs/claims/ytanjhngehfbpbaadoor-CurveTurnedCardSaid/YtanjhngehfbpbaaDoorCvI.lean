/- portcullislaw13.alive: it answers true. No condition. -/
import Derived.Test.YtanjhngehfbpbaaDoorCvH
import Derived.Lib.SlBytesConst
namespace Go.Proofs.YtanjhngehfbpbaaDoor.Sl
open Go.RowKit Lm Fp Cu Rd Sc
set_option linter.unusedSimpArgs false

theorem esign_len (s : Nat) (b : List Int) : (esign s b).length = 64 := by rw [esign, List.length_append, n32_len, n32_len]
theorem esign_bytes (s : Nat) (b : List Int) : bytes (esign s b) := bytes_app (n32_bytes _) (n32_bytes _)
theorem esignR_lt (s : Nat) (b : List Int) : esignR s b < 256 ^ 32 := ebytes_lt _
theorem esignS_lt (s : Nat) (b : List Int) : esignS s b < 256 ^ 32 := Nat.lt_trans (Nat.mod_lt _ q_pos) q_lt32
theorem esign_R (s : Nat) (b : List Int) : hnum ((esign s b).take 32) = esignR s b := by
  rw [esign, List.take_append_of_le_length (by rw [n32_len]; decide), List.take_of_length_le (by rw [n32_len]; decide), hnum_n32 (esignR_lt s b)]
theorem esign_S (s : Nat) (b : List Int) : hnum ((esign s b).drop 32) = esignS s b := by
  rw [esign, List.drop_append_of_le_length (by rw [n32_len]; decide), List.drop_of_length_le (by rw [n32_len]; decide), List.nil_append, hnum_n32 (esignS_lt s b)]
theorem alive13a : everify (epub 0) (esignR 0 [120]) (esignS 0 [120]) [120] = true ∧ everify (epub 0) 0 0 [121] = false ∧ (eread (epub 0)).isSome = true := by
  have h := alive13
  simp only [Bool.and_eq_true, Bool.not_eq_true'] at h
  exact ⟨h.1.1, h.1.2, h.2⟩
theorem epub_lt (s : Nat) : epub s < 256 ^ 32 := ebytes_lt _
theorem build_sig0 (w : World) : (Instr.build 30 #[]).run Tryd.prog w = .ok (.agg (arr .u8 (List.replicate 64 0))) w := by kernel_rfl
theorem conv_bytes (w : World) (x : Int) : (convert 33 33 (.slice (some ⟨w.heap.size, 0, none⟩) 1 1)).run Tryd.prog (w.alloc (.cells #[.int .u8 x] 5)) = .ok (.slice (some ⟨w.heap.size, 0, none⟩) 1 1) (w.alloc (.cells #[.int .u8 x] 5 (1, 2))) :=
  Lib.run_convert_bytes_const w 33 5 #[.int .u8 x] 1 1 Tryd.underlying33 Tryd.underlying5
theorem wpList_conv {P : Program} {ops : Array Oper} {rest : List Oper} {o : Oper} {a : Act} {w w' : World} {Q : Exit → Act → World → Prop} (hg : o.guard = none) (t u : TypeId) (x : Operand) (ho : o.op = .convert t u x) (v v' : Value) (hx : a.eval x = v) (hrun : (convert t u v).run P w = .ok v' w')
    (h : wpList P ops Q rest (a.put o.dst v') w') : wpList P ops Q (o :: rest) a w := by
  refine wpList_plain hg fun _ hK => ?_
  unfold Oper.wp execOp
  simp only [ho, hx, Sem.run_bind, hrun, Result.andThen_ok]
  exact hK _ _ h
theorem srcL_byte (w : World) (x : Int) : SrcL ((w.alloc (.cells #[.int .u8 x] 5 (1, 2))).alloc (.cells #[.slice (some ⟨w.heap.size, 0, none⟩) 1 1] 33)) (some ⟨w.heap.size + 1, 0, none⟩) 1 [[x]] := by
  have h := csrcL_one (w := w.alloc (.cells #[.int .u8 x] 5 (1, 2))) (src_row (xs := [x]) (m := 1) (blk_new w _) rfl rfl) (Nat.le_refl 1)
  rwa [size1] at h

set_option maxRecDepth 100000 in
set_option maxHeartbeats 8000000 in
theorem alive13_any (w : World) : Calls Tryd.prog 9 #[] w fun e w' => e = .returned (.bool true) ∧ Below w.heap.size w w' := by
  obtain ⟨x1, x2, x3⟩ := alive13a
  have hsg := fun (w : World) (g : Nat) (zs : List Int) (h0 : K32 zs 0) (hB : SrcL w (some ⟨g, 0, none⟩) 1 [[120]]) => csign_any 0 (some ⟨g, 0, none⟩) 1 1 [[120]] w h0 hB (by intro l h; simp only [List.mem_singleton] at h; subst h; intro x hx; simp only [List.mem_singleton] at hx; subst hx; decide) (by decide) (by decide)
  rw [show ([[120]] : List (List Int)).flatten = [120] from rfl] at hsg
  obtain ⟨PK, hPK⟩ : ∃ x, x = epub 0 := ⟨_, rfl⟩
  rw [← hPK] at x1 x2 x3
  have hp := fun (zs : List Int) (w : World) (h : K32 zs 0) => cpublic_any 0 w h
  rw [← hPK] at hp
  have hm := fun (zs : List Int) (w : World) (h : K32 zs PK) => cmay_any PK w h
  rw [x3] at hm
  have hl := esign_len 0 [120]
  have hb := esign_bytes 0 [120]
  have hv1 := fun (w : World) (g : Nat) (zs : List Int) (h0 : K32 zs PK) (hB : SrcL w (some ⟨g, 0, none⟩) 1 [[120]]) => cverify_any PK (some ⟨g, 0, none⟩) 1 1 [[120]] w h0 hl hb hB (by intro l h; simp only [List.mem_singleton] at h; subst h; intro x hx; simp only [List.mem_singleton] at hx; subst hx; decide) (by decide) (by decide)
  rw [show ([[120]] : List (List Int)).flatten = [120] from rfl, esign_R, esign_S, x1] at hv1
  have hv2 := fun (w : World) (g : Nat) (zs : List Int) (h0 : K32 zs PK) (hB : SrcL w (some ⟨g, 0, none⟩) 1 [[121]]) => cverify_any (gs := List.replicate 64 0) PK (some ⟨g, 0, none⟩) 1 1 [[121]] w h0 (by decide) (by intro x hx; have := List.eq_of_mem_replicate hx; subst this; decide) hB (by intro l h; simp only [List.mem_singleton] at h; subst h; intro x hx; simp only [List.mem_singleton] at hx; subst hx; decide) (by decide) (by decide)
  rw [show ([[121]] : List (List Int)).flatten = [121] from rfl, show hnum ((List.replicate 64 (0 : Int)).take 32) = 0 by decide +kernel, show hnum ((List.replicate 64 (0 : Int)).drop 32) = 0 by decide +kernel, x2] at hv2
  obtain ⟨gg, hgg⟩ : ∃ x, x = esign 0 [120] := ⟨_, rfl⟩
  rw [← hgg] at hsg hl hv1
  obtain ⟨z64, hz64⟩ : ∃ x : List Int, x = List.replicate 64 0 := ⟨_, rfl⟩
  have HBS : Hid (∀ w, (Instr.build 30 #[]).run Tryd.prog w = .ok (.agg (arr .u8 z64)) w) := Lib.hid (by intro w; rw [hz64]; exact build_sig0 w)
  rw [← hz64] at hv2
  have HZ64L : Hid (z64.length = 64) := Lib.hid (by rw [hz64]; rfl)
  have HGL := Lib.hid hl
  have HSGN := Lib.hid hsg
  have HPUB := Lib.hid hp
  have HMAY := Lib.hid hm
  have HV1 := Lib.hid hv1
  have HV2 := Lib.hid hv2
  obtain ⟨zn, hzn⟩ : ∃ zs : List Int, zs = List.replicate 32 0 := ⟨_, rfl⟩
  have HZzn : Hid (∀ w, (zeroValue 23).run Tryd.prog w = .ok (.agg (arr .u8 zn)) w) := Lib.hid (by intro w; rw [hzn]; exact zero_num w)
  have HLzn : Hid (zn.length = 32) := Lib.hid (by rw [hzn]; rfl)
  obtain ⟨zs64, hzs64⟩ : ∃ zs : List Int, zs = List.replicate 64 0 := ⟨_, rfl⟩
  have HZzs64 : Hid (∀ w, (zeroValue 30).run Tryd.prog w = .ok (.agg (arr .u8 zs64)) w) := Lib.hid (by intro w; rw [hzs64]; exact zero_sig w)
  have HLzs64 : Hid (zs64.length = 64) := Lib.hid (by rw [hzs64]; rfl)
  have HZN0 : Hid (K32 zn 0) := Lib.hid (by rw [hzn]; exact k32_zero)
  have HBN : Hid (∀ w, (Instr.build 23 #[]).run Tryd.prog w = .ok (.agg (arr .u8 zn)) w) := Lib.hid (by intro w; rw [hzn]; exact build_nil w)
  have HI0 := Lib.hid (Blk.nil w)
  clear hzn hzs64 hsg hp hm hl hb hv1 hv2 hgg hz64 hPK x1 x2 x3
  go_enter Tryd.func9, Tryd.ntmps9
  go_upto_region 2 with (first | ((with_reducible refine aS 5 ?_); refine wpList_build (by rfl) 23 _ rfl #[] rfl _ (HBN.out _) ?_) | ((with_reducible show Calls _ 10 _ _ _); go_at_call 10; refine (HPUB.out _ _ HZN0.out).mono ?_; rintro e w1 ⟨z1, rfl, h1, hb1⟩; have HZ1 := Lib.hid h1; have HL1 := Lib.hid h1.len; have HI1 := Lib.hid (HI0.out.kept hb1); clear h1 hb1) | ((with_reducible refine aS 1 ?_); refine wpList_alloc_row rfl 23 rfl _ (HZzn.out _) ?_; have HI2 := Lib.hid (HI1.out.alloc (arr .u8 zn) 23); generalize w1.heap.size = g1 at HI2 ⊢; generalize w1.alloc (.cells (arr .u8 zn) 23) = w2 at HI2 ⊢) | ((with_reducible refine aT 1 ?_); refine wpList_store_whole rfl 23 _ _ rfl (g1) _ _ 23 (HI2.out.get 0 rfl) rfl rfl (arr_len2 _ _ HL1.out HLzn.out) (num_s HL1.out) (all_arr _ _) ?_; intro w3 hb3 hk3 hz3; have HI3 := Lib.hid (HI2.out.put 0 rfl hk3 hb3); clear hb3 hk3 hz3))
  (try simp only [World.size_alloc, Act.put, sA, sZ, sS])
  go_upto_region 3 with (first | ((with_reducible refine aS 7 ?_); refine wpList_build (by rfl) 23 _ rfl #[] rfl _ (HBN.out _) ?_) | ((with_reducible refine aS 9 ?_); refine wpList_conv rfl 33 33 (.tmp 8) rfl _ _ rfl (conv_bytes _ _) ?_) | ((with_reducible show Calls _ 14 _ _ _); go_at_call 14; refine (HSGN.out _ _ _ HZN0.out (srcL_byte w3 120)).mono ?_; rintro e w4 ⟨rfl, hb4⟩; have HI4 := Lib.hid (HI3.out.kept (below_new (below_new hb4))); clear hb4) | ((with_reducible refine aS 2 ?_); refine wpList_alloc_row rfl 30 rfl _ (HZzs64.out _) ?_; have HI5 := Lib.hid (HI4.out.alloc (arr .u8 zs64) 30); generalize w4.heap.size = g2 at HI5 ⊢; generalize w4.alloc (.cells (arr .u8 zs64) 30) = w5 at HI5 ⊢) | ((with_reducible refine aT 2 ?_); refine wpList_store_whole rfl 30 _ _ rfl (g2) _ _ 30 (HI5.out.get 1 rfl) rfl rfl (arr_len2 _ _ HGL.out HLzs64.out) (sig_s HGL.out) (all_arr _ _) ?_; intro w6 hb6 hk6 hz6; have HI6 := Lib.hid (HI5.out.put 1 rfl hk6 hb6); clear hb6 hk6 hz6))
  (try simp only [World.size_alloc, Act.put, sA, sZ, sS])
  go_upto_region 4 with (first | ((with_reducible refine aS 15 ?_); refine wpList_conv rfl 33 33 (.tmp 14) rfl _ _ rfl (conv_bytes _ _) ?_) | ((with_reducible refine aS 12 ?_); refine wpList_load_part rfl 23 _ rfl (g1) 0 _ 23 (0, 0) _ (HI6.out.get 0 rfl) rfl .u8 z1 (arr_part _ _) Tryd.underlying23 rfl (num_i HL1.out) ?_) | ((with_reducible refine aS 13 ?_); refine wpList_load_part rfl 30 _ rfl (g2) 0 _ 30 (0, 0) _ (HI6.out.get 1 rfl) rfl .u8 gg (arr_part _ _) Tryd.underlying30 rfl (sig_i HGL.out) ?_) | ((with_reducible show Calls _ 17 _ _ _); go_at_call 17; refine (HV1.out _ _ _ HZ1.out (srcL_byte w6 120)).mono ?_; rintro e w7 ⟨rfl, hb7⟩; have HI7 := Lib.hid (HI6.out.kept (below_new (below_new hb7))); clear hb7))
  (try simp only [World.size_alloc, Act.put, sA, sZ, sS])
  go_upto_region 5 with (first | ((with_reducible refine aS 21 ?_); refine wpList_conv rfl 33 33 (.tmp 20) rfl _ _ rfl (conv_bytes _ _) ?_) | ((with_reducible refine aS 18 ?_); refine wpList_load_part rfl 23 _ rfl (g1) 0 _ 23 (0, 0) _ (HI7.out.get 0 rfl) rfl .u8 z1 (arr_part _ _) Tryd.underlying23 rfl (num_i HL1.out) ?_) | ((with_reducible refine aS 19 ?_); refine wpList_build (by rfl) 30 _ rfl #[] rfl _ (HBS.out _) ?_) | ((with_reducible show Calls _ 17 _ _ _); go_at_call 17; refine (HV2.out _ _ _ HZ1.out (srcL_byte w7 121)).mono ?_; rintro e w8 ⟨rfl, hb8⟩; have HI8 := Lib.hid (HI7.out.kept (below_new (below_new hb8))); clear hb8))
  (try simp only [World.size_alloc, Act.put, sA, sZ, sS])
  go_wp2_with (first | ((with_reducible refine aS 30 ?_); refine wpList_load_wanted (by rfl) 23 _ rfl (g1) (0) _ 23 (0, 0) _ (HI8.out.get 0 rfl) rfl .u8 z1 (arr_part _ _) Tryd.underlying23 rfl (num_i HL1.out) ?_) | ((with_reducible show Calls _ 12 _ _ _); go_at_call 12; refine (HMAY.out _ _ HZ1.out).mono ?_; rintro e w9 ⟨rfl, hb9⟩; have HI9 := Lib.hid (HI8.out.kept hb9); clear hb9))
  (try simp only [Exit.then])
  go_ret
  exact ⟨rfl, HI9.out.below⟩
end Go.Proofs.YtanjhngehfbpbaaDoor.Sl
