/- CurveGreat: it answers true. No condition. -/
import Derived.Test.YtanjhngehfbpbaaAgd
import Derived.Test.YtanjhngehfbpbaaOpen
import Derived.Test.YtanjhngehfbpbaaLig
namespace Go.Proofs.Ytanjhngehfbpbaa.Sl
open Go.RowKit Lm Fp Cu Rd Sc
set_option linter.unusedSimpArgs false
set_option linter.unusedSimpArgs false
set_option linter.unusedVariables false

theorem rowI_src {w : World} {a : Option Addr} {len cap : Nat} {zs : List Int} (h : RowI .u8 w a len cap zs) : Src w a len (zs.take len) ∧ bytes (zs.take len) ∧ len ≤ cap := by
  rcases h with ⟨rfl, rfl, rfl, rfl⟩ | ⟨x, rfl, hl, hm, hz, hc, hw⟩
  · exact ⟨⟨rfl, fun i hi => absurd hi (by omega)⟩, fun x hx => by simp at hx, Nat.le_refl _⟩
  · refine ⟨⟨by simp; omega, fun i hi => ⟨x, rfl, ?_⟩⟩, fun y hy => wf_u8 (hw y (List.mem_of_mem_take hy)), hl⟩
    rw [hc i (by omega)]
    simp [List.getD, hi]
theorem srcL_new {w : World} {sb : Option Addr} {nb cb : Nat} {bs : List Int} (h : Src w sb nb bs) (hc : nb ≤ cb) : SrcL (w.alloc (.cells #[.slice sb nb cb] 24)) (some ⟨w.heap.size, 0, none⟩) 1 [bs] := csrcL_one h hc
theorem and255j (x : Nat) (hx : x < 9223372036854775808) : bits .and .i64 (x : Int) 255 = ((x % 256 : Nat) : Int) := by
  have e : x &&& 255 = x % 256 := Nat.and_two_pow_sub_one_eq_mod x 8
  have h1 : (BitVec.ofInt 64 (x : Int)).toNat = x := by rw [BitVec.ofInt_natCast, BitVec.toNat_ofNat]; exact Nat.mod_eq_of_lt (by omega)
  have h2 : (BitVec.ofInt 64 (255 : Int)).toNat = 255 := by decide
  show IntKind.i64.wrap ((BitVec.ofInt 64 (x : Int) &&& BitVec.ofInt 64 (255 : Int)).toNat : Int) = _
  rw [BitVec.toNat_and, h1, h2, e, IntKind.wrap_i64]
  omega
set_option maxRecDepth 100000 in
set_option maxHeartbeats 16000000 in
theorem great_any {ks bs : List Int} (a : Nat) (sb : Option Addr) (nb cb : Nat) (w : World) (hk : K32 ks a) (hs : Src w sb nb bs) (hc : nb ≤ cb) (hb : bytes bs) :
    Calls Try.prog 3 #[.agg (arr .u8 ks), .slice sb nb cb] w fun e w' => e = .returned (.bool true) ∧ Below w.heap.size w w' := by
  have HAL := Lib.hid (fun w => alive13_any w)
  by_cases hnb : nb ≤ 500
  rotate_left
  · have hgt : (500 : Int) < (nb : Int) := by omega
    have HS0 := Lib.hid (Blk.one w (arr .u8 ks) 23)
    clear hnb
    go_enter Try.func3, Try.ntmps3
    go_wp2_with (first | ((with_reducible show Calls _ 7 _ _ _); go_at_call 7; refine (HAL.out _).mono ?_; rintro e w1 ⟨rfl, hb1⟩; have HI1 := Lib.hid (HS0.out.kept hb1); clear hb1))
    (try simp only [Exit.then])
    go_ret
    exact ⟨rfl, HI1.out.below⟩
  have hgt : ¬ ((500 : Int) < (nb : Int)) := by omega
  have hl := hs.len
  have hf1 : ([bs] : List (List Int)).flatten = bs := by simp
  have hb1 : ∀ l ∈ ([bs] : List (List Int)), bytes l := by intro l h; simp only [List.mem_singleton] at h; subst h; exact hb
  have hsg := fun (u : World) (g : Nat) (h : SrcL u (some ⟨g, 0, none⟩) 1 [bs]) => csign_any a (some ⟨g, 0, none⟩) 1 1 [bs] u hk h hb1 (by rw [hf1, hl]; omega) (by decide)
  rw [hf1] at hsg
  have hgl := esign_len a bs
  have hgb := esign_bytes a bs
  have hpb := fun (u : World) => cpublic_any a u hk
  have hho := Ed.holds_sig a bs
  have hge : esign a bs = Ed.gsum (esignR a bs) (esignS a bs) Sc.q 0 := (Ed.gsum_zero _ _ _).symm
  have hgr := Ed.great_sum a bs bs (epub a)
  have hgs3 := (Ed.gsum_sig a bs).2.2
  have hgg : ∀ k, k < 32 → (esign a bs).getD (32 + k) 0 = ((esignS a bs / 256 ^ k % 256 : Nat) : Int) := fun k h => Ed.sig_get _ _ k h
  obtain ⟨R, hR⟩ : ∃ r, r = esignR a bs := ⟨_, rfl⟩
  obtain ⟨S, hS⟩ : ∃ r, r = esignS a bs := ⟨_, rfl⟩
  obtain ⟨Q, hQ⟩ : ∃ r, r = Sc.q := ⟨_, rfl⟩
  have hqg : ∀ k, k < 32 → Ed.qB.getD k 0 = ((Q / 256 ^ k % 256 : Nat) : Int) := fun k h => by rw [hQ]; exact Ed.qB_get k h
  rw [← hR, ← hS, ← hQ] at hge hgr hgs3
  rw [← hS] at hgg
  obtain ⟨PB, hPB⟩ : ∃ p, p = epub a := ⟨_, rfl⟩
  rw [← hPB] at hpb hho hgr
  obtain ⟨gs, hgs⟩ : ∃ g, g = esign a bs := ⟨_, rfl⟩
  rw [← hgs] at hsg hgl hgb hho hge hgg
  have hv := fun (hs : List Int) (h1 : hs.length = 64) (h2 : bytes hs) (u : World) (g : Nat) (zs : List Int) (h0 : K32 zs PB) (h : SrcL u (some ⟨g, 0, none⟩) 1 [bs]) => cverify_any (gs := hs) PB (some ⟨g, 0, none⟩) 1 1 [bs] u h0 h1 h2 h hb1 (by rw [hf1, hl]; omega) (by decide)
  rw [hf1] at hv
  have hv1 := hv gs hgl hgb
  rw [hho] at hv1
  have hgl2 := Ed.gsum_len R S Q 32
  have hv2 := hv (Ed.gsum R S Q 32) hgl2 hgs3
  rw [hgr] at hv2
  obtain ⟨qs, hqs⟩ : ∃ x, x = Ed.qB := ⟨_, rfl⟩
  have hqe : (#[.int .u8 237, .int .u8 211, .int .u8 245, .int .u8 92, .int .u8 26, .int .u8 99, .int .u8 18, .int .u8 88, .int .u8 214, .int .u8 156, .int .u8 247, .int .u8 162, .int .u8 222, .int .u8 249, .int .u8 222, .int .u8 20, .int .u8 0, .int .u8 0, .int .u8 0, .int .u8 0, .int .u8 0, .int .u8 0, .int .u8 0, .int .u8 0, .int .u8 0, .int .u8 0, .int .u8 0, .int .u8 0, .int .u8 0, .int .u8 0, .int .u8 0, .int .u8 16] : Array Value) = arr .u8 qs := by rw [hqs]; rfl
  have hql : qs.length = 32 := by rw [hqs]; rfl
  rw [← hqs] at hqg
  have HSG := Lib.hid hsg
  have HPUB := Lib.hid hpb
  have HV1 := Lib.hid hv1
  have HV2 := Lib.hid hv2
  have HGL := Lib.hid hgl
  have HGE := Lib.hid hge
  have HGG := Lib.hid hgg
  have HQG := Lib.hid hqg
  have HQE := Lib.hid hqe
  have HQL := Lib.hid hql
  have HGL2 := Lib.hid hgl2
  have HKL := Lib.hid hk.len
  have HSB := Lib.hid hs
  have HC := Lib.hid hc
  obtain ⟨zn, hzn⟩ : ∃ zs : List Int, zs = List.replicate 32 0 := ⟨_, rfl⟩
  have HZzn : Hid (∀ w, (zeroValue 23).run Try.prog w = .ok (.agg (arr .u8 zn)) w) := Lib.hid (by intro w; rw [hzn]; exact zero_num w)
  have HLzn : Hid (zn.length = 32) := Lib.hid (by rw [hzn]; rfl)
  obtain ⟨zs64, hzs64⟩ : ∃ zs : List Int, zs = List.replicate 64 0 := ⟨_, rfl⟩
  have HZzs64 : Hid (∀ w, (zeroValue 27).run Try.prog w = .ok (.agg (arr .u8 zs64)) w) := Lib.hid (by intro w; rw [hzs64]; exact zero_sig w)
  have HLzs64 : Hid (zs64.length = 64) := Lib.hid (by rw [hzs64]; rfl)
  have HS0 := Lib.hid (Blk.one w (arr .u8 ks) 23)
  clear hzn hzs64 hnb hl hf1 hb1 hsg hgl hgb hpb hho hge hgr hgs3 hgg hR hS hQ hqg hPB hgs hv hv1 hgl2 hv2 hqs hqe hql hk hs hc hb
  go_enter Try.func3, Try.ntmps3
  go_upto_region 4 with (first | ((with_reducible show Calls _ 7 _ _ _); go_at_call 7; refine (HAL.out _).mono ?_; rintro e w1 ⟨rfl, hb1⟩; have HI1 := Lib.hid (HS0.out.kept hb1); clear hb1))
  (try simp only [World.size_alloc, Act.put, List.setIfInBounds_toArray, List.set_cons_zero, List.set_cons_succ])
  go_upto_region 5 with (first | ((with_reducible show wpList _ _ _ (Oper.mk (some 21) _ _ _ _ _ :: _) _ _); refine wpList_load_part rfl 23 _ rfl (w.heap.size) 0 _ 23 (0, 0) _ (HI1.out.get 0 rfl) rfl .u8 ks (arr_part _ _) Try.underlying23 rfl (num_i HKL.out) ?_) | ((with_reducible show Calls _ 8 _ _ _); go_at_call 8; refine (HSG.out _ _ (srcL_new (HSB.out.below HI1.out.below) HC.out)).mono ?_; rintro e w2 ⟨rfl, hb2⟩; have HI2 := Lib.hid (HI1.out.kept (below_new hb2)); clear hb2) | ((with_reducible show wpList _ _ _ (Oper.mk (some 6) _ _ _ _ _ :: _) _ _); refine wpList_alloc_row rfl 27 rfl _ (HZzs64.out _) ?_; have HI3 := Lib.hid (HI2.out.alloc (arr .u8 zs64) 27); generalize w2.heap.size = g6 at HI3 ⊢; generalize w2.alloc (.cells (arr .u8 zs64) 27) = w3 at HI3 ⊢) | ((with_reducible show wpList _ _ _ (Oper.mk none (Op.store _ (Operand.tmp 6) _) _ _ _ _ :: _) _ _); refine wpList_store_whole rfl 27 _ _ rfl (g6) _ _ 27 (HI3.out.get 1 rfl) rfl rfl (arr_len2 _ _ HGL.out HLzs64.out) (sig_s HGL.out) (all_arr _ _) ?_; intro w4 hb4 hk4 hz4; have HI4 := Lib.hid (HI3.out.put 1 rfl hk4 hb4); clear hb4 hk4 hz4))
  (try simp only [World.size_alloc, Act.put, List.setIfInBounds_toArray, List.set_cons_zero, List.set_cons_succ])
  go_upto_region 6 with fail
  (try simp only [World.size_alloc, Act.put, List.setIfInBounds_toArray, List.set_cons_zero, List.set_cons_succ])
  rw [HQE.out]
  clear HQE
  have HI5 := Lib.hid (HI4.out.alloc (arr .u8 qs) 5)
  generalize w4.heap.size = g7 at HI5 ⊢
  generalize w4.alloc (.cells (arr .u8 qs) 5) = w5 at HI5 ⊢
  go_upto_region 8 with (first | ((with_reducible show wpList _ _ _ (Oper.mk (some 26) _ _ _ _ _ :: _) _ _); refine wpList_load_part rfl 27 _ rfl (g6) 0 _ 27 (0, 0) _ (HI5.out.get 1 rfl) rfl .u8 gs (arr_part _ _) Try.underlying27 rfl (sig_i HGL.out) ?_) | ((with_reducible show wpList _ _ _ (Oper.mk (some 8) _ _ _ _ _ :: _) _ _); refine wpList_alloc_row rfl 27 rfl _ (HZzs64.out _) ?_; have HI6 := Lib.hid (HI5.out.alloc (arr .u8 zs64) 27); generalize w5.heap.size = g8 at HI6 ⊢; generalize w5.alloc (.cells (arr .u8 zs64) 27) = w6 at HI6 ⊢) | ((with_reducible show wpList _ _ _ (Oper.mk none (Op.store _ (Operand.tmp 8) _) _ _ _ _ :: _) _ _); refine wpList_store_whole rfl 27 _ _ rfl (g8) _ _ 27 (HI6.out.get 3 rfl) rfl rfl (arr_len2 _ _ HGL.out HLzs64.out) (sig_s HGL.out) (all_arr _ _) ?_; intro w7 hb7 hk7 hz7; have HI7 := Lib.hid (HI6.out.put 3 rfl hk7 hb7); clear hb7 hk7 hz7))
  (try simp only [World.size_alloc, Act.put, List.setIfInBounds_toArray, List.set_cons_zero, List.set_cons_succ])
  go_wp2_with fail
  go_loopw [9, 10] (fun cv jv wr => ∃ k : Nat, k ≤ 32 ∧ cv = .int .i64 ((Ed.gcar S Q k : Nat) : Int) ∧ jv = .int .i64 (k : Int) ∧ Blk w wr [(w.heap.size, arr .u8 ks, 23), (g6, arr .u8 gs, 27), (g7, arr .u8 qs, 5), (g8, arr .u8 (Ed.gsum R S Q k), 27)]) (fun _ jv _ => 32 - (intOf jv).toNat)
  case atStart => exact ⟨0, Nat.zero_le _, by rw [Ed.gcar_zero]; rfl, rfl, by rw [← HGE.out]; exact HI7.out⟩
  clear HI7
  case round =>
  obtain ⟨k, hk, rfl, rfl, hB⟩ := hrel
  by_cases hlt : k < 32
  · have q0 := arr_get' (hB.get 1 rfl) (32 + k) (by rw [HGL.out]; omega)
    have q1 := arr_get' (hB.get 2 rfl) k (by rw [HQL.out]; exact hlt)
    have q2 := arr_get' (hB.get 3 rfl) (32 + k) (by rw [Ed.gsum_len]; omega)
    have q3 := free_blk (hB.get 3 rfl) (32 + k)
    rw [HGG.out k hlt] at q0
    rw [HQG.out k hlt] at q1
    have hset := Ed.gsum_set R S Q k hlt
    obtain ⟨n1, n2⟩ := Ed.gnext S Q k
    rw [n2] at hset
    have hc1 := Ed.gcar_le S Q k
    generalize (Ed.gsum R S Q k).getD (32 + k) 0 = y at q2
    have hs1 : S / 256 ^ k % 256 < 256 := Nat.mod_lt _ (by decide)
    have hs2 : Q / 256 ^ k % 256 < 256 := Nat.mod_lt _ (by decide)
    generalize S / 256 ^ k % 256 = s at q0 hset n1 hs1
    generalize Q / 256 ^ k % 256 = t at q1 hset n1 hs2
    have ha := and255j (Ed.gcar S Q k + s + t) (by omega)
    generalize Ed.gcar S Q k = c at hset n1 ha hc1 ⊢
    rw [Int.natCast_add, Int.natCast_add] at ha
    have hb1 := hB.cell 3 rfl (32 + k) (.int .u8 (bits .and .i64 ((c : Int) + (s : Int) + (t : Int)) 255 % 256))
    have e2 : (arr .u8 (Ed.gsum R S Q k)).setIfInBounds (32 + k) (.int .u8 (bits .and .i64 ((c : Int) + (s : Int) + (t : Int)) 255 % 256)) = arr .u8 (Ed.gsum R S Q (k + 1)) := by rw [ha, show ((((c + s + t) % 256 : Nat) : Int) % 256) = (((c + s + t) % 256 : Nat) : Int) by omega, arr_set, hset]
    have HQ1 := Lib.hid (hb1.cast (l' := [(w.heap.size, arr .u8 ks, 23), (g6, arr .u8 gs, 27), (g7, arr .u8 qs, 5), (g8, arr .u8 (Ed.gsum R S Q (k + 1)), 27)]) (by rw [← e2]; rfl))
    have HN1 := Lib.hid n1
    clear hb1 e2 hB ha hset n1 n2
    go_wp2_with fail
    go_region
    go_wp2_with fail
    go_roundw
    case rel => exact ⟨k + 1, by omega, by rw [HN1.out]; go_num, by go_num, HQ1.out.drew⟩
    case measure => simp [intOf]; omega
  · obtain rfl : k = 32 := by omega
    have HJ := Lib.hid hB
    clear hB
    obtain ⟨hh, hhe⟩ : ∃ x, x = Ed.gsum R S Q 32 := ⟨_, rfl⟩
    rw [← hhe] at HJ HV2 HGL2
    generalize Ed.gcar S Q 32 = cc
    clear hhe
    go_upto_region 15 with (first | ((with_reducible show wpList _ _ _ (Oper.mk (some 52) _ _ _ _ _ :: _) _ _); refine wpList_load_part rfl 23 _ rfl (w.heap.size) 0 _ 23 (0, 0) _ (HJ.out.get 0 rfl) rfl .u8 ks (arr_part _ _) Try.underlying23 rfl (num_i HKL.out) ?_) | ((with_reducible show Calls _ 9 _ _ _); go_at_call 9; refine (HPUB.out _).mono ?_; rintro e w8 ⟨z8, rfl, h8, hb8⟩; have HZ8 := Lib.hid h8; have HL8 := Lib.hid h8.len; have HI8 := Lib.hid (HJ.out.kept hb8); clear h8 hb8) | ((with_reducible show wpList _ _ _ (Oper.mk (some 11) _ _ _ _ _ :: _) _ _); refine wpList_alloc_row rfl 23 rfl _ (HZzn.out _) ?_; have HI9 := Lib.hid (HI8.out.alloc (arr .u8 zn) 23); generalize w8.heap.size = g11 at HI9 ⊢; generalize w8.alloc (.cells (arr .u8 zn) 23) = w9 at HI9 ⊢) | ((with_reducible show wpList _ _ _ (Oper.mk none (Op.store _ (Operand.tmp 11) _) _ _ _ _ :: _) _ _); refine wpList_store_whole rfl 23 _ _ rfl (g11) _ _ 23 (HI9.out.get 4 rfl) rfl rfl (arr_len2 _ _ HL8.out HLzn.out) (num_s HL8.out) (all_arr _ _) ?_; intro w10 hb10 hk10 hz10; have HI10 := Lib.hid (HI9.out.put 4 rfl hk10 hb10); clear hb10 hk10 hz10))
    (try simp only [World.size_alloc, Act.put, List.setIfInBounds_toArray, List.set_cons_zero, List.set_cons_succ])
    go_wp2_with (first | ((with_reducible show wpList _ _ _ (Oper.mk (some 54) _ _ _ _ _ :: _) _ _); refine wpList_load_part rfl 23 _ rfl (g11) 0 _ 23 (0, 0) _ (HI10.out.get 4 rfl) rfl .u8 z8 (arr_part _ _) Try.underlying23 rfl (num_i HL8.out) ?_) | ((with_reducible show wpList _ _ _ (Oper.mk (some 55) _ _ _ _ _ :: _) _ _); refine wpList_load_part rfl 27 _ rfl (g6) 0 _ 27 (0, 0) _ (HI10.out.get 1 rfl) rfl .u8 gs (arr_part _ _) Try.underlying27 rfl (sig_i HGL.out) ?_) | ((with_reducible show Calls _ 10 _ _ _); go_at_call 10; refine (HV1.out _ _ _ HZ8.out (srcL_new (HSB.out.below HI10.out.below) HC.out)).mono ?_; rintro e w11 ⟨rfl, hb11⟩; have HI11 := Lib.hid (HI10.out.kept (below_new hb11)); clear hb11; clear HV1) | ((with_reducible show wpList _ _ _ (Oper.mk (some 60) _ _ _ _ _ :: _) _ _); refine wpList_load_wanted (by rfl) 23 _ rfl (g11) (0) _ 23 (0, 0) _ (HI11.out.get 4 rfl) rfl .u8 z8 (arr_part _ _) Try.underlying23 rfl (num_i HL8.out) ?_) | ((with_reducible show wpList _ _ _ (Oper.mk (some 61) _ _ _ _ _ :: _) _ _); refine wpList_load_wanted (by rfl) 27 _ rfl (g8) (0) _ 27 (0, 0) _ (HI11.out.get 3 rfl) rfl .u8 hh (arr_part _ _) Try.underlying27 rfl (sig_i HGL2.out) ?_) | ((with_reducible show Calls _ 10 _ _ _); go_at_call 10; refine (HV2.out _ _ _ HZ8.out (srcL_new (HSB.out.below HI11.out.below) HC.out)).mono ?_; rintro e w12 ⟨rfl, hb12⟩; have HI12 := Lib.hid (HI11.out.kept (below_new hb12)); clear hb12; clear HV2))
    (try simp only [Exit.then])
    go_ret
    exact ⟨rfl, HI12.out.below⟩
end Go.Proofs.Ytanjhngehfbpbaa.Sl
