/- portcullislaw11: AeadMade. No condition beyond the arguments' own. -/
import Derived.Test.YtdaaigodpglnnaaAeI
import Derived.Deep.CutBlock
import Derived.Deep.DeepCutAuto
import Derived.Laws.CopyOwn
import Derived.StillTailTactics
namespace Go.Proofs.Ytdaaigodpglnnaa.Ae
open Go.RowKit Lm Po Ch

theorem msg_flat5 (beside c : List Int) : [beside, List.replicate (zr beside.length) 0, c, List.replicate (zr c.length) 0, le8 beside.length ++ le8 c.length].flatten = msg beside c := by
  simp only [List.flatten_cons, List.flatten_nil, List.append_nil, msg]
theorem seal_take (key nonce plain beside : List Int) : (seal' key nonce plain beside).take plain.length = turn key 1 nonce plain := by
  rw [seal', ← turn_len key 1 nonce plain, List.take_left]
theorem seal_drop (key nonce plain beside : List Int) : (seal' key nonce plain beside).drop plain.length = tag key nonce (turn key 1 nonce plain) beside := by
  rw [seal', ← turn_len key 1 nonce plain, List.drop_left]
theorem byte_of' (n i : Nat) (hn : n ≤ 2199023255552) : IntKind.u8.wrap (bits .and .i64 ((n : Int) / 2 ^ (8 * i)) 255) = ((n / 256 ^ i % 256 : Nat) : Int) := by
  have e1 : (n : Int) / 2 ^ (8 * i) = ((n / 256 ^ i : Nat) : Int) := by
    rw [show (256 : Nat) ^ i = 2 ^ (8 * i) by rw [Nat.pow_mul], Int.natCast_ediv, Int.natCast_pow]
    rfl
  have hlt : n / 256 ^ i < 9223372036854775808 := Nat.lt_of_le_of_lt (Nat.div_le_self _ _) (by omega)
  rw [e1, Po.and255 _ hlt, IntKind.wrap_u8]
  omega
theorem two_rows (f g : Nat → Nat) (i : Nat) (h : i < 8) :
    ((nar (upto f 8 i) ++ nar (upto g 8 i)).set i ((f i : Nat) : Int)).set (8 + i) ((g i : Nat) : Int) = nar (upto f 8 (i + 1)) ++ nar (upto g 8 (i + 1)) := by
  rw [List.set_append_left _ _ (by rw [nar_len, upto_len]; exact h), ← nar_set, upto_set, List.set_append_right _ _ (by rw [nar_len, upto_len]; omega), nar_len, upto_len, Nat.add_sub_cancel_left, ← nar_set, upto_set]

set_option maxRecDepth 100000 in
set_option maxHeartbeats 4000000 in
theorem made_any (key nonce : List Int) (hk : key.length = 32) (hn : nonce.length = 12) (bk : bytes key) (bn : bytes nonce) (pa pb : Option Addr) (lp cp lb cb : Nat) (zp zb : List Int) (w : World) (h1 : RowI .u8 w pa lp cp zp) (h2 : RowI .u8 w pb lb cb zb) :
    Calls Try.prog 8 #[.agg (arr .u8 key), .agg (arr .u8 nonce), .slice pa lp cp, .slice pb lb cb] w fun e w' => e = .returned (.bool true) ∧ Below w.heap.size w w' := by
  obtain ⟨hs1, bs1, k1⟩ := h1.src
  obtain ⟨hs2, bs2, k2⟩ := h2.src
  have S0 := B2.start w (arr .u8 key) (arr .u8 nonce) 35 37
  have HS0 := Lib.hid S0
  clear h1 h2
  generalize zp.take lp = xs at hs1 bs1
  generalize zb.take lb = ys at hs2 bs2
  by_cases e0 : (500 : Int) < (lp : Int)
  · clear hs1 bs1 k1 hs2 bs2 k2 S0 hk hn bk bn
    go_enter Try.func8, Try.ntmps8
    go_wp2_with (first | ((with_reducible show Calls _ _ #[] _ _); go_at_call 18; refine (alive11_any _).mono ?_; rintro e w1 ⟨rfl, hb1⟩; have HB1 := Lib.hid (HS0.out.after hb1);  clear hb1))
    go_ret
    exact ⟨rfl, HB1.out.below⟩
  by_cases e1 : (300 : Int) < (lb : Int)
  · clear hs1 bs1 k1 hs2 bs2 k2 S0 hk hn bk bn
    go_enter Try.func8, Try.ntmps8
    go_wp2_with (first | ((with_reducible show Calls _ _ #[] _ _); go_at_call 18; refine (alive11_any _).mono ?_; rintro e w1 ⟨rfl, hb1⟩; have HB1 := Lib.hid (HS0.out.after hb1);  clear hb1))
    go_ret
    exact ⟨rfl, HB1.out.below⟩
  have hpl := hs1.len
  have hyl := hs2.len
  have MS := fun w s1 s2 => seal_any key nonce xs ys pa pb lp lb cp cb w hk hn bk bn s1 s2 bs2 (by omega) (by omega) k2
  have MT := fun w hs => Ch.turn_any pa lp cp xs key nonce 1 w hs hk hn bk bn (by omega)
  have MB := fun w => block_any key nonce 0 w hk hn bk bn
  rw [show (0 : Int) % 4294967296 = 0 from rfl] at MB
  have hst1 := seal_take key nonce xs ys
  have hsd1 := seal_drop key nonce xs ys
  obtain ⟨sl, hsl⟩ : ∃ x, x = seal' key nonce xs ys := ⟨_, rfl⟩
  have hsll : sl.length = lp + 16 := by rw [hsl, seal_len, hpl]
  obtain ⟨tx, htx⟩ : ∃ x, x = turn key 1 nonce xs := ⟨_, rfl⟩
  have htl : tx.length = lp := by rw [htx, turn_len, hpl]
  have htb : bytes tx := by rw [htx]; exact bytes_turn _ _ _ _
  obtain ⟨tg, htg⟩ : ∃ x, x = tag key nonce tx ys := ⟨_, rfl⟩
  have tgl : tg.length = 16 := by rw [htg, tag_len]
  rw [← htx, ← hsl, hpl] at hst1
  rw [← htx, ← htg, ← hsl, hpl] at hsd1
  rw [← hsl] at MS
  rw [← htx] at MT
  obtain ⟨bl, hbl'⟩ : ∃ x, x = block key 0 nonce := ⟨_, rfl⟩
  have bll : bl.length = 64 := by rw [hbl', block_len]
  have blb : bytes bl := by rw [hbl']; exact bytes_block _ _ _
  rw [← hbl'] at MB
  obtain ⟨Mm, hM⟩ : ∃ x, x = msg ys tx := ⟨_, rfl⟩
  have mb : bytes Mm := by rw [hM]; exact bytes_msg bs2 htb
  have ml : Mm.length ≤ 1099511627776 := by rw [hM]; have := msg_len ys tx; omega
  have hmsg := msg_flat5 ys tx
  rw [hyl, htl, ← hM] at hmsg
  obtain ⟨k32, hk32⟩ : ∃ x, x = bl.take 32 := ⟨_, rfl⟩
  have k32l : k32.length = 32 := by rw [hk32, List.length_take]; omega
  have k32b : bytes k32 := by rw [hk32]; exact bytes_take blb 32
  have htg2 : nar (tagP (toN k32) (toN Mm)) = tg := by rw [htg, tag, hk32, hbl', hM]
  obtain ⟨y1, hy1⟩ : ∃ x, x = zr lb := ⟨_, rfl⟩
  obtain ⟨y2, hy2⟩ : ∃ x, x = zr lp := ⟨_, rfl⟩
  have hy1' : y1 < 16 := by rw [hy1]; exact Nat.mod_lt _ (by decide)
  have hy2' : y2 < 16 := by rw [hy2]; exact Nat.mod_lt _ (by decide)
  have er1 : (IntKind.i64.wrap (16 - Int.tmod (lb : Int) 16)).tmod 16 = (y1 : Int) := by
    have t1 : Int.tmod (lb : Int) 16 = (lb : Int) % 16 := Int.tmod_eq_emod_of_nonneg (by omega)
    have t2 : Int.tmod (16 - (lb : Int) % 16) 16 = (16 - (lb : Int) % 16) % 16 := Int.tmod_eq_emod_of_nonneg (by omega)
    rw [t1, IntWalk.i64_in _ (by omega), t2, hy1]
    unfold zr
    omega
  have er2 : (IntKind.i64.wrap (16 - Int.tmod (lp : Int) 16)).tmod 16 = (y2 : Int) := by
    have t1 : Int.tmod (lp : Int) 16 = (lp : Int) % 16 := Int.tmod_eq_emod_of_nonneg (by omega)
    have t2 : Int.tmod (16 - (lp : Int) % 16) 16 = (16 - (lp : Int) % 16) % 16 := Int.tmod_eq_emod_of_nonneg (by omega)
    rw [t1, IntWalk.i64_in _ (by omega), t2, hy2]
    unfold zr
    omega
  obtain ⟨z1, hz1⟩ : ∃ x : List Int, x = List.replicate y1 0 := ⟨_, rfl⟩
  obtain ⟨z2, hz2⟩ : ∃ x : List Int, x = List.replicate y2 0 := ⟨_, rfl⟩
  obtain ⟨z16, hz16⟩ : ∃ x : List Int, x = zeros 16 := ⟨_, rfl⟩
  have zt1 : z16.take y1 = z1 := by rw [hz16, hz1, zeros, List.take_replicate, Nat.min_eq_left (by omega)]
  have zt2 : z16.take y2 = z2 := by rw [hz16, hz2, zeros, List.take_replicate, Nat.min_eq_left (by omega)]
  have z16l : z16.length = 16 := by rw [hz16]; simp [zeros]
  obtain ⟨n16, hn16⟩ : ∃ x : List Int, x = le8 lb ++ le8 lp := ⟨_, rfl⟩
  have n16l : n16.length = 16 := by rw [hn16, List.length_append, le8_len, le8_len]
  rw [← hy1, ← hy2, ← hz1, ← hz2, ← hn16] at hmsg
  have M5 := fun sa n cap w hs hn => sum_any sa n cap [ys, z1, tx, z2, n16] (toN k32) (toN Mm) w hs (by rw [toN_nar mb, hmsg]) (toN_lt mb) (by rw [toN_len]; exact k32l) (toN_lt k32b) (by rw [hmsg]; omega) hn
  rw [toN_nar k32b, htg2] at M5
  obtain ⟨F1, hF1⟩ : ∃ F : Nat → Nat, F = fun i => lb / 256 ^ i % 256 := ⟨_, rfl⟩
  obtain ⟨F2, hF2⟩ : ∃ F : Nat → Nat, F = fun i => lp / 256 ^ i % 256 := ⟨_, rfl⟩
  have hb1 : ∀ i, IntKind.u8.wrap (bits .and .i64 ((lb : Int) / 2 ^ (8 * i)) 255) = ((F1 i : Nat) : Int) := fun i => by rw [hF1]; exact byte_of' lb i (by omega)
  have hb2 : ∀ i, IntKind.u8.wrap (bits .and .i64 ((lp : Int) / 2 ^ (8 * i)) 255) = ((F2 i : Nat) : Int) := fun i => by rw [hF2]; exact byte_of' lp i (by omega)
  obtain ⟨nf, hnf⟩ : ∃ f : Nat → List Int, f = fun i => nar (upto F1 8 i) ++ nar (upto F2 8 i) := ⟨_, rfl⟩
  have nf0 : z16 = nf 0 := by rw [hnf, hz16]; show zeros 16 = nar (upto F1 8 0) ++ nar (upto F2 8 0); rw [upto_zero, upto_zero, nar_zeros]; rfl
  have nf8 : nf 8 = n16 := by rw [hnf, hn16, le8, le8, dig_upto, dig_upto, hF1, hF2]
  have nfl : ∀ i, (nf i).length = 16 := by intro i; rw [hnf]; show (nar (upto F1 8 i) ++ nar (upto F2 8 i)).length = 16; rw [List.length_append, nar_len, nar_len, upto_len, upto_len]
  have nfs : ∀ i, i < 8 → ((nf i).set i ((F1 i : Nat) : Int)).set (8 + i) ((F2 i : Nat) : Int) = nf (i + 1) := by rw [hnf]; exact fun i hi => two_rows F1 F2 i hi
  have hmk : ∀ w : World, (Instr.makeSlice 22 (.int .i64 16) (.int .i64 16)).run Try.prog w = .ok (.slice (some ⟨w.heap.size, 0, none⟩) 16 16) (w.alloc (.cells (row8 z16 []) 5)) := by rw [hz16]; exact mk8 16 (by decide)
  obtain ⟨zt, hzt⟩ : ∃ zs : List Int, zs = List.replicate 16 0 := ⟨_, rfl⟩
  have hyt : ∀ w, (zeroValue 51).run Try.prog w = .ok (.agg (arr .u8 zt)) w := by intro w; rw [hzt]; exact zeroTag w
  have hztl : zt.length = 16 := by rw [hzt]; rfl
  obtain ⟨zb, hzb⟩ : ∃ zs : List Int, zs = List.replicate 32 0 := ⟨_, rfl⟩
  have hyb : ∀ w, (zeroValue 35).run Try.prog w = .ok (.agg (arr .u8 zb)) w := by intro w; rw [hzb]; exact zero32' w
  have hzbl : zb.length = 32 := by rw [hzb]; rfl
  obtain ⟨zg, hzg⟩ : ∃ zs : List Int, zs = List.replicate 64 0 := ⟨_, rfl⟩
  have hyg : ∀ w, (zeroValue 47).run Try.prog w = .ok (.agg (arr .u8 zg)) w := by intro w; rw [hzg]; exact zero64 w
  have hzgl : zg.length = 64 := by rw [hzg]; rfl
  obtain ⟨cs, hcs⟩ : ∃ cs, cs = k32.map (Value.int .u8) := ⟨_, rfl⟩
  have csl : cs.length = 32 := by rw [hcs, List.length_map, k32l]
  have cso : ∀ v ∈ cs, v.oneCell' = true := by rw [hcs]; intro v hv; obtain ⟨y, _, rfl⟩ := List.mem_map.1 hv; rfl
  have hsp : (Go.splice (zb.map (Value.int .u8)) 0 cs).toArray = arr .u8 k32 := by
    unfold Go.splice arr
    rw [List.take_zero, List.nil_append, Nat.zero_add, csl, List.drop_of_length_le (by rw [List.length_map, hzbl]; exact Nat.le_refl _), List.append_nil, hcs]
  have hrg : ∀ (w' : World) (g : Nat), w'.heap[g]? = some (.cells (arr .u8 bl) 47 (0, 0)) → ∀ j v, cs[j]? = some v → w'.cell? (Addr.add ⟨g, 0, none⟩ j) = some v := by
    intro w' g hg j v hj
    have := range_part hg 0 cs (by rw [csl, List.drop_zero, arr_toList, ← List.map_take, ← hk32, hcs])
    have e : Addr.add ⟨g, 0, none⟩ j = ⟨g, 0 + j, none⟩ := by
      unfold Addr.add
      split
      · rename_i h0; rw [h0]
      · rfl
    rw [e]
    exact this j v hj
  obtain ⟨st, hst⟩ : ∃ x, x = strOfNums tx := ⟨_, rfl⟩
  obtain ⟨sg, hsg⟩ : ∃ x, x = strOfNums tg := ⟨_, rfl⟩
  have HX := Lib.hid (hs1.below S0.below)
  have HY := Lib.hid (hs2.below S0.below)
  have HK := Lib.hid hk
  have HN := Lib.hid hn
  have HMS := Lib.hid MS
  have HMT := Lib.hid MT
  have HMB := Lib.hid MB
  have HM5 := Lib.hid M5
  have HSL := Lib.hid hsll
  have HSTK := Lib.hid hst1
  have HSDR := Lib.hid hsd1
  have HTL := Lib.hid htl
  have TGL := Lib.hid tgl
  have BLL := Lib.hid bll
  have K32L := Lib.hid k32l
  have ZT1 := Lib.hid zt1
  have ZT2 := Lib.hid zt2
  have Z16 := Lib.hid z16l
  have N16L := Lib.hid n16l
  have HB1' := Lib.hid hb1
  have HB2' := Lib.hid hb2
  have NF0 := Lib.hid nf0
  have NF8 := Lib.hid nf8
  have NFL := Lib.hid nfl
  have NFS := Lib.hid nfs
  have HYT := Lib.hid hyt
  have HZT := Lib.hid hztl
  have HYB := Lib.hid hyb
  have HZB := Lib.hid hzbl
  have HYG := Lib.hid hyg
  have HZG := Lib.hid hzgl
  have CSL := Lib.hid csl
  have CSO := Lib.hid cso
  have HSP := Lib.hid hsp
  have HRG := Lib.hid hrg
  have HST := Lib.hid hst.symm
  have HSG := Lib.hid hsg.symm
  have KA := Lib.hid k2
  have HMK := Lib.hid hmk
  have ER1 := Lib.hid er1
  have ER2 := Lib.hid er2
  clear MS MT MB M5 hst1 hsd1 hsl hsll htx htl htb htg tgl hbl' bll blb hM mb ml hmsg hk32 k32l k32b htg2 hy1 hy2 hz1 hz2 hz16 zt1 zt2 z16l hn16 n16l hF1 hF2 hb1 hb2 hnf nf0 nf8 nfl nfs hmk hzt hyt hztl hzb hyb hzbl hzg hyg hzgl hcs csl cso hsp hrg hst hsg hpl hyl hs1 bs1 k1 hs2 bs2 k2 S0 hk hn bk bn er1 er2
  go_enter Try.func8, Try.ntmps8
  go_upto_region 6 with (first | ((with_reducible show Calls _ _ #[] _ _); go_at_call 18; refine (alive11_any _).mono ?_; rintro e w1 ⟨rfl, hb1⟩; have HB1 := Lib.hid (HS0.out.after hb1); have HX1 := Lib.hid (HX.out.below hb1); have HY1 := Lib.hid (HY.out.below hb1); clear hb1) | ((with_reducible show wpList _ _ _ (Oper.mk (some 32) _ _ _ _ _ :: _) _ _); refine wpList_load_part rfl 35 _ rfl w.heap.size 0 _ 35 (0, 0) _ HB1.out.b0 rfl .u8 key (arr_part _ _) Try.underlying35 rfl (by rw [HK.out]; exact size32) ?_) | ((with_reducible show wpList _ _ _ (Oper.mk (some 33) _ _ _ _ _ :: _) _ _); refine wpList_load_part rfl 37 _ rfl (w.heap.size + 1) 0 _ 37 (0, 0) _ HB1.out.b1 rfl .u8 nonce (arr_part _ _) Try.underlying37 rfl (by rw [HN.out]; exact size12) ?_) | ((with_reducible show Calls _ _ #[.agg _, .agg _, _, _] w1 _); go_at_call 19; refine (HMS.out _ HX1.out HY1.out).mono ?_; rintro e w2 ⟨v2, rfl, ho2, hb2⟩; obtain ⟨s2, c2, hv2, hc2, -, hs2, -⟩ := ho2.form; rw [HSL.out] at hv2 hc2 hs2; subst hv2; have HB2 := Lib.hid (HB1.out.after hb2); have HS2 := Lib.hid hs2; have HC2 := Lib.hid hc2; have HX2 := Lib.hid (HX1.out.below hb2); have HY2 := Lib.hid (HY1.out.below hb2); clear ho2 hb2 hc2 hs2) | ((with_reducible show wpList _ _ _ (Oper.mk (some 37) _ _ _ _ _ :: _) _ _); refine wpList_load_part rfl 35 _ rfl w.heap.size 0 _ 35 (0, 0) _ HB2.out.b0 rfl .u8 key (arr_part _ _) Try.underlying35 rfl (by rw [HK.out]; exact size32) ?_) | ((with_reducible show wpList _ _ _ (Oper.mk (some 38) _ _ _ _ _ :: _) _ _); refine wpList_load_part rfl 37 _ rfl (w.heap.size + 1) 0 _ 37 (0, 0) _ HB2.out.b1 rfl .u8 nonce (arr_part _ _) Try.underlying37 rfl (by rw [HN.out]; exact size12) ?_) | ((with_reducible show Calls _ _ #[.agg _, .int _ _, .agg _, _] w2 _); go_at_call 24; refine (HMT.out _ HX2.out).mono ?_; rintro e wq ⟨v3, rfl, ho3, hb3⟩; obtain ⟨s3, c3, hv3, hc3, -, hs3, -⟩ := ho3.form; rw [HTL.out] at hv3 hc3 hs3; subst hv3; have HB3 := Lib.hid (HB2.out.after hb3); have HT3 := Lib.hid hs3; have HC3 := Lib.hid hc3; have HS3 := Lib.hid (HS2.out.below hb3); have HY3 := Lib.hid (HY2.out.below hb3); clear ho3 hb3 hs3 hc3))
  (try simp only [Act.put])
  have hc2 : (lp : Int) ≤ (c2 : Int) := by have := HC2.out; omega
  have hlp16 : (lp : Int) ≤ (lp : Int) + 16 := by omega
  have nw : IntKind.i64.wrap ((lp : Int) + 16) = (lp : Int) + 16 := IntWalk.i64_in _ (by omega)
  have HB0 := Lib.hid (show Below wq.heap.size wq wq.drew from ⟨rfl, rfl, rfl, Nat.le_refl _, fun _ _ => rfl⟩)
  refine wp_region_held_drew (S := (fun w' => Go.RowKit.Below wq.heap.size wq w')) (by kernel_rfl) (HB0.out) (fun hHeld => ?_)
  refine wpAnyH_take (i := 0) (oi := ({ dst := some 41, op := Op.move (Operand.tmp 10), type := 22, pos := "more.go:20", after := #[], guard := none } : Oper)) (v := ?v1) rfl (by kernel_rfl) (by kernel_rfl) (by kernel_rfl) (fun _ _ _ h => h) (Or.inl ⟨by rfl, ?hy1⟩) (by assumption) ?rest1
  case hy1 => (intro w hSw; (try dsimp only at hSw); go_simp; try (with_reducible rfl))
  (try simp only [Act.put, List.setIfInBounds_toArray, List.set_cons_zero, List.set_cons_succ])
  refine wpAnyH_take (i := 1) (oi := ({ dst := some 42, op := Op.call { callee := Callee.builtin Builtin.len, args := #[Operand.tmp 41], argTypes := #[22] }, type := 3, pos := "more.go:20", after := #[{ on := 0, ground := Ground.data }], guard := none } : Oper)) (v := ?v2) rfl (by kernel_rfl) (by kernel_rfl) (by kernel_rfl) (fun _ _ _ h => h) (Or.inl ⟨by rfl, ?hy2⟩) (by assumption) ?rest2
  case hy2 => (intro w hSw; (try dsimp only at hSw); go_simp; try (with_reducible rfl))
  (try simp only [Act.put, List.setIfInBounds_toArray, List.set_cons_zero, List.set_cons_succ])
  refine wpAnyH_take (i := 2) (oi := ({ dst := some 43, op := Op.move (Operand.tmp 2), type := 22, pos := "more.go:20", after := #[], guard := none } : Oper)) (v := ?v3) rfl (by kernel_rfl) (by kernel_rfl) (by kernel_rfl) (fun _ _ _ h => h) (Or.inl ⟨by rfl, ?hy3⟩) (by assumption) ?rest3
  case hy3 => (intro w hSw; (try dsimp only at hSw); go_simp; try (with_reducible rfl))
  (try simp only [Act.put, List.setIfInBounds_toArray, List.set_cons_zero, List.set_cons_succ])
  refine wpAnyH_take (i := 3) (oi := ({ dst := some 44, op := Op.call { callee := Callee.builtin Builtin.len, args := #[Operand.tmp 43], argTypes := #[22] }, type := 3, pos := "more.go:20", after := #[{ on := 2, ground := Ground.data }], guard := none } : Oper)) (v := ?v4) rfl (by kernel_rfl) (by kernel_rfl) (by kernel_rfl) (fun _ _ _ h => h) (Or.inl ⟨by rfl, ?hy4⟩) (by assumption) ?rest4
  case hy4 => (intro w hSw; (try dsimp only at hSw); go_simp; try (with_reducible rfl))
  (try simp only [Act.put, List.setIfInBounds_toArray, List.set_cons_zero, List.set_cons_succ])
  refine wpAnyH_take (i := 4) (oi := ({ dst := some 45, op := Op.binOp BinOp.add 3 (Operand.tmp 44) (Operand.const (Value.int IntKind.i64 16)) 3, type := 3, pos := "more.go:20", after := #[{ on := 3, ground := Ground.data }], guard := none } : Oper)) (v := ?v5) rfl (by kernel_rfl) (by kernel_rfl) (by kernel_rfl) (fun _ _ _ h => h) (Or.inl ⟨by rfl, ?hy5⟩) (by assumption) ?rest5
  case hy5 => (intro w hSw; (try dsimp only at hSw); go_simp; try (with_reducible rfl))
  (try simp only [Act.put, List.setIfInBounds_toArray, List.set_cons_zero, List.set_cons_succ])
  refine wpAnyH_take (i := 5) (oi := ({ dst := some 46, op := Op.binOp BinOp.neq 3 (Operand.tmp 42) (Operand.tmp 45) 3, type := 4, pos := "more.go:20", after := #[{ on := 1, ground := Ground.data }, { on := 4, ground := Ground.data }], guard := none } : Oper)) (v := (.bool false)) rfl (by kernel_rfl) (by kernel_rfl) (by kernel_rfl) (fun _ _ _ h => h) (Or.inl ⟨by rfl, ?hy6⟩) (by assumption) ?rest6
  case hy6 => (intro w hSw; (try dsimp only at hSw); go_simp; try (with_reducible rfl))
  (try simp only [Act.put, List.setIfInBounds_toArray, List.set_cons_zero, List.set_cons_succ])
  refine wpAnyH_take (i := 6) (oi := ({ dst := some 47, op := Op.move (Operand.tmp 46), type := 4, pos := "more.go:20", after := #[{ on := 5, ground := Ground.data }], guard := none } : Oper)) (v := ?v7) rfl (by kernel_rfl) (by kernel_rfl) (by kernel_rfl) (fun _ _ _ h => h) (Or.inl ⟨by rfl, ?hy7⟩) (by assumption) ?rest7
  case hy7 => (intro w hSw; (try dsimp only at hSw); go_simp; try (with_reducible rfl))
  (try simp only [Act.put, List.setIfInBounds_toArray, List.set_cons_zero, List.set_cons_succ])
  refine wpAnyH_take (i := 7) (oi := ({ dst := some 48, op := Op.move (Operand.tmp 10), type := 22, pos := "more.go:20", after := #[{ on := 6, ground := Ground.guard }], guard := some (6, false) } : Oper)) (v := ?v8) rfl (by kernel_rfl) (by kernel_rfl) (by kernel_rfl) (fun _ _ _ h => h) (Or.inl ⟨by rfl, ?hy8⟩) (by assumption) ?rest8
  case hy8 => (intro w hSw; (try dsimp only at hSw); go_simp; try (with_reducible rfl))
  (try simp only [Act.put, List.setIfInBounds_toArray, List.set_cons_zero, List.set_cons_succ])
  refine wpAnyH_take (i := 8) (oi := ({ dst := some 49, op := Op.move (Operand.tmp 2), type := 22, pos := "more.go:20", after := #[{ on := 6, ground := Ground.guard }], guard := some (6, false) } : Oper)) (v := ?v9) rfl (by kernel_rfl) (by kernel_rfl) (by kernel_rfl) (fun _ _ _ h => h) (Or.inl ⟨by rfl, ?hy9⟩) (by assumption) ?rest9
  case hy9 => (intro w hSw; (try dsimp only at hSw); go_simp; try (with_reducible rfl))
  (try simp only [Act.put, List.setIfInBounds_toArray, List.set_cons_zero, List.set_cons_succ])
  refine wpAnyH_take (i := 9) (oi := ({ dst := some 50, op := Op.call { callee := Callee.builtin Builtin.len, args := #[Operand.tmp 49], argTypes := #[22] }, type := 3, pos := "more.go:20", after := #[{ on := 8, ground := Ground.data }, { on := 6, ground := Ground.guard }], guard := some (6, false) } : Oper)) (v := ?v10) rfl (by kernel_rfl) (by kernel_rfl) (by kernel_rfl) (fun _ _ _ h => h) (Or.inl ⟨by rfl, ?hy10⟩) (by assumption) ?rest10
  case hy10 => (intro w hSw; (try dsimp only at hSw); go_simp; try (with_reducible rfl))
  (try simp only [Act.put, List.setIfInBounds_toArray, List.set_cons_zero, List.set_cons_succ])
  refine wpAnyH_take (i := 10) (oi := ({ dst := some 51, op := Op.slice 22 (Operand.tmp 48) none (some (Operand.tmp 50)) none, type := 22, pos := "more.go:20", after := #[{ on := 7, ground := Ground.data }, { on := 9, ground := Ground.data }, { on := 6, ground := Ground.guard }], guard := some (6, false) } : Oper)) (v := ?v11) rfl (by kernel_rfl) (by kernel_rfl) (by kernel_rfl) (fun _ _ _ h => h) (Or.inl ⟨by rfl, ?hy11⟩) (by assumption) ?rest11
  case hy11 => (intro w hSw; (try dsimp only at hSw); go_simp; try (with_reducible rfl))
  (try simp only [Act.put, List.setIfInBounds_toArray, List.set_cons_zero, List.set_cons_succ])
  refine wpAnyH_take (i := 11) (oi := ({ dst := some 52, op := Op.convert 22 9 (Operand.tmp 51), type := 9, pos := "more.go:20", after := #[{ on := 10, ground := Ground.data }, { on := 6, ground := Ground.guard }], guard := some (6, false) } : Oper)) (v := (.string st)) rfl (by kernel_rfl) (by kernel_rfl) (by kernel_rfl) (fun _ _ _ h => h) (Or.inl ⟨by rfl, ?hy12⟩) (by assumption) ?rest12
  case hy12 => (intro w hSw; (try dsimp only at hSw); have hcv := src_string (c := c2) ((HS3.out.take lp (by omega)).below hSw); rw [HSTK.out, HST.out] at hcv; go_simp; try (with_reducible rfl))
  (try simp only [Act.put, List.setIfInBounds_toArray, List.set_cons_zero, List.set_cons_succ])
  refine wpAnyH_take (i := 12) (oi := ({ dst := some 53, op := Op.move (Operand.tmp 11), type := 22, pos := "more.go:20", after := #[{ on := 6, ground := Ground.guard }], guard := some (6, false) } : Oper)) (v := ?v13) rfl (by kernel_rfl) (by kernel_rfl) (by kernel_rfl) (fun _ _ _ h => h) (Or.inl ⟨by rfl, ?hy13⟩) (by assumption) ?rest13
  case hy13 => (intro w hSw; (try dsimp only at hSw); go_simp; try (with_reducible rfl))
  (try simp only [Act.put, List.setIfInBounds_toArray, List.set_cons_zero, List.set_cons_succ])
  refine wpAnyH_take (i := 13) (oi := ({ dst := some 54, op := Op.convert 22 9 (Operand.tmp 53), type := 9, pos := "more.go:20", after := #[{ on := 12, ground := Ground.data }, { on := 6, ground := Ground.guard }], guard := some (6, false) } : Oper)) (v := (.string st)) rfl (by kernel_rfl) (by kernel_rfl) (by kernel_rfl) (fun _ _ _ h => h) (Or.inl ⟨by rfl, ?hy14⟩) (by assumption) ?rest14
  case hy14 => (intro w hSw; (try dsimp only at hSw); have hcv := src_string (c := c3) (HT3.out.below hSw); rw [HST.out] at hcv; go_simp; try (with_reducible rfl))
  (try simp only [Act.put, List.setIfInBounds_toArray, List.set_cons_zero, List.set_cons_succ])
  refine wpAnyH_take (i := 14) (oi := ({ dst := some 55, op := Op.binOp BinOp.neq 9 (Operand.tmp 52) (Operand.tmp 54) 9, type := 4, pos := "more.go:20", after := #[{ on := 11, ground := Ground.data }, { on := 13, ground := Ground.data }, { on := 6, ground := Ground.guard }], guard := some (6, false) } : Oper)) (v := (.bool false)) rfl (by kernel_rfl) (by kernel_rfl) (by kernel_rfl) (fun _ _ _ h => h) (Or.inl ⟨by rfl, ?hy15⟩) (by assumption) ?rest15
  case hy15 => (intro w hSw; (try dsimp only at hSw); go_simp; try (with_reducible rfl))
  (try simp only [Act.put, List.setIfInBounds_toArray, List.set_cons_zero, List.set_cons_succ])
  refine wpAnyH_take (i := 15) (oi := ({ dst := some 56, op := Op.pick (Operand.tmp 47) (Operand.const (Value.bool true)) (Operand.tmp 55), type := 4, pos := "more.go:20", after := #[{ on := 6, ground := Ground.data }, { on := 14, ground := Ground.data }], guard := none } : Oper)) (v := (.bool false)) rfl (by kernel_rfl) (by kernel_rfl) (by kernel_rfl) (fun _ _ _ h => h) (Or.inl ⟨by rfl, ?hy16⟩) (by assumption) ?rest16
  case hy16 => (intro w hSw; (try dsimp only at hSw); go_simp; try (with_reducible rfl))
  (try simp only [Act.put, List.setIfInBounds_toArray, List.set_cons_zero, List.set_cons_succ])
  refine wpAnyH_done (by kernel_rfl) ?_ _
  have HFIN6 := HB0
  (try simp only [Exit.then])
  have HB4 := Lib.hid (HB3.out.after HFIN6.out)
  have HT4 := Lib.hid (HT3.out.below HFIN6.out)
  have HS4 := Lib.hid (HS3.out.below HFIN6.out)
  have HY4 := Lib.hid (HY3.out.below HFIN6.out)
  clear HFIN6 HB3 HT3 HS3 HY3
  generalize wq.drew = w4 at HB4 HT4 HS4 HY4 ⊢
  go_upto_region 10 with (first | ((with_reducible show wpList _ _ _ (Oper.mk (some 57) _ _ _ _ _ :: _) _ _); refine wpList_load_part rfl 35 _ rfl w.heap.size 0 _ 35 (0, 0) _ HB4.out.b0 rfl .u8 key (arr_part _ _) Try.underlying35 rfl (by rw [HK.out]; exact size32) ?_) | ((with_reducible show wpList _ _ _ (Oper.mk (some 58) _ _ _ _ _ :: _) _ _); refine wpList_load_part rfl 37 _ rfl (w.heap.size + 1) 0 _ 37 (0, 0) _ HB4.out.b1 rfl .u8 nonce (arr_part _ _) Try.underlying37 rfl (by rw [HN.out]; exact size12) ?_) | ((with_reducible show Calls _ _ #[.agg _, .int _ _, .agg _] w4 _); go_at_call 25; refine (HMB.out _).mono ?_; rintro e w5 ⟨rfl, hbw⟩; have HB5 := Lib.hid hbw; clear hbw) | ((with_reducible show wpList _ _ _ (Oper.mk (some 12) _ _ _ _ _ :: _) _ _); refine wpList_alloc_row rfl 47 rfl _ (HYG.out _) ?_; go_simp) | ((with_reducible show wpList _ _ _ (Oper.mk none (Op.store _ (Operand.tmp 12) _) _ _ _ _ :: _) _ _); refine wpList_store_whole rfl 47 _ _ rfl w5.heap.size _ _ 47 (blk_new _ _) rfl rfl (by rw [arr_size, arr_size, BLL.out, HZG.out]) (arrSig bl BLL.out) (all_arr _ _) ?_; intro w6 hb6 hk6 hz6; have HE6 := Lib.hid ((HB5.out.alloc HB5.out.size (.cells (arr .u8 zg) 47)).trans (hk6.toBelow (Nat.le_trans HB5.out.size (by simp)) (by rintro i rfl; exact HB5.out.size))); have HG6 := Lib.hid hb6; have hl6 := blk_lt hb6; clear hb6 hk6 hz6) | ((with_reducible show wpList _ _ _ (Oper.mk (some 13) _ _ _ _ _ :: _) _ _); refine wpList_alloc_row rfl 35 rfl _ (HYB.out _) ?_))
  have HE7 := Lib.hid ((HE6.out.alloc HE6.out.size (.cells (arr .u8 zb) 35)).drew)
  have HG7 : Hid ((w6.alloc (.cells (arr .u8 zb) 35)).drew.heap[w5.heap.size]? = some (.cells (arr .u8 bl) 47 (0, 0))) := Lib.hid (blk_alloc HG6.out (.cells (arr .u8 zb) 35))
  have HO7 : Hid ((w6.alloc (.cells (arr .u8 zb) 35)).drew.heap[w6.heap.size]? = some (.cells (arr .u8 zb) 35 (0, 0))) := Lib.hid (blk_new w6 (.cells (arr .u8 zb) 35))
  (try simp only [Act.put])
  go_still_tail 2, (by kernel_rfl)
  change wpList _ _ _ _ _ (w6.alloc (.cells (arr .u8 zb) 35)).drew
  generalize (w6.alloc (.cells (arr .u8 zb) 35)).drew = w7 at HE7 HG7 HO7 ⊢
  have h6w : w4.heap.size ≤ w6.heap.size := HE6.out.size
  go_upto_block 0 with (first | ((with_reducible show wpList _ _ _ (Oper.mk (some 62) _ _ _ _ _ :: _) _ _); refine wpList_copy_splice rfl (.tmp 60) (.tmp 61) 22 22 rfl 5 Try.underlying22 size_u8 _ _ _ _ _ _ rfl rfl w6.heap.size 0 (zb.map (Value.int .u8)) 35 HO7.out cs (by rw [CSL.out]; rfl) (fun _ => ⟨rfl, ⟨w5.heap.size, 0, none⟩, rfl, HRG.out _ _ HG7.out⟩) (by rw [CSL.out, List.length_map, HZB.out]; omega) CSO.out w6.heap.size w7 (Below.refl _ _) (Nat.le_refl _) ?_; intro w8 hb8 hw8; have hb8' := hb8.out; rw [HSP.out] at hb8'; have HO8 := Lib.hid hb8'; have HE8 := Lib.hid (HE7.out.trans (hw8.mono h6w)); have hl8 := blk_lt hb8'; have hmk1 := HMK.out w8; have hmk2 := HMK.out (w8.alloc (.cells (row8 z16 []) 5)); clear hb8 hb8' hw8))
  have hO : Hid (((w8.alloc (.cells (row8 z16 []) 5)).alloc (.cells (row8 z16 []) 5)).heap[w6.heap.size]? = some (.cells (arr .u8 k32) 35 (0, 0))) := Lib.hid (blk_alloc (blk_alloc HO8.out _) _)
  have hZ : Hid (((w8.alloc (.cells (row8 z16 []) 5)).alloc (.cells (row8 z16 []) 5)).heap[w8.heap.size]? = some (.cells (row8 z16 []) 5 (0, 0))) := Lib.hid (blk_alloc (blk_new w8 _) _)
  have hNb := blk_new (w8.alloc (.cells (row8 z16 []) 5)) (.cells (row8 z16 []) 5)
  rw [World.size_alloc, NF0.out] at hNb
  rw [NF0.out] at hO hZ
  have hN := Lib.hid hNb
  have hE := Lib.hid ((HE8.out.alloc HE8.out.size (.cells (row8 z16 []) 5)).alloc (Nat.le_trans HE8.out.size (by simp)) (.cells (row8 z16 []) 5))
  have hsz : w4.heap.size ≤ w8.heap.size := HE8.out.size
  rw [NF0.out] at hE ⊢
  clear hNb hmk1 hmk2
  go_cut [] (fun wx => wx.heap[w6.heap.size]? = some (.cells (arr .u8 k32) 35 (0, 0)) ∧ wx.heap[w8.heap.size]? = some (.cells (row8 (nf 0) []) 5 (0, 0)) ∧ wx.heap[w8.heap.size + 1]? = some (.cells (row8 n16 []) 5 (0, 0)) ∧ Below w4.heap.size w4 wx)
  case first =>
    go_wp2_with fail
    go_loopw [16] (fun v wr => ∃ i : Nat, i ≤ 8 ∧ v = .int .i64 i ∧ wr.heap[w6.heap.size]? = some (.cells (arr .u8 k32) 35 (0, 0)) ∧ wr.heap[w8.heap.size]? = some (.cells (row8 (nf 0) []) 5 (0, 0)) ∧ wr.heap[w8.heap.size + 1]? = some (.cells (row8 (nf i) []) 5 (0, 0)) ∧ Below w4.heap.size w4 wr) (fun v _ => 8 - (intOf v).toNat)
    case atStart => exact ⟨0, Nat.zero_le _, rfl, hO.out, hZ.out, hN.out, hE.out⟩
    clear hO hZ hN hE
    case round =>
    obtain ⟨i, hi, rfl, gO, gZ, gN, gE⟩ := hrel
    by_cases hlt : i < 8
    · have l0 := NFL.out i
      have q0 := (cell_blk gN i).trans (row8_get (nf i) [] i (by rw [l0]; omega))
      have q1 := (cell_blk gN (8 + i)).trans (row8_get (nf i) [] (8 + i) (by rw [l0]; omega))
      have q2 := free_blk gN i
      have q3 := free_blk gN (8 + i)
      have gN1 : (wr.setCell ⟨w8.heap.size + 1, i, none⟩ (.int .u8 (IntKind.u8.wrap (bits .and .i64 ((lb : Int) / 2 ^ (8 * i)) 255)))).heap[w8.heap.size + 1]? = some (.cells (row8 ((nf i).set i ((F1 i : Nat) : Int)) []) 5 (0, 0)) := by
        rw [blk_setCell gN, HB1'.out, row8_set _ _ _ (by rw [l0]; omega)]
      have gN2 : ((wr.setCell ⟨w8.heap.size + 1, i, none⟩ (.int .u8 (IntKind.u8.wrap (bits .and .i64 ((lb : Int) / 2 ^ (8 * i)) 255)))).setCell ⟨w8.heap.size + 1, 8 + i, none⟩ (.int .u8 (IntKind.u8.wrap (bits .and .i64 ((lp : Int) / 2 ^ (8 * i)) 255)))).heap[w8.heap.size + 1]? = some (.cells (row8 (nf (i + 1)) []) 5 (0, 0)) := by
        rw [blk_setCell gN1, HB2'.out, row8_set _ _ _ (by rw [List.length_set, l0]; omega), NFS.out i hlt]
      have q4 := free_blk gN1 (8 + i)
      have GN := Lib.hid gN2
      have GO := Lib.hid (blk_setCell_ne (blk_setCell_ne gO (b := w8.heap.size + 1) (o := i) (.int .u8 (IntKind.u8.wrap (bits .and .i64 ((lb : Int) / 2 ^ (8 * i)) 255))) (by omega)) (b := w8.heap.size + 1) (o := 8 + i) (.int .u8 (IntKind.u8.wrap (bits .and .i64 ((lp : Int) / 2 ^ (8 * i)) 255))) (by omega))
      have GZ := Lib.hid (blk_setCell_ne (blk_setCell_ne gZ (b := w8.heap.size + 1) (o := i) (.int .u8 (IntKind.u8.wrap (bits .and .i64 ((lb : Int) / 2 ^ (8 * i)) 255))) (by omega)) (b := w8.heap.size + 1) (o := 8 + i) (.int .u8 (IntKind.u8.wrap (bits .and .i64 ((lp : Int) / 2 ^ (8 * i)) 255))) (by omega))
      have GE := Lib.hid ((gE.setCell (p := ⟨w8.heap.size + 1, i, none⟩) (by show w4.heap.size ≤ w8.heap.size + 1; omega) (.int .u8 (IntKind.u8.wrap (bits .and .i64 ((lb : Int) / 2 ^ (8 * i)) 255)))).setCell (p := ⟨w8.heap.size + 1, 8 + i, none⟩) (by show w4.heap.size ≤ w8.heap.size + 1; omega) (.int .u8 (IntKind.u8.wrap (bits .and .i64 ((lp : Int) / 2 ^ (8 * i)) 255))))
      have s1 : (8 * (i : Int)).toNat = 8 * i := by omega
      have s2' : 0 ≤ 8 * (i : Int) := by omega
      have s3' : 8 * (i : Int) < 64 := by omega
      have j2 : IntKind.i64.wrap (8 + (i : Int)) = 8 + (i : Int) := IntWalk.i64_in _ (by omega)
      have n2 : (8 + (i : Int)).toNat = 8 + i := by omega
      have n3 : 8 + (i : Int) < 16 := by omega
      have i3 : (i : Int) < 16 := by omega
      clear gO gZ gN gE gN1 gN2 l0
      go_wp2_with fail
      go_roundw
      case rel => exact ⟨i + 1, by omega, by go_num, GO.out, GZ.out, GN.out, GE.out⟩
      case measure => simp [intOf]; omega
    · have ei : i = 8 := by omega
      rw [ei, NF8.out] at gN
      have GN := Lib.hid gN
      have GO := Lib.hid gO
      have GZ := Lib.hid gZ
      have GE := Lib.hid gE
      clear gN gO gZ gE ei
      go_wp2_with fail
      go_meet
      exact ⟨GO.out, GZ.out, GN.out, GE.out⟩
  case rest =>
  clear hO hZ hN hE
  obtain ⟨wz, rfl⟩ : ∃ x : World, x = wc := ⟨_, rfl⟩
  obtain ⟨gO, gZ, gN, gE⟩ := hcut
  have HOz := Lib.hid gO
  have z0l := NFL.out 0
  have hsz0 := src_blk gZ
  have hsn0 := src_blk gN
  rw [z0l] at hsz0
  rw [N16L.out] at hsn0
  have hzA := hsz0.take y1 (by omega)
  have hzB := hsz0.take y2 (by omega)
  rw [← NF0.out] at hzA hzB
  rw [ZT1.out] at hzA
  rw [ZT2.out] at hzB
  have hdr : Below wz.heap.size wz wz.drew := ⟨rfl, rfl, rfl, Nat.le_refl _, fun _ _ => rfl⟩
  have HZA := Lib.hid (hzA.below hdr)
  have HZB' := Lib.hid (hzB.below hdr)
  have HNq := Lib.hid (hsn0.below hdr)
  have HYq := Lib.hid ((HY4.out.below gE).below hdr)
  have HTq := Lib.hid ((HT4.out.below gE).below hdr)
  have HSz := Lib.hid (HS4.out.below gE)
  have HBz := Lib.hid (HB4.out.after gE)
  have y1i : (y1 : Int) ≤ 16 := by omega
  have y2i : (y2 : Int) ≤ 16 := by omega
  have er1 := ER1.out
  have er2 := ER2.out
  clear gO gZ gN gE hzA hzB hdr hsz0 hsn0 z0l HB4 HT4 HS4 HY4
  go_upto_region 18 with fail
  go_cut [17] (fun u17 wx => ∃ g, u17 = .pointer (some ⟨g, 0, none⟩) ∧ wz.heap.size ≤ g ∧ wx.heap[g]? = some (.cells (arr .u8 tg) 51 (0, 0)) ∧ Below wz.heap.size wz wx)
  case first =>
    have HB0 := Lib.hid (show Below wz.heap.size wz wz.drew from ⟨rfl, rfl, rfl, Nat.le_refl _, fun _ _ => rfl⟩)
    refine wp_region_held_drew (S := (fun w' => Go.RowKit.Below wz.heap.size wz w')) (by kernel_rfl) (HB0.out) (fun hHeld => ?_)
    obtain ⟨wv, hwv⟩ : ∃ x, x = wz.drew := ⟨_, rfl⟩
    rw [← hwv] at HB0 hHeld HZA HZB' HNq HYq HTq ⊢
    clear hwv
    refine' wpAnyH_take (i := 0) (oi := ({ dst := some 92, op := Op.load 35 (Operand.tmp 13), type := 35, pos := "more.go:32", after := #[], guard := none } : Oper)) (v := _) rfl (by kernel_rfl) (by kernel_rfl) (by kernel_rfl) (fun _ _ _ h => h) (yieldsIf_load_mid (by rfl) _ _ rfl _ _ rfl (k32.map (Value.int .u8)) _ ?hS1001 Try.underlying35 rfl (by rw [List.length_map]; rw [K32L.out]; exact size32)) (by assumption) ?rest1001
    case hS1001 => (intro w hSw; exact range_part (Below.blk hSw HOz.out (blk_lt HOz.out)) 0 _ (by rw [List.length_map]; exact arr_part _ _))
    (try simp only [Act.put, List.setIfInBounds_toArray, List.set_cons_zero, List.set_cons_succ])
    refine wpAnyH_take (i := 1) (oi := ({ dst := some 93, op := Op.move (Operand.tmp 3), type := 22, pos := "more.go:32", after := #[], guard := none } : Oper)) (v := ?v1002) rfl (by kernel_rfl) (by kernel_rfl) (by kernel_rfl) (fun _ _ _ h => h) (Or.inl ⟨by rfl, ?hy1002⟩) (by assumption) ?rest1002
    case hy1002 => (intro w hSw; (try dsimp only at hSw); go_simp; try (with_reducible rfl))
    (try simp only [Act.put, List.setIfInBounds_toArray, List.set_cons_zero, List.set_cons_succ])
    refine wpAnyH_take (i := 2) (oi := ({ dst := some 94, op := Op.move (Operand.tmp 14), type := 22, pos := "more.go:32", after := #[], guard := none } : Oper)) (v := ?v1003) rfl (by kernel_rfl) (by kernel_rfl) (by kernel_rfl) (fun _ _ _ h => h) (Or.inl ⟨by rfl, ?hy1003⟩) (by assumption) ?rest1003
    case hy1003 => (intro w hSw; (try dsimp only at hSw); go_simp; try (with_reducible rfl))
    (try simp only [Act.put, List.setIfInBounds_toArray, List.set_cons_zero, List.set_cons_succ])
    refine wpAnyH_take (i := 3) (oi := ({ dst := some 95, op := Op.move (Operand.tmp 3), type := 22, pos := "more.go:32", after := #[], guard := none } : Oper)) (v := ?v1004) rfl (by kernel_rfl) (by kernel_rfl) (by kernel_rfl) (fun _ _ _ h => h) (Or.inl ⟨by rfl, ?hy1004⟩) (by assumption) ?rest1004
    case hy1004 => (intro w hSw; (try dsimp only at hSw); go_simp; try (with_reducible rfl))
    (try simp only [Act.put, List.setIfInBounds_toArray, List.set_cons_zero, List.set_cons_succ])
    refine wpAnyH_take (i := 4) (oi := ({ dst := some 96, op := Op.call { callee := Callee.builtin Builtin.len, args := #[Operand.tmp 95], argTypes := #[22] }, type := 3, pos := "more.go:32", after := #[{ on := 3, ground := Ground.data }], guard := none } : Oper)) (v := ?v1005) rfl (by kernel_rfl) (by kernel_rfl) (by kernel_rfl) (fun _ _ _ h => h) (Or.inl ⟨by rfl, ?hy1005⟩) (by assumption) ?rest1005
    case hy1005 => (intro w hSw; (try dsimp only at hSw); go_simp; try (with_reducible rfl))
    (try simp only [Act.put, List.setIfInBounds_toArray, List.set_cons_zero, List.set_cons_succ])
    refine wpAnyH_take (i := 5) (oi := ({ dst := some 97, op := Op.binOp BinOp.rem 3 (Operand.tmp 96) (Operand.const (Value.int IntKind.i64 16)) 3, type := 3, pos := "more.go:32", after := #[{ on := 4, ground := Ground.data }], guard := none } : Oper)) (v := ?v1006) rfl (by kernel_rfl) (by kernel_rfl) (by kernel_rfl) (fun _ _ _ h => h) (Or.inl ⟨by rfl, ?hy1006⟩) (by assumption) ?rest1006
    case hy1006 => (intro w hSw; (try dsimp only at hSw); go_simp; try (with_reducible rfl))
    (try simp only [Act.put, List.setIfInBounds_toArray, List.set_cons_zero, List.set_cons_succ])
    refine wpAnyH_take (i := 6) (oi := ({ dst := some 98, op := Op.binOp BinOp.sub 3 (Operand.const (Value.int IntKind.i64 16)) (Operand.tmp 97) 3, type := 3, pos := "more.go:32", after := #[{ on := 5, ground := Ground.data }], guard := none } : Oper)) (v := ?v1007) rfl (by kernel_rfl) (by kernel_rfl) (by kernel_rfl) (fun _ _ _ h => h) (Or.inl ⟨by rfl, ?hy1007⟩) (by assumption) ?rest1007
    case hy1007 => (intro w hSw; (try dsimp only at hSw); go_simp; try (with_reducible rfl))
    (try simp only [Act.put, List.setIfInBounds_toArray, List.set_cons_zero, List.set_cons_succ])
    refine wpAnyH_take (i := 7) (oi := ({ dst := some 99, op := Op.binOp BinOp.rem 3 (Operand.tmp 98) (Operand.const (Value.int IntKind.i64 16)) 3, type := 3, pos := "more.go:32", after := #[{ on := 6, ground := Ground.data }], guard := none } : Oper)) (v := ?v1008) rfl (by kernel_rfl) (by kernel_rfl) (by kernel_rfl) (fun _ _ _ h => h) (Or.inl ⟨by rfl, ?hy1008⟩) (by assumption) ?rest1008
    case hy1008 => (intro w hSw; (try dsimp only at hSw); go_simp; try (with_reducible rfl))
    (try simp only [Act.put, List.setIfInBounds_toArray, List.set_cons_zero, List.set_cons_succ])
    refine wpAnyH_take (i := 8) (oi := ({ dst := some 100, op := Op.slice 22 (Operand.tmp 94) none (some (Operand.tmp 99)) none, type := 22, pos := "more.go:32", after := #[{ on := 2, ground := Ground.data }, { on := 7, ground := Ground.data }], guard := none } : Oper)) (v := ?v1009) rfl (by kernel_rfl) (by kernel_rfl) (by kernel_rfl) (fun _ _ _ h => h) (Or.inl ⟨by rfl, ?hy1009⟩) (by assumption) ?rest1009
    case hy1009 => (intro w hSw; (try dsimp only at hSw); go_simp; try (with_reducible rfl))
    (try simp only [Act.put, List.setIfInBounds_toArray, List.set_cons_zero, List.set_cons_succ])
    refine wpAnyH_take (i := 9) (oi := ({ dst := some 101, op := Op.move (Operand.tmp 11), type := 22, pos := "more.go:32", after := #[], guard := none } : Oper)) (v := ?v1010) rfl (by kernel_rfl) (by kernel_rfl) (by kernel_rfl) (fun _ _ _ h => h) (Or.inl ⟨by rfl, ?hy1010⟩) (by assumption) ?rest1010
    case hy1010 => (intro w hSw; (try dsimp only at hSw); go_simp; try (with_reducible rfl))
    (try simp only [Act.put, List.setIfInBounds_toArray, List.set_cons_zero, List.set_cons_succ])
    refine wpAnyH_take (i := 10) (oi := ({ dst := some 102, op := Op.move (Operand.tmp 14), type := 22, pos := "more.go:32", after := #[], guard := none } : Oper)) (v := ?v1011) rfl (by kernel_rfl) (by kernel_rfl) (by kernel_rfl) (fun _ _ _ h => h) (Or.inl ⟨by rfl, ?hy1011⟩) (by assumption) ?rest1011
    case hy1011 => (intro w hSw; (try dsimp only at hSw); go_simp; try (with_reducible rfl))
    (try simp only [Act.put, List.setIfInBounds_toArray, List.set_cons_zero, List.set_cons_succ])
    refine wpAnyH_take (i := 11) (oi := ({ dst := some 103, op := Op.move (Operand.tmp 11), type := 22, pos := "more.go:32", after := #[], guard := none } : Oper)) (v := ?v1012) rfl (by kernel_rfl) (by kernel_rfl) (by kernel_rfl) (fun _ _ _ h => h) (Or.inl ⟨by rfl, ?hy1012⟩) (by assumption) ?rest1012
    case hy1012 => (intro w hSw; (try dsimp only at hSw); go_simp; try (with_reducible rfl))
    (try simp only [Act.put, List.setIfInBounds_toArray, List.set_cons_zero, List.set_cons_succ])
    refine wpAnyH_take (i := 12) (oi := ({ dst := some 104, op := Op.call { callee := Callee.builtin Builtin.len, args := #[Operand.tmp 103], argTypes := #[22] }, type := 3, pos := "more.go:32", after := #[{ on := 11, ground := Ground.data }], guard := none } : Oper)) (v := ?v1013) rfl (by kernel_rfl) (by kernel_rfl) (by kernel_rfl) (fun _ _ _ h => h) (Or.inl ⟨by rfl, ?hy1013⟩) (by assumption) ?rest1013
    case hy1013 => (intro w hSw; (try dsimp only at hSw); go_simp; try (with_reducible rfl))
    (try simp only [Act.put, List.setIfInBounds_toArray, List.set_cons_zero, List.set_cons_succ])
    refine wpAnyH_take (i := 13) (oi := ({ dst := some 105, op := Op.binOp BinOp.rem 3 (Operand.tmp 104) (Operand.const (Value.int IntKind.i64 16)) 3, type := 3, pos := "more.go:32", after := #[{ on := 12, ground := Ground.data }], guard := none } : Oper)) (v := ?v1014) rfl (by kernel_rfl) (by kernel_rfl) (by kernel_rfl) (fun _ _ _ h => h) (Or.inl ⟨by rfl, ?hy1014⟩) (by assumption) ?rest1014
    case hy1014 => (intro w hSw; (try dsimp only at hSw); go_simp; try (with_reducible rfl))
    (try simp only [Act.put, List.setIfInBounds_toArray, List.set_cons_zero, List.set_cons_succ])
    refine wpAnyH_take (i := 14) (oi := ({ dst := some 106, op := Op.binOp BinOp.sub 3 (Operand.const (Value.int IntKind.i64 16)) (Operand.tmp 105) 3, type := 3, pos := "more.go:32", after := #[{ on := 13, ground := Ground.data }], guard := none } : Oper)) (v := ?v1015) rfl (by kernel_rfl) (by kernel_rfl) (by kernel_rfl) (fun _ _ _ h => h) (Or.inl ⟨by rfl, ?hy1015⟩) (by assumption) ?rest1015
    case hy1015 => (intro w hSw; (try dsimp only at hSw); go_simp; try (with_reducible rfl))
    (try simp only [Act.put, List.setIfInBounds_toArray, List.set_cons_zero, List.set_cons_succ])
    refine wpAnyH_take (i := 15) (oi := ({ dst := some 107, op := Op.binOp BinOp.rem 3 (Operand.tmp 106) (Operand.const (Value.int IntKind.i64 16)) 3, type := 3, pos := "more.go:32", after := #[{ on := 14, ground := Ground.data }], guard := none } : Oper)) (v := ?v1016) rfl (by kernel_rfl) (by kernel_rfl) (by kernel_rfl) (fun _ _ _ h => h) (Or.inl ⟨by rfl, ?hy1016⟩) (by assumption) ?rest1016
    case hy1016 => (intro w hSw; (try dsimp only at hSw); go_simp; try (with_reducible rfl))
    (try simp only [Act.put, List.setIfInBounds_toArray, List.set_cons_zero, List.set_cons_succ])
    refine wpAnyH_take (i := 16) (oi := ({ dst := some 108, op := Op.slice 22 (Operand.tmp 102) none (some (Operand.tmp 107)) none, type := 22, pos := "more.go:32", after := #[{ on := 10, ground := Ground.data }, { on := 15, ground := Ground.data }], guard := none } : Oper)) (v := ?v1017) rfl (by kernel_rfl) (by kernel_rfl) (by kernel_rfl) (fun _ _ _ h => h) (Or.inl ⟨by rfl, ?hy1017⟩) (by assumption) ?rest1017
    case hy1017 => (intro w hSw; (try dsimp only at hSw); go_simp; try (with_reducible rfl))
    (try simp only [Act.put, List.setIfInBounds_toArray, List.set_cons_zero, List.set_cons_succ])
    refine wpAnyH_take (i := 17) (oi := ({ dst := some 109, op := Op.move (Operand.tmp 15), type := 22, pos := "more.go:32", after := #[], guard := none } : Oper)) (v := ?v1018) rfl (by kernel_rfl) (by kernel_rfl) (by kernel_rfl) (fun _ _ _ h => h) (Or.inl ⟨by rfl, ?hy1018⟩) (by assumption) ?rest1018
    case hy1018 => (intro w hSw; (try dsimp only at hSw); go_simp; try (with_reducible rfl))
    (try simp only [Act.put, List.setIfInBounds_toArray, List.set_cons_zero, List.set_cons_succ])
    refine wpAnyH_ready (rs := [18, 20]) (by kernel_rfl) (by simp) ?_
    refine AllReadyH.cons (o := ({ dst := some 110, op := Op.buildSlice 24 5 #[(0, Operand.tmp 93), (1, Operand.tmp 100), (2, Operand.tmp 101), (3, Operand.tmp 108), (4, Operand.tmp 109)], type := 24, pos := "more.go:32", after := #[{ on := 1, ground := Ground.data }, { on := 8, ground := Ground.data }, { on := 9, ground := Ground.data }, { on := 16, ground := Ground.data }, { on := 17, ground := Ground.data }], guard := none } : Oper)) rfl (fun K hK => ?_) ?_
    · go_simp
      have HL := Lib.hid (src_list [(pb, lb, cb, ys), (some ⟨w8.heap.size, 0, none⟩, y1, 16, z1), (s3, lp, c3, tx), (some ⟨w8.heap.size, 0, none⟩, y2, 16, z2), (some ⟨w8.heap.size + 1, 0, none⟩, 16, 16, n16)] (by intro p hp; simp only [List.mem_cons, List.not_mem_nil, or_false] at hp; rcases hp with rfl | rfl | rfl | rfl | rfl <;> first | exact ⟨HYq.out, KA.out⟩ | exact ⟨HZA.out, by show y1 ≤ 16; omega⟩ | exact ⟨HTq.out, HC3.out⟩ | exact ⟨HZB'.out, by show y2 ≤ 16; omega⟩ | exact ⟨HNq.out, Nat.le_refl _⟩))
      (try rw [World.size_alloc] at HL)
      have HB1019 := Lib.hid (HB0.out.alloc HB0.out.size (.cells #[.slice pb lb cb, .slice (some ⟨w8.heap.size, 0, none⟩) y1 16, .slice s3 lp c3, .slice (some ⟨w8.heap.size, 0, none⟩) y2 16, .slice (some ⟨w8.heap.size + 1, 0, none⟩) 16 16] 22))
      refine hK.out _ _ (HB1019.out) (fun hHeld => ?_)
      clear hK K
      (try simp only [Act.put, List.setIfInBounds_toArray, List.set_cons_zero, List.set_cons_succ])
      refine wpAnyH_ready (rs := [19, 20]) (by kernel_rfl) (by simp) ?_
      refine AllReadyH.cons (o := ({ dst := some 111, op := Op.call { callee := Callee.value (Operand.func 26), args := #[Operand.tmp 92, Operand.tmp 110], argTypes := #[35, 24] }, type := 51, pos := "more.go:32", after := #[{ on := 0, ground := Ground.data }, { on := 18, ground := Ground.data }], guard := none } : Oper)) rfl (fun K hK => ?_) ?_
      · go_simp
        go_at_call 26
        refine (HM5.out _ _ _ _ HL.out (by show 5 ≤ 1099511627776; decide)).mono ?_
        rintro e w1020 ⟨rfl, hb1020⟩
        have HB1020 := Lib.hid (HB1019.out.trans (hb1020.mono HB1019.out.size))
        clear hb1020
        (try dsimp only)
        refine hK.out _ _ (HB1020.out) (fun hHeld => ?_)
        clear hK K
        (try simp only [Act.put, List.setIfInBounds_toArray, List.set_cons_zero, List.set_cons_succ])
        refine wpAnyH_ready (rs := [20]) (by kernel_rfl) (by simp) ?_
        refine AllReadyH.cons (o := ({ dst := some 17, op := Op.alloc 51, type := 0, pos := "more.go:32", after := #[], guard := none } : Oper)) rfl (fun K hK => ?_) AllReadyH.nil
        refine step_alloc_row rfl 51 rfl _ (HYT.out _) ?_
        have HB1021 := Lib.hid (HB1020.out.alloc HB1020.out.size (.cells (arr .u8 zt) 51))
        have HG1021_17 := Lib.hid (blk_new (w1020) (.cells (arr .u8 zt) 51))
        have HZA := Lib.hid (HZA.out.below ((Below.refl _ _).alloc (Nat.le_refl _) (.cells (arr .u8 zt) 51)))
        have HZB' := Lib.hid (HZB'.out.below ((Below.refl _ _).alloc (Nat.le_refl _) (.cells (arr .u8 zt) 51)))
        have HNq := Lib.hid (HNq.out.below ((Below.refl _ _).alloc (Nat.le_refl _) (.cells (arr .u8 zt) 51)))
        have HYq := Lib.hid (HYq.out.below ((Below.refl _ _).alloc (Nat.le_refl _) (.cells (arr .u8 zt) 51)))
        have HTq := Lib.hid (HTq.out.below ((Below.refl _ _).alloc (Nat.le_refl _) (.cells (arr .u8 zt) 51)))
        (try have HL := Lib.hid (HL.out.below ((Below.refl _ _).alloc (Nat.le_refl _) (.cells (arr .u8 zt) 51))))
        obtain ⟨g1021_, hgv⟩ : ∃ g, g = (w1020).heap.size := ⟨_, rfl⟩
        have HLE1021 := Lib.hid (show wz.heap.size ≤ g1021_ by rw [hgv]; exact HB1020.out.size)
        rw [← hgv] at HG1021_17 ⊢
        clear hgv
        refine hK.out _ _ (HB1021.out) (fun hHeld => ?_)
        clear hK K
        (try simp only [Act.put, List.setIfInBounds_toArray, List.set_cons_zero, List.set_cons_succ])
        refine wpAnyH_ready (rs := [21]) (by kernel_rfl) (by simp) ?_
        refine AllReadyH.cons (o := ({ dst := none, op := Op.store 51 (Operand.tmp 17) (Operand.tmp 111), type := 0, pos := "more.go:32", after := #[{ on := 20, ground := Ground.data }, { on := 19, ground := Ground.data }, { on := 19, ground := Ground.chain }, { on := 0, ground := Ground.phase }, { on := 1, ground := Ground.phase }, { on := 2, ground := Ground.phase }, { on := 3, ground := Ground.phase }, { on := 4, ground := Ground.phase }, { on := 5, ground := Ground.phase }, { on := 6, ground := Ground.phase }, { on := 7, ground := Ground.phase }, { on := 8, ground := Ground.phase }, { on := 9, ground := Ground.phase }, { on := 10, ground := Ground.phase }, { on := 11, ground := Ground.phase }, { on := 12, ground := Ground.phase }, { on := 13, ground := Ground.phase }, { on := 14, ground := Ground.phase }, { on := 15, ground := Ground.phase }, { on := 16, ground := Ground.phase }, { on := 17, ground := Ground.phase }, { on := 18, ground := Ground.phase }, { on := 19, ground := Ground.phase }, { on := 20, ground := Ground.phase }], guard := none } : Oper)) rfl (fun K hK => ?_) AllReadyH.nil
        refine step_store_whole rfl 51 (.tmp 17) (.tmp 111) rfl g1021_ _ _ _ HG1021_17.out rfl rfl (by rw [arr_size, arr_size, TGL.out, HZT.out]) (arrTag tg TGL.out) (all_arr _ _) ?_
        intro w1022 hb1022 hk1022 hz1022
        have HB1022 := Lib.hid (HB1021.out.trans (hk1022.toBelow HB1021.out.size (by rintro i rfl; exact HLE1021.out)))
        have HG1022_17 := Lib.hid hb1022
        clear hb1022 hk1022 hz1022
        refine hK.out _ _ (HB1022.out) (fun hHeld => ?_)
        clear hK K
        (try simp only [Act.put])
        refine wpAnyH_done (by kernel_rfl) ?_ _
        go_wp2_with fail
        go_meet
        exact ⟨_, rfl, HLE1021.out, HG1022_17.out, HB1022.out⟩
      refine AllReadyH.cons (o := ({ dst := some 17, op := Op.alloc 51, type := 0, pos := "more.go:32", after := #[], guard := none } : Oper)) rfl (fun K hK => ?_) ?_
      · refine step_alloc_row rfl 51 rfl _ (HYT.out _) ?_
        have HB1023 := Lib.hid (HB1019.out.alloc HB1019.out.size (.cells (arr .u8 zt) 51))
        have HG1023_17 := Lib.hid (blk_new ((wv).alloc (.cells #[.slice pb lb cb, .slice (some ⟨w8.heap.size, 0, none⟩) y1 16, .slice s3 lp c3, .slice (some ⟨w8.heap.size, 0, none⟩) y2 16, .slice (some ⟨w8.heap.size + 1, 0, none⟩) 16 16] 22)) (.cells (arr .u8 zt) 51))
        have HZA := Lib.hid (HZA.out.below ((Below.refl _ _).alloc (Nat.le_refl _) (.cells (arr .u8 zt) 51)))
        have HZB' := Lib.hid (HZB'.out.below ((Below.refl _ _).alloc (Nat.le_refl _) (.cells (arr .u8 zt) 51)))
        have HNq := Lib.hid (HNq.out.below ((Below.refl _ _).alloc (Nat.le_refl _) (.cells (arr .u8 zt) 51)))
        have HYq := Lib.hid (HYq.out.below ((Below.refl _ _).alloc (Nat.le_refl _) (.cells (arr .u8 zt) 51)))
        have HTq := Lib.hid (HTq.out.below ((Below.refl _ _).alloc (Nat.le_refl _) (.cells (arr .u8 zt) 51)))
        (try have HL := Lib.hid (HL.out.below ((Below.refl _ _).alloc (Nat.le_refl _) (.cells (arr .u8 zt) 51))))
        obtain ⟨g1023_, hgv⟩ : ∃ g, g = ((wv).alloc (.cells #[.slice pb lb cb, .slice (some ⟨w8.heap.size, 0, none⟩) y1 16, .slice s3 lp c3, .slice (some ⟨w8.heap.size, 0, none⟩) y2 16, .slice (some ⟨w8.heap.size + 1, 0, none⟩) 16 16] 22)).heap.size := ⟨_, rfl⟩
        have HLE1023 := Lib.hid (show wz.heap.size ≤ g1023_ by rw [hgv]; exact HB1019.out.size)
        rw [← hgv] at HG1023_17 ⊢
        clear hgv
        refine hK.out _ _ (HB1023.out) (fun hHeld => ?_)
        clear hK K
        (try simp only [Act.put, List.setIfInBounds_toArray, List.set_cons_zero, List.set_cons_succ])
        refine wpAnyH_ready (rs := [19]) (by kernel_rfl) (by simp) ?_
        refine AllReadyH.cons (o := ({ dst := some 111, op := Op.call { callee := Callee.value (Operand.func 26), args := #[Operand.tmp 92, Operand.tmp 110], argTypes := #[35, 24] }, type := 51, pos := "more.go:32", after := #[{ on := 0, ground := Ground.data }, { on := 18, ground := Ground.data }], guard := none } : Oper)) rfl (fun K hK => ?_) AllReadyH.nil
        go_simp
        go_at_call 26
        refine (HM5.out _ _ _ _ HL.out (by show 5 ≤ 1099511627776; decide)).mono ?_
        rintro e w1024 ⟨rfl, hb1024⟩
        have HB1024 := Lib.hid (HB1023.out.trans (hb1024.mono HB1023.out.size))
        have HG1024_17 := Lib.hid (Below.blk hb1024 HG1023_17.out (blk_lt HG1023_17.out))
        clear hb1024
        (try dsimp only)
        refine hK.out _ _ (HB1024.out) (fun hHeld => ?_)
        clear hK K
        (try simp only [Act.put, List.setIfInBounds_toArray, List.set_cons_zero, List.set_cons_succ])
        refine wpAnyH_ready (rs := [21]) (by kernel_rfl) (by simp) ?_
        refine AllReadyH.cons (o := ({ dst := none, op := Op.store 51 (Operand.tmp 17) (Operand.tmp 111), type := 0, pos := "more.go:32", after := #[{ on := 20, ground := Ground.data }, { on := 19, ground := Ground.data }, { on := 19, ground := Ground.chain }, { on := 0, ground := Ground.phase }, { on := 1, ground := Ground.phase }, { on := 2, ground := Ground.phase }, { on := 3, ground := Ground.phase }, { on := 4, ground := Ground.phase }, { on := 5, ground := Ground.phase }, { on := 6, ground := Ground.phase }, { on := 7, ground := Ground.phase }, { on := 8, ground := Ground.phase }, { on := 9, ground := Ground.phase }, { on := 10, ground := Ground.phase }, { on := 11, ground := Ground.phase }, { on := 12, ground := Ground.phase }, { on := 13, ground := Ground.phase }, { on := 14, ground := Ground.phase }, { on := 15, ground := Ground.phase }, { on := 16, ground := Ground.phase }, { on := 17, ground := Ground.phase }, { on := 18, ground := Ground.phase }, { on := 19, ground := Ground.phase }, { on := 20, ground := Ground.phase }], guard := none } : Oper)) rfl (fun K hK => ?_) AllReadyH.nil
        refine step_store_whole rfl 51 (.tmp 17) (.tmp 111) rfl g1023_ _ _ _ HG1024_17.out rfl rfl (by rw [arr_size, arr_size, TGL.out, HZT.out]) (arrTag tg TGL.out) (all_arr _ _) ?_
        intro w1025 hb1025 hk1025 hz1025
        have HB1025 := Lib.hid (HB1024.out.trans (hk1025.toBelow HB1024.out.size (by rintro i rfl; exact HLE1023.out)))
        have HG1025_17 := Lib.hid hb1025
        clear hb1025 hk1025 hz1025
        refine hK.out _ _ (HB1025.out) (fun hHeld => ?_)
        clear hK K
        (try simp only [Act.put])
        refine wpAnyH_done (by kernel_rfl) ?_ _
        go_wp2_with fail
        go_meet
        exact ⟨_, rfl, HLE1023.out, HG1025_17.out, HB1025.out⟩
      exact AllReadyH.nil
    refine AllReadyH.cons (o := ({ dst := some 17, op := Op.alloc 51, type := 0, pos := "more.go:32", after := #[], guard := none } : Oper)) rfl (fun K hK => ?_) ?_
    · refine step_alloc_row rfl 51 rfl _ (HYT.out _) ?_
      have HB1026 := Lib.hid (HB0.out.alloc HB0.out.size (.cells (arr .u8 zt) 51))
      have HG1026_17 := Lib.hid (blk_new (wv) (.cells (arr .u8 zt) 51))
      have HZA := Lib.hid (HZA.out.below ((Below.refl _ _).alloc (Nat.le_refl _) (.cells (arr .u8 zt) 51)))
      have HZB' := Lib.hid (HZB'.out.below ((Below.refl _ _).alloc (Nat.le_refl _) (.cells (arr .u8 zt) 51)))
      have HNq := Lib.hid (HNq.out.below ((Below.refl _ _).alloc (Nat.le_refl _) (.cells (arr .u8 zt) 51)))
      have HYq := Lib.hid (HYq.out.below ((Below.refl _ _).alloc (Nat.le_refl _) (.cells (arr .u8 zt) 51)))
      have HTq := Lib.hid (HTq.out.below ((Below.refl _ _).alloc (Nat.le_refl _) (.cells (arr .u8 zt) 51)))
      (try have HL := Lib.hid (HL.out.below ((Below.refl _ _).alloc (Nat.le_refl _) (.cells (arr .u8 zt) 51))))
      obtain ⟨g1026_, hgv⟩ : ∃ g, g = (wv).heap.size := ⟨_, rfl⟩
      have HLE1026 := Lib.hid (show wz.heap.size ≤ g1026_ by rw [hgv]; exact HB0.out.size)
      rw [← hgv] at HG1026_17 ⊢
      clear hgv
      refine hK.out _ _ (HB1026.out) (fun hHeld => ?_)
      clear hK K
      (try simp only [Act.put, List.setIfInBounds_toArray, List.set_cons_zero, List.set_cons_succ])
      refine wpAnyH_ready (rs := [18]) (by kernel_rfl) (by simp) ?_
      refine AllReadyH.cons (o := ({ dst := some 110, op := Op.buildSlice 24 5 #[(0, Operand.tmp 93), (1, Operand.tmp 100), (2, Operand.tmp 101), (3, Operand.tmp 108), (4, Operand.tmp 109)], type := 24, pos := "more.go:32", after := #[{ on := 1, ground := Ground.data }, { on := 8, ground := Ground.data }, { on := 9, ground := Ground.data }, { on := 16, ground := Ground.data }, { on := 17, ground := Ground.data }], guard := none } : Oper)) rfl (fun K hK => ?_) AllReadyH.nil
      go_simp
      have HL := Lib.hid (src_list [(pb, lb, cb, ys), (some ⟨w8.heap.size, 0, none⟩, y1, 16, z1), (s3, lp, c3, tx), (some ⟨w8.heap.size, 0, none⟩, y2, 16, z2), (some ⟨w8.heap.size + 1, 0, none⟩, 16, 16, n16)] (by intro p hp; simp only [List.mem_cons, List.not_mem_nil, or_false] at hp; rcases hp with rfl | rfl | rfl | rfl | rfl <;> first | exact ⟨HYq.out, KA.out⟩ | exact ⟨HZA.out, by show y1 ≤ 16; omega⟩ | exact ⟨HTq.out, HC3.out⟩ | exact ⟨HZB'.out, by show y2 ≤ 16; omega⟩ | exact ⟨HNq.out, Nat.le_refl _⟩))
      (try rw [World.size_alloc] at HL)
      have HB1027 := Lib.hid (HB1026.out.alloc HB1026.out.size (.cells #[.slice pb lb cb, .slice (some ⟨w8.heap.size, 0, none⟩) y1 16, .slice s3 lp c3, .slice (some ⟨w8.heap.size, 0, none⟩) y2 16, .slice (some ⟨w8.heap.size + 1, 0, none⟩) 16 16] 22))
      have HG1027_17 := Lib.hid (blk_alloc HG1026_17.out (.cells #[.slice pb lb cb, .slice (some ⟨w8.heap.size, 0, none⟩) y1 16, .slice s3 lp c3, .slice (some ⟨w8.heap.size, 0, none⟩) y2 16, .slice (some ⟨w8.heap.size + 1, 0, none⟩) 16 16] 22))
      refine hK.out _ _ (HB1027.out) (fun hHeld => ?_)
      clear hK K
      (try simp only [Act.put, List.setIfInBounds_toArray, List.set_cons_zero, List.set_cons_succ])
      refine wpAnyH_ready (rs := [19]) (by kernel_rfl) (by simp) ?_
      refine AllReadyH.cons (o := ({ dst := some 111, op := Op.call { callee := Callee.value (Operand.func 26), args := #[Operand.tmp 92, Operand.tmp 110], argTypes := #[35, 24] }, type := 51, pos := "more.go:32", after := #[{ on := 0, ground := Ground.data }, { on := 18, ground := Ground.data }], guard := none } : Oper)) rfl (fun K hK => ?_) AllReadyH.nil
      go_simp
      go_at_call 26
      refine (HM5.out _ _ _ _ HL.out (by show 5 ≤ 1099511627776; decide)).mono ?_
      rintro e w1028 ⟨rfl, hb1028⟩
      have HB1028 := Lib.hid (HB1027.out.trans (hb1028.mono HB1027.out.size))
      have HG1028_17 := Lib.hid (Below.blk hb1028 HG1027_17.out (blk_lt HG1027_17.out))
      clear hb1028
      (try dsimp only)
      refine hK.out _ _ (HB1028.out) (fun hHeld => ?_)
      clear hK K
      (try simp only [Act.put, List.setIfInBounds_toArray, List.set_cons_zero, List.set_cons_succ])
      refine wpAnyH_ready (rs := [21]) (by kernel_rfl) (by simp) ?_
      refine AllReadyH.cons (o := ({ dst := none, op := Op.store 51 (Operand.tmp 17) (Operand.tmp 111), type := 0, pos := "more.go:32", after := #[{ on := 20, ground := Ground.data }, { on := 19, ground := Ground.data }, { on := 19, ground := Ground.chain }, { on := 0, ground := Ground.phase }, { on := 1, ground := Ground.phase }, { on := 2, ground := Ground.phase }, { on := 3, ground := Ground.phase }, { on := 4, ground := Ground.phase }, { on := 5, ground := Ground.phase }, { on := 6, ground := Ground.phase }, { on := 7, ground := Ground.phase }, { on := 8, ground := Ground.phase }, { on := 9, ground := Ground.phase }, { on := 10, ground := Ground.phase }, { on := 11, ground := Ground.phase }, { on := 12, ground := Ground.phase }, { on := 13, ground := Ground.phase }, { on := 14, ground := Ground.phase }, { on := 15, ground := Ground.phase }, { on := 16, ground := Ground.phase }, { on := 17, ground := Ground.phase }, { on := 18, ground := Ground.phase }, { on := 19, ground := Ground.phase }, { on := 20, ground := Ground.phase }], guard := none } : Oper)) rfl (fun K hK => ?_) AllReadyH.nil
      refine step_store_whole rfl 51 (.tmp 17) (.tmp 111) rfl g1026_ _ _ _ HG1028_17.out rfl rfl (by rw [arr_size, arr_size, TGL.out, HZT.out]) (arrTag tg TGL.out) (all_arr _ _) ?_
      intro w1029 hb1029 hk1029 hz1029
      have HB1029 := Lib.hid (HB1028.out.trans (hk1029.toBelow HB1028.out.size (by rintro i rfl; exact HLE1026.out)))
      have HG1029_17 := Lib.hid hb1029
      clear hb1029 hk1029 hz1029
      refine hK.out _ _ (HB1029.out) (fun hHeld => ?_)
      clear hK K
      (try simp only [Act.put])
      refine wpAnyH_done (by kernel_rfl) ?_ _
      go_wp2_with fail
      go_meet
      exact ⟨_, rfl, HLE1026.out, HG1029_17.out, HB1029.out⟩
    exact AllReadyH.nil
  case rest =>
  obtain ⟨wy, rfl⟩ : ∃ x : World, x = wc := ⟨_, rfl⟩
  obtain ⟨gt, rfl, hgt, hgt2, hbw⟩ := hcut
  have HBy := Lib.hid (HBz.out.after hbw)
  have HSy := Lib.hid (HSz.out.below hbw)
  have HTy := Lib.hid (src_arr hgt2 16 TGL.out)
  clear hbw hgt hgt2
  obtain ⟨ad2, rfl, -⟩ := HSy.out.cell 0 (by omega)
  have hdd := src_if' HSy.out c2 lp 16 HC2.out (by omega)
  rw [HSDR.out, List.take_of_length_le (by rw [TGL.out]; exact Nat.le_refl _)] at hdd
  have HDD := Lib.hid hdd
  have nk : IntKind.i64.wrap (lp : Int) = (lp : Int) := IntWalk.i64_in _ (by omega)
  clear hdd er1 er2
  go_upto_region 19 with fail
  have HB0 := Lib.hid (show Below wy.heap.size wy wy.drew from ⟨rfl, rfl, rfl, Nat.le_refl _, fun _ _ => rfl⟩)
  refine wp_region_held_drew (S := (fun w' => Go.RowKit.Below wy.heap.size wy w')) (by kernel_rfl) (HB0.out) (fun hHeld => ?_)
  refine wpAnyH_take (i := 0) (oi := ({ dst := some 112, op := Op.move (Operand.tmp 10), type := 22, pos := "more.go:33", after := #[], guard := none } : Oper)) (v := ?v2001) rfl (by kernel_rfl) (by kernel_rfl) (by kernel_rfl) (fun _ _ _ h => h) (Or.inl ⟨by rfl, ?hy2001⟩) (by assumption) ?rest2001
  case hy2001 => (intro w hSw; (try dsimp only at hSw); go_simp; try (with_reducible rfl))
  (try simp only [Act.put, List.setIfInBounds_toArray, List.set_cons_zero, List.set_cons_succ])
  refine wpAnyH_take (i := 1) (oi := ({ dst := some 113, op := Op.move (Operand.tmp 2), type := 22, pos := "more.go:33", after := #[], guard := none } : Oper)) (v := ?v2002) rfl (by kernel_rfl) (by kernel_rfl) (by kernel_rfl) (fun _ _ _ h => h) (Or.inl ⟨by rfl, ?hy2002⟩) (by assumption) ?rest2002
  case hy2002 => (intro w hSw; (try dsimp only at hSw); go_simp; try (with_reducible rfl))
  (try simp only [Act.put, List.setIfInBounds_toArray, List.set_cons_zero, List.set_cons_succ])
  refine wpAnyH_take (i := 2) (oi := ({ dst := some 114, op := Op.call { callee := Callee.builtin Builtin.len, args := #[Operand.tmp 113], argTypes := #[22] }, type := 3, pos := "more.go:33", after := #[{ on := 1, ground := Ground.data }], guard := none } : Oper)) (v := ?v2003) rfl (by kernel_rfl) (by kernel_rfl) (by kernel_rfl) (fun _ _ _ h => h) (Or.inl ⟨by rfl, ?hy2003⟩) (by assumption) ?rest2003
  case hy2003 => (intro w hSw; (try dsimp only at hSw); go_simp; try (with_reducible rfl))
  (try simp only [Act.put, List.setIfInBounds_toArray, List.set_cons_zero, List.set_cons_succ])
  refine wpAnyH_take (i := 3) (oi := ({ dst := some 115, op := Op.slice 22 (Operand.tmp 112) (some (Operand.tmp 114)) none none, type := 22, pos := "more.go:33", after := #[{ on := 0, ground := Ground.data }, { on := 2, ground := Ground.data }], guard := none } : Oper)) (v := ?v2004) rfl (by kernel_rfl) (by kernel_rfl) (by kernel_rfl) (fun _ _ _ h => h) (Or.inl ⟨by rfl, ?hy2004⟩) (by assumption) ?rest2004
  case hy2004 => (intro w hSw; (try dsimp only at hSw); go_simp; try (with_reducible rfl))
  (try simp only [Act.put, List.setIfInBounds_toArray, List.set_cons_zero, List.set_cons_succ])
  refine wpAnyH_take (i := 4) (oi := ({ dst := some 116, op := Op.convert 22 9 (Operand.tmp 115), type := 9, pos := "more.go:33", after := #[{ on := 3, ground := Ground.data }], guard := none } : Oper)) (v := (.string sg)) rfl (by kernel_rfl) (by kernel_rfl) (by kernel_rfl) (fun _ _ _ h => h) (Or.inl ⟨by rfl, ?hy2005⟩) (by assumption) ?rest2005
  case hy2005 => (intro w hSw; (try dsimp only at hSw); have hcv := src_string (c := c2 - lp) (HDD.out.below hSw); rw [HSG.out] at hcv; go_simp; try (with_reducible rfl))
  (try simp only [Act.put, List.setIfInBounds_toArray, List.set_cons_zero, List.set_cons_succ])
  refine wpAnyH_take (i := 5) (oi := ({ dst := some 117, op := Op.slice 51 (Operand.tmp 17) none none none, type := 22, pos := "more.go:33", after := #[], guard := none } : Oper)) (v := ?v2006) rfl (by kernel_rfl) (by kernel_rfl) (by kernel_rfl) (fun _ _ _ h => h) (Or.inl ⟨by rfl, ?hy2006⟩) (by assumption) ?rest2006
  case hy2006 => (intro w hSw; (try dsimp only at hSw); go_simp; try (with_reducible rfl))
  (try simp only [Act.put, List.setIfInBounds_toArray, List.set_cons_zero, List.set_cons_succ])
  refine wpAnyH_take (i := 6) (oi := ({ dst := some 118, op := Op.convert 22 9 (Operand.tmp 117), type := 9, pos := "more.go:33", after := #[{ on := 5, ground := Ground.data }], guard := none } : Oper)) (v := (.string sg)) rfl (by kernel_rfl) (by kernel_rfl) (by kernel_rfl) (fun _ _ _ h => h) (Or.inl ⟨by rfl, ?hy2007⟩) (by assumption) ?rest2007
  case hy2007 => (intro w hSw; (try dsimp only at hSw); have hcv := src_string (c := 16) (HTy.out.below hSw); rw [HSG.out] at hcv; go_simp; try (with_reducible rfl))
  (try simp only [Act.put, List.setIfInBounds_toArray, List.set_cons_zero, List.set_cons_succ])
  refine wpAnyH_take (i := 7) (oi := ({ dst := some 119, op := Op.binOp BinOp.eql 9 (Operand.tmp 116) (Operand.tmp 118) 9, type := 4, pos := "more.go:33", after := #[{ on := 4, ground := Ground.data }, { on := 6, ground := Ground.data }], guard := none } : Oper)) (v := (.bool true)) rfl (by kernel_rfl) (by kernel_rfl) (by kernel_rfl) (fun _ _ _ h => h) (Or.inl ⟨by rfl, ?hy2008⟩) (by assumption) ?rest2008
  case hy2008 => (intro w hSw; (try dsimp only at hSw); go_simp; try (with_reducible rfl))
  (try simp only [Act.put, List.setIfInBounds_toArray, List.set_cons_zero, List.set_cons_succ])
  refine wpAnyH_take (i := 8) (oi := ({ dst := some 8, op := Op.assign (Operand.tmp 119), type := 4, pos := "more.go:33", after := #[{ on := 7, ground := Ground.data }, { on := 0, ground := Ground.phase }, { on := 1, ground := Ground.phase }, { on := 2, ground := Ground.phase }, { on := 3, ground := Ground.phase }, { on := 4, ground := Ground.phase }, { on := 5, ground := Ground.phase }, { on := 6, ground := Ground.phase }, { on := 7, ground := Ground.phase }], guard := none } : Oper)) (v := ?v2009) rfl (by kernel_rfl) (by kernel_rfl) (by kernel_rfl) (fun _ _ _ h => h) (Or.inl ⟨by rfl, ?hy2009⟩) (by assumption) ?rest2009
  case hy2009 => (intro w hSw; (try dsimp only at hSw); go_simp; try (with_reducible rfl))
  (try simp only [Act.put, List.setIfInBounds_toArray, List.set_cons_zero, List.set_cons_succ])
  refine wpAnyH_done (by kernel_rfl) ?_ _
  have HFIN9 := HB0
  (try simp only [Exit.then])
  go_wp2_with fail
  all_goals (go_ret; exact ⟨rfl, HBy.out.below.trans (HFIN9.out.mono HBy.out.below.size)⟩)
end Go.Proofs.Ytdaaigodpglnnaa.Ae
