/- The document's Unwrap: what it answers. Condition: 32 bytes; the bytes lie there; the table holds what its text lays. -/
import Derived.Test.YtogebegdgfdijaaDoorMn
import Derived.Test.YtogebegdgfdijaaDoorRb
import Derived.Test.YtogebegdgfdijaaDoorMm
import Derived.Test.YtogebegdgfdijaaDoorAeG
set_option maxRecDepth 100000
set_option maxHeartbeats 16000000
set_option linter.unusedSimpArgs false
set_option linter.unusedVariables false
namespace Go.Proofs.YtogebegdgfdijaaDoor.Wr
open Go.RowKit Lm Cu Sl Fp
theorem wpList_copyc {w : World} {ops : Array Oper} {rest : List Oper} {o : Oper} {a : Act} {Q : Exit → Act → World → Prop} (hgd : o.guard = none) (d s : Operand)
    (ho : o.op = .call { callee := .builtin .copy, args := #[d, s], argTypes := #[25, 25] }) (g m c n cs : Nat) (ad : Addr) (cur xs : List Int) (t : TypeId)
    (hd : a.eval d = .slice (some ⟨g, 0, none⟩) m c) (hs : a.eval s = .slice (some ad) n cs) (hg : w.heap[g]? = some (.cells (arr .u8 cur) t (0, 0))) (hsrc : Src w (some ad) m xs) (hnm : m ≤ n) (hfit : m ≤ cur.length)
    (h : ∀ w', w'.heap[g]? = some (.cells (arr .u8 (xs ++ cur.drop m)) t (0, 0)) → Kept (fun x => x = g) w w' → wpList Tryd.prog ops Q rest (a.put o.dst (.int .i64 (m : Int))) w') : wpList Tryd.prog ops Q (o :: rest) a w := by
  refine wpList_plain hgd fun K hK => ?_
  have hl := hsrc.len
  have hrun := run_copy_row (P := Tryd.prog) w 25 25 o.type 5 g 0 m c ad n cs (arr .u8 cur) t (xs.map (Value.int .u8)) Tryd.underlying25 (by kernel_rfl) hg (by rw [List.length_map, hl]; exact (Nat.min_eq_right hnm).symm) (src_news hsrc _ rfl) (by rw [List.length_map, hl, arr_size]; omega) (one_ints _ _)
  unfold Oper.wp execOp
  simp only [ho, resolve, invoke, builtin, Sem.run_bind, Sem.run_pure, Result.andThen_ok, List.map_toArray, List.map_cons, List.map_nil, hd, hs, hrun]
  have e : ((arr .u8 cur).toList.take 0 ++ xs.map (Value.int .u8) ++ (arr .u8 cur).toList.drop (0 + (xs.map (Value.int .u8)).length)).toArray = arr .u8 (xs ++ cur.drop m) := by
    show ((cur.map (Value.int .u8)).take 0 ++ xs.map (Value.int .u8) ++ (cur.map (Value.int .u8)).drop (0 + (xs.map (Value.int .u8)).length)).toArray = ((xs ++ cur.drop m).map (Value.int .u8)).toArray
    rw [List.length_map, hl, List.map_append, List.map_drop, List.take_zero, List.nil_append, Nat.zero_add]
  rw [e, List.length_map, hl]
  exact hK _ _ (h _ (setRow_heap w g _ _ t _ hg) ⟨rfl, rfl, rfl, by simp [World.setRow], fun k _ hne => setRow_other w g k _ hne⟩)
theorem runwrap_any {ss bs : List Int} (S : Nat) (sb : Option Addr) (nb cb : Nat) (w : World) (hS : K32 ss S) (hB : Src w sb nb bs) (hc : nb ≤ cb) (bB : bytes bs) (hk : Ha.TabK w) :
    Calls Tryd.prog 8 #[.agg (arr .u8 ss), .slice sb nb cb] w fun e w' => e = .returned (.tuple #[.agg (arr .u8 (ures S bs).1), .int .i64 (ures S bs).2]) ∧ Below w.heap.size w w' := by
  have hl := hB.len
  obtain ⟨zn, hzn⟩ : ∃ zs : List Int, zs = List.replicate 32 0 := ⟨_, rfl⟩
  have HZzn : Hid (∀ w, (zeroValue 23).run Tryd.prog w = .ok (.agg (arr .u8 zn)) w) := Lib.hid (by intro w; rw [hzn]; exact zero_num w)
  have HLzn : Hid (zn.length = 32) := Lib.hid (by rw [hzn]; rfl)
  have HZN0 : Hid (n32 0 = zn) := Lib.hid (by rw [hzn]; exact zero_n32.symm)
  have HZD : Hid (zn.drop 32 = []) := Lib.hid (by rw [hzn]; rfl)
  have HBZ : Hid (∀ w, (Instr.build 23 #[]).run Tryd.prog w = .ok (.agg (arr .u8 zn)) w) := Lib.hid (by intro w; rw [hzn]; exact build_num0' w)
  have HSL := Lib.hid hS.len
  have HI0 := Lib.hid (Blk.two w (arr .u8 ss) (arr .u8 zn) 23 23)
  clear hzn
  by_cases h80 : nb = 80
  rotate_left
  · have hu : ures S bs = (n32 0, 4) := by unfold ures; rw [if_neg (by rw [hl]; exact h80)]
    rw [hu, HZN0.out]
    have hne : ((nb : Int) == 80) = false := by rw [beq_eq_false_iff_ne]; omega
    have hne2 : ¬ (nb : Int) = 80 := by omega
    clear hu hS hB hc bB h80 hl hk
    go_enter Tryd.func8, Tryd.ntmps8
    go_upto_region 1 with (first | ((with_reducible refine aS 4 ?_); refine wpList_alloc_row rfl 23 rfl _ (HZzn.out _) ?_))
    (try simp only [World.size_alloc, Act.put, sA, sZ, sS])
    generalize ((w.alloc (.cells (arr .u8 ss) 23)).alloc (.cells (arr .u8 zn) 23)) = wb at HI0 ⊢
    go_wp2_with (first | ((with_reducible refine aS 16 ?_); refine wpList_build (by rfl) 23 _ rfl #[] rfl _ (HBZ.out _) ?_) | ((with_reducible refine aT 4 ?_); refine wpList_store_whole rfl 23 _ _ rfl (w.heap.size + 1) _ _ 23 (HI0.out.get 1 rfl) rfl rfl (arr_len2 _ _ HLzn.out HLzn.out) (num_s HLzn.out) (all_arr _ _) ?_; intro w1 hb1 hk1 hz1; have HI1 := Lib.hid (HI0.out.put 1 rfl hk1 hb1); clear hb1 hk1 hz1))
    (try simp only [Exit.then])
    refine bodyPost_ret (results_cell_tmp_row rfl _ _ (w.heap.size + 1) 23 _ (0, 0) _ _ rfl (HI1.out.get 1 rfl) Tryd.underlying23 rfl (num_s HLzn.out) rfl) rfl ?_
    exact ⟨rfl, HI1.out.below⟩
  subst h80
  obtain ⟨ad, rfl⟩ : ∃ a, sb = some a := by
    obtain ⟨a, e, _⟩ := hB.cell 0 (by decide)
    exact ⟨a, e⟩
  obtain ⟨g0, o0, rfl⟩ : ∃ b o, ad = ⟨b, o, none⟩ := by
    obtain ⟨a, e, hcell⟩ := hB.cell 0 (by decide)
    cases e
    rw [show ad.add 0 = ad from rfl] at hcell
    exact plain_addr hcell
  have hs0 := fun (u : World) (h : Src u (some ⟨g0, o0, none⟩) 80 bs) => Src.take h 32 (by decide)
  have hs1 := fun (u : World) (h : Src u (some ⟨g0, o0, none⟩) 80 bs) => Src.part h 32 48 (by decide)
  have hd : (bs.drop 32).length = 48 := by rw [List.length_drop, hl]
  rw [List.take_of_length_le (show (bs.drop 32).length ≤ 48 by rw [hd]; exact Nat.le_refl _)] at hs1
  have be0 : bytes (bs.take 32) := bytes_take bB 32
  have hel : (bs.take 32).length = 32 := by rw [List.length_take, hl]; rfl
  have hE : K32 (bs.take 32) (hnum (bs.take 32)) := ⟨(n32_hnum be0 hel).symm, by have := hnum_lt be0; rwa [hel] at this⟩
  have bb1 : bytes (bs.drop 32) := bytes_drop bB 32
  have p256 : (256 : Nat) ^ 32 = 2 ^ 256 := by decide
  have hS2 : S < 2 ^ 256 := by rw [← p256]; exact hS.2
  have hE2 : hnum (bs.take 32) < 2 ^ 256 := by rw [← p256]; exact hE.2
  have hsh2 : ∀ u : World, Calls Tryd.prog 15 #[.agg (arr .u8 ss), .agg (arr .u8 (bs.take 32))] u fun e w' => e = .returned (.tuple #[.agg (arr .u8 (n32 (x25519 S (hnum (bs.take 32))))), .int .i64 (if x25519 S (hnum (bs.take 32)) = 0 then 21 else 0)]) ∧ Below u.heap.size u w' := by
    intro u
    have := Rd.shared_any S (hnum (bs.take 32)) u hS2 hE2
    rw [show nar (dig 256 32 (hnum (bs.take 32))) = bs.take 32 from hE.1.symm, show nar (dig 256 32 S) = ss from hS.1.symm] at this
    exact this
  have hpb2 : ∀ u : World, Calls Tryd.prog 16 #[.agg (arr .u8 ss)] u fun e w' => e = .returned (.agg (arr .u8 (n32 (x25519 S 9)))) ∧ Below u.heap.size u w' := by
    intro u
    rw [hS.1]
    exact Rd.lpub_any S u hS2
  have hu : ures S bs = if x25519 S (hnum (bs.take 32)) = 0 then (n32 0, 21)
    else if Ae.okay (wkey (bs.take 32) (n32 (x25519 S (hnum (bs.take 32))))) n0 (bs.drop 32) (n32 (x25519 S 9)) then (Ae.opened (wkey (bs.take 32) (n32 (x25519 S (hnum (bs.take 32))))) n0 (bs.drop 32) (n32 (x25519 S 9)), 0)
    else (n32 0, 10) := by rw [ures, if_pos hl]
  obtain ⟨X, hX⟩ : ∃ x, x = x25519 S (hnum (bs.take 32)) := ⟨_, rfl⟩
  rw [← hX] at hu hsh2
  obtain ⟨e0, he0⟩ : ∃ x, x = bs.take 32 := ⟨_, rfl⟩
  obtain ⟨b1, hb1⟩ : ∃ x, x = bs.drop 32 := ⟨_, rfl⟩
  rw [← he0] at hu hs0 hel be0 hsh2
  rw [← hb1] at hu hs1 hd bb1
  obtain ⟨zs, hzs⟩ : ∃ x, x = n32 X := ⟨_, rfl⟩
  obtain ⟨pl, hpl⟩ : ∃ x, x = n32 (x25519 S 9) := ⟨_, rfl⟩
  rw [← hzs, ← hpl] at hu
  rw [← hzs] at hsh2
  rw [← hpl] at hpb2
  have hzl : zs.length = 32 := by rw [hzs]; exact n32_len _
  have hpll : pl.length = 32 := by rw [hpl]; exact n32_len _
  have bzs : bytes zs := by rw [hzs]; exact n32_bytes _
  have bpl : bytes pl := by rw [hpl]; exact n32_bytes _
  have hwk := fun (u : World) (h : Ha.TabK u) => wrapping_any e0 zs u hel hzl be0 bzs h
  obtain ⟨kv, hkv⟩ : ∃ x, x = wkey e0 zs := ⟨_, rfl⟩
  have hkl : kv.length = 32 := by rw [hkv]; exact wkey_len _ _
  have bkv : bytes kv := by rw [hkv]; exact wkey_bytes _ _
  rw [← hkv] at hu hwk
  obtain ⟨ok, hok⟩ : ∃ x, x = Ae.okay kv n0 b1 pl := ⟨_, rfl⟩
  obtain ⟨OP, hOP⟩ : ∃ x, x = Ae.opened kv n0 b1 pl := ⟨_, rfl⟩
  have hop : ∀ (u : World) (g1 g2 : Addr) (c : Nat), 48 ≤ c → Src u (some g1) 48 b1 → Src u (some g2) 32 pl → Calls Tryd.prog 17 #[.agg (arr .u8 kv), .agg (arr .u8 n0), .slice (some g1) 48 c, .slice (some g2) 32 32] u fun e w' => ∃ (s : Option Addr) (c : Nat), e = .returned (.tuple #[.slice s OP.length c, .bool ok]) ∧ (Src w' s OP.length OP ∧ (OP ≠ [] → ∃ g, s = some ⟨g, 0, none⟩)) ∧ Below u.heap.size u w' := by
    intro u g1 g2 c hc48 h1 h2
    refine (Ae.ropen_any kv n0 b1 pl (some g1) (some g2) 48 32 c 32 u hkl n0_len bkv n0_bytes h1 h2 bb1 bpl (by decide) (by decide) hc48).mono ?_
    rintro e w' ⟨v, rfl, ho, hb⟩
    rw [← hOP] at ho
    obtain ⟨sa, c', rfl, -, -, h3, hor⟩ := ho.form
    refine ⟨sa, c', by rw [hok], ⟨h3, fun hne => ?_⟩, hb⟩
    rcases hor with ⟨-, h0, -⟩ | ⟨g, rfl, -, -⟩
    · exact absurd h0 hne
    · exact ⟨g, rfl⟩
  have hol : ok = true → OP.length = 32 := fun h => by rw [hOP]; exact opened_len _ _ _ _ (by rw [← hok]; exact h) hd
  rw [← hok, ← hOP] at hu
  rw [hu]
  obtain ⟨nv, hnv⟩ : ∃ x, x = n0 := ⟨_, rfl⟩
  rw [← hnv] at hop
  have HN0L : Hid (nv.length = 12) := Lib.hid (by rw [hnv]; rfl)
  have HBN : Hid (∀ w, (Instr.build 40 #[]).run Tryd.prog w = .ok (.agg (arr .u8 nv)) w) := Lib.hid (by intro w; rw [hnv]; exact build_non w)
  obtain ⟨er, her⟩ : ∃ x : Int, x = if X = 0 then 21 else 0 := ⟨_, rfl⟩
  rw [← her] at hsh2
  obtain ⟨m, hm⟩ : ∃ m, m = OP.length := ⟨_, rfl⟩
  rw [← hm] at hop hol
  have HSH := Lib.hid hsh2
  have HPB := Lib.hid hpb2
  have HWK := Lib.hid hwk
  have HOP := Lib.hid hop
  have HOL := Lib.hid hol
  have HM := Lib.hid hm
  have HS0 := Lib.hid hs0
  have HS1 := Lib.hid hs1
  have HEL := Lib.hid hel
  have HZL := Lib.hid hzl
  have HPL := Lib.hid hpll
  have HKVL := Lib.hid hkl
  have HER := Lib.hid her
  have HB := Lib.hid hB
  have HC := Lib.hid hc
  have HTK := Lib.hid hk
  have HSC := Lib.hid (fun u => slice_32 u ⟨g0, o0, none⟩ cb hc)
  have hc32 : ¬ (cb : Int) < 32 := by omega
  clear hu hsh2 hpb2 hzs hpl hzl hpll bzs bpl hwk hkv hkl bkv hok hOP hop hol hnv her hm hs0 hs1 hd be0 hel hE bb1 hX he0 hb1 hS hB bB hl hk p256 hS2 hE2
  go_enter Tryd.func8, Tryd.ntmps8
  go_upto_region 1 with (first | ((with_reducible refine aS 4 ?_); refine wpList_alloc_row rfl 23 rfl _ (HZzn.out _) ?_))
  (try simp only [World.size_alloc, Act.put, sA, sZ, sS])
  generalize ((w.alloc (.cells (arr .u8 ss) 23)).alloc (.cells (arr .u8 zn) 23)) = wb at HI0 ⊢
  go_upto_region 5 with (first | ((with_reducible refine aS 6 ?_); refine wpList_alloc_row rfl 23 rfl _ (HZzn.out _) ?_; have HI1 := Lib.hid (HI0.out.alloc (arr .u8 zn) 23); generalize wb.heap.size = g6 at HI1 ⊢; generalize wb.alloc (.cells (arr .u8 zn) 23) = w1 at HI1 ⊢) | ((with_reducible refine aS 19 ?_); refine wpList_copyc rfl (.tmp 17) (.tmp 18) rfl g6 32 32 80 cb ⟨g0, o0, none⟩ zn e0 23 rfl rfl (HI1.out.get 2 rfl) (HS0.out _ (HB.out.below HI1.out.below)) (by decide) (by rw [HLzn.out]; exact Nat.le_refl _) ?_; rw [HZD.out, List.append_nil]; intro w2 hb9 hk9; have HI2 := Lib.hid (HI1.out.put 2 rfl hk9 hb9); clear hb9 hk9))
  (try simp only [World.size_alloc, Act.put, sA, sZ, sS])
  go_upto_region 6 with (first | ((with_reducible refine aS 21 ?_); refine wpList_load_part rfl 23 _ rfl (w.heap.size) 0 _ 23 (0, 0) _ (HI2.out.get 0 rfl) rfl .u8 ss (arr_part _ _) Tryd.underlying23 rfl (num_i HSL.out) ?_) | ((with_reducible refine aS 22 ?_); refine wpList_load_part rfl 23 _ rfl (g6) 0 _ 23 (0, 0) _ (HI2.out.get 2 rfl) rfl .u8 e0 (arr_part _ _) Tryd.underlying23 rfl (num_i HEL.out) ?_) | ((with_reducible show Calls _ 15 _ _ _); go_at_call 15; refine (HSH.out _).mono ?_; rintro e w3 ⟨rfl, hb3⟩; have HI3 := Lib.hid (HI2.out.kept hb3); clear hb3) | ((with_reducible refine aS 7 ?_); refine wpList_alloc_row rfl 23 rfl _ (HZzn.out _) ?_; have HI4 := Lib.hid (HI3.out.alloc (arr .u8 zn) 23); generalize w3.heap.size = g7 at HI4 ⊢; generalize w3.alloc (.cells (arr .u8 zn) 23) = w4 at HI4 ⊢) | ((with_reducible refine aT 7 ?_); refine wpList_store_whole rfl 23 _ _ rfl (g7) _ _ 23 (HI4.out.get 3 rfl) rfl rfl (arr_len2 _ _ HZL.out HLzn.out) (num_s HZL.out) (all_arr _ _) ?_; intro w5 hb5 hk5 hz5; have HI5 := Lib.hid (HI4.out.put 3 rfl hk5 hb5); clear hb5 hk5 hz5))
  (try simp only [World.size_alloc, Act.put, sA, sZ, sS])
  by_cases hz : X = 0
  · have e1 := HER.out
    rw [if_pos hz] at e1
    subst e1
    have HZ := Lib.hid hz
    clear HER hz
    go_wp2_with (first | ((with_reducible refine aS 28 ?_); refine wpList_build (by rfl) 23 _ rfl #[] rfl _ (HBZ.out _) ?_) | ((with_reducible refine aT 4 ?_); refine wpList_store_whole rfl 23 _ _ rfl (w.heap.size + 1) _ _ 23 (HI5.out.get 1 rfl) rfl rfl (arr_len2 _ _ HLzn.out HLzn.out) (num_s HLzn.out) (all_arr _ _) ?_; intro w20 hb20 hk20 hz20; have HI20 := Lib.hid (HI5.out.put 1 rfl hk20 hb20); clear hb20 hk20 hz20))
    (try simp only [Exit.then])
    refine bodyPost_ret (results_cell_tmp_row rfl _ _ (w.heap.size + 1) 23 _ (0, 0) _ _ rfl (HI20.out.get 1 rfl) Tryd.underlying23 rfl (num_s HLzn.out) rfl) rfl ?_
    exact ⟨by first | (rw [HZN0.out]; rfl) | (rw [if_pos HZ.out]; simp only [HZN0.out]; rfl), HI20.out.below⟩
  have e1 := HER.out
  rw [if_neg hz] at e1
  subst e1
  have HZ := Lib.hid hz
  clear HER hz
  go_upto_region 9 with (first | ((with_reducible refine aS 30 ?_); refine wpList_load_part rfl 23 _ rfl (w.heap.size) 0 _ 23 (0, 0) _ (HI5.out.get 0 rfl) rfl .u8 ss (arr_part _ _) Tryd.underlying23 rfl (num_i HSL.out) ?_) | ((with_reducible show Calls _ 16 _ _ _); go_at_call 16; refine (HPB.out _).mono ?_; rintro e w6 ⟨rfl, hb6⟩; have HI6 := Lib.hid (HI5.out.kept hb6); clear hb6) | ((with_reducible refine aS 9 ?_); refine wpList_alloc_row rfl 23 rfl _ (HZzn.out _) ?_; have HI7 := Lib.hid (HI6.out.alloc (arr .u8 zn) 23); generalize w6.heap.size = g9 at HI7 ⊢; generalize w6.alloc (.cells (arr .u8 zn) 23) = w7 at HI7 ⊢) | ((with_reducible refine aT 9 ?_); refine wpList_store_whole rfl 23 _ _ rfl (g9) _ _ 23 (HI7.out.get 4 rfl) rfl rfl (arr_len2 _ _ HPL.out HLzn.out) (num_s HPL.out) (all_arr _ _) ?_; intro w8 hb8 hk8 hz8; have HI8 := Lib.hid (HI7.out.put 4 rfl hk8 hb8); clear hb8 hk8 hz8))
  (try simp only [World.size_alloc, Act.put, sA, sZ, sS])
  have HK0 := Lib.hid ((Kept.refl (fun _ => False) w8).drew)
  have HBd := Lib.hid (HI8.out.drew)
  refine wp_region_held_drew (S := (fun w' => Kept (fun _ => False) w8 w')) (by kernel_rfl) (HK0.out) (fun hHeld => ?_)
  generalize w8.drew = wd at HK0 HBd hHeld ⊢
  refine' wpAnyH_take (i := 0) (oi := (⟨some 33, _, _, _, _, none⟩ : Oper)) (v := _) rfl (by kernel_rfl) (by kernel_rfl) (by kernel_rfl) (fun _ _ _ h => h) (yieldsIf_load_mid (by rfl) _ _ rfl _ _ rfl (e0.map (Value.int .u8)) _ ?hS7001 Tryd.underlying23 rfl (by rw [List.length_map]; exact num_i HEL.out)) (by assumption) ?rest7001
  case hS7001 => (intro w hSw; (try dsimp only at hSw); exact range_part (hSw.blk (HI8.out.get 2 rfl) (fun e => e.elim)) 0 _ (by rw [List.length_map]; exact arr_part _ _))
  (try simp only [Act.put, sA, sZ, sS])
  refine' wpAnyH_take (i := 1) (oi := (⟨some 34, _, _, _, _, none⟩ : Oper)) (v := _) rfl (by kernel_rfl) (by kernel_rfl) (by kernel_rfl) (fun _ _ _ h => h) (yieldsIf_load_mid (by rfl) _ _ rfl _ _ rfl (zs.map (Value.int .u8)) _ ?hS7002 Tryd.underlying23 rfl (by rw [List.length_map]; exact num_i HZL.out)) (by assumption) ?rest7002
  case hS7002 => (intro w hSw; (try dsimp only at hSw); exact range_part (hSw.blk (HI8.out.get 3 rfl) (fun e => e.elim)) 0 _ (by rw [List.length_map]; exact arr_part _ _))
  (try simp only [Act.put, sA, sZ, sS])
  refine wpAnyH_take (i := 3) (oi := (⟨some 36, _, _, _, _, none⟩ : Oper)) (v := .agg (arr .u8 nv)) rfl (by kernel_rfl) (by kernel_rfl) (by kernel_rfl) (fun _ _ _ h => h) (Or.inl ⟨by rfl, ?hy7003⟩) (by assumption) ?rest7003
  case hy7003 => (intro w hSw; (try dsimp only at hSw); exact exec_build_l 40 _ rfl #[] rfl _ (HBN.out _))
  (try simp only [Act.put, sA, sZ, sS])
  refine wpAnyH_take (i := 4) (oi := (⟨some 37, _, _, _, _, none⟩ : Oper)) (v := .slice (some ⟨g0, o0, none⟩) 80 cb) rfl (by kernel_rfl) (by kernel_rfl) (by kernel_rfl) (fun _ _ _ h => h) (Or.inl ⟨by rfl, ?hy7004⟩) (by assumption) ?rest7004
  case hy7004 => (intro w hSw; (try dsimp only at hSw); first | rfl | kernel_rfl)
  (try simp only [Act.put, sA, sZ, sS])
  refine wpAnyH_take (i := 5) (oi := (⟨some 38, _, _, _, _, none⟩ : Oper)) (v := .slice (some (Addr.add ⟨g0, o0, none⟩ 32)) 48 (cb - 32)) rfl (by kernel_rfl) (by kernel_rfl) (by kernel_rfl) (fun _ _ _ h => h) (Or.inl ⟨by rfl, ?hy7005⟩) (by assumption) ?rest7005
  case hy7005 => (intro w hSw; (try dsimp only at hSw); exact exec_slice 25 (.tmp 37) (some (.const (.int .i64 32))) none rfl _ (some (.int .i64 32)) none rfl rfl rfl _ (HSC.out _))
  (try simp only [Act.put, sA, sZ, sS])
  refine wpAnyH_take (i := 6) (oi := (⟨some 39, _, _, _, _, none⟩ : Oper)) (v := .slice (some ⟨g9, 0, none⟩) 32 32) rfl (by kernel_rfl) (by kernel_rfl) (by kernel_rfl) (fun _ _ _ h => h) (Or.inl ⟨by rfl, ?hy7006⟩) (by assumption) ?rest7006
  case hy7006 => (intro w hSw; (try dsimp only at hSw); go_simp; try (with_reducible rfl))
  (try simp only [Act.put, sA, sZ, sS])
  refine wpAnyH_ready (rs := [2]) (by kernel_rfl) (by simp) ?_
  refine AllReadyH.cons (o := (⟨some 35, _, _, _, _, none⟩ : Oper)) rfl (fun K hK => ?_) AllReadyH.nil
  go_simp
  go_at_call 18
  refine (HWK.out _ (ktab_below HTK.out HBd.out.below)).mono ?_
  rintro e y36 ⟨rfl, hb9⟩
  have HY36 := Lib.hid (HBd.out.kept hb9)
  have HQ36 := Lib.hid (HK0.out.trans (Kept.of_below hb9))
  clear hb9
  (try dsimp only)
  refine hK.out _ _ (HQ36.out) (fun hHeld => ?_)
  clear hK K
  (try simp only [Act.put, sA, sZ, sS])
  refine wpAnyH_ready (rs := [7]) (by kernel_rfl) (by simp) ?_
  refine AllReadyH.cons (o := ({ dst := some 40, op := Op.call { callee := Callee.value (Operand.func 17), args := #[Operand.tmp 35, Operand.tmp 36, Operand.tmp 38, Operand.tmp 39], argTypes := #[23, 40, 25, 25] }, type := 43, pos := "curves.go:495", after := #[{ on := 2, ground := Ground.data }, { on := 3, ground := Ground.data }, { on := 5, ground := Ground.data }, { on := 6, ground := Ground.data }, { on := 2, ground := Ground.chain }], guard := none } : Oper)) rfl (fun K hK => ?_) AllReadyH.nil
  go_simp
  go_at_call 17
  refine (HOP.out _ _ _ _ (by have := HC.out; omega) (HS1.out _ (HB.out.below HY36.out.below)) (src_all (HY36.out.get 4 rfl) 32 HPL.out)).mono ?_
  rintro e y37 ⟨sq, cq, rfl, hsq, hb9⟩
  have HY37 := Lib.hid (HY36.out.kept hb9)
  have HQ37 := Lib.hid (HQ36.out.trans (Kept.of_below hb9))
  have HQ := Lib.hid hsq
  clear hsq
  clear hb9
  (try dsimp only)
  refine hK.out _ _ (HQ37.out) (fun hHeld => ?_)
  clear hK K
  (try simp only [Act.put, sA, sZ, sS])
  refine wpAnyH_take (i := 8) (oi := ({ dst := some 32, op := Op.move (Operand.tmp 40), type := 43, pos := "curves.go:495", after := #[{ on := 7, ground := Ground.data }], guard := none } : Oper)) (v := .tuple #[.slice sq m cq, .bool ok]) rfl (by kernel_rfl) (by kernel_rfl) (by kernel_rfl) (fun _ _ _ h => h) (Or.inl ⟨by rfl, ?hy7007⟩) (by assumption) ?rest7007
  case hy7007 => (intro w hSw; (try dsimp only at hSw); first | rfl | kernel_rfl | (go_simp; done))
  (try simp only [Act.put, sA, sZ, sS])
  refine wpAnyH_take (i := 9) (oi := (⟨some 41, _, _, _, _, none⟩ : Oper)) (v := .slice sq m cq) rfl (by kernel_rfl) (by kernel_rfl) (by kernel_rfl) (fun _ _ _ h => h) (Or.inl ⟨by rfl, ?hy7008⟩) (by assumption) ?rest7008
  case hy7008 => (intro w hSw; (try dsimp only at hSw); first | rfl | kernel_rfl | (go_simp; done))
  (try simp only [Act.put, sA, sZ, sS])
  refine wpAnyH_take (i := 10) (oi := (⟨some 42, _, _, _, _, none⟩ : Oper)) (v := .bool ok) rfl (by kernel_rfl) (by kernel_rfl) (by kernel_rfl) (fun _ _ _ h => h) (Or.inl ⟨by rfl, ?hy7009⟩) (by assumption) ?rest7009
  case hy7009 => (intro w hSw; (try dsimp only at hSw); first | rfl | kernel_rfl | (go_simp; done))
  (try simp only [Act.put, sA, sZ, sS])
  refine wpAnyH_take (i := 11) (oi := (⟨some 10, _, _, _, _, none⟩ : Oper)) (v := .slice sq m cq) rfl (by kernel_rfl) (by kernel_rfl) (by kernel_rfl) (fun _ _ _ h => h) (Or.inl ⟨by rfl, ?hy7010⟩) (by assumption) ?rest7010
  case hy7010 => (intro w hSw; (try dsimp only at hSw); first | rfl | kernel_rfl | (go_simp; done))
  (try simp only [Act.put, sA, sZ, sS])
  refine wpAnyH_take (i := 12) (oi := (⟨some 11, _, _, _, _, none⟩ : Oper)) (v := .bool ok) rfl (by kernel_rfl) (by kernel_rfl) (by kernel_rfl) (fun _ _ _ h => h) (Or.inl ⟨by rfl, ?hy7011⟩) (by assumption) ?rest7011
  case hy7011 => (intro w hSw; (try dsimp only at hSw); first | rfl | kernel_rfl | (go_simp; done))
  (try simp only [Act.put, sA, sZ, sS])
  refine wpAnyH_done (by kernel_rfl) ?_ _
  (try simp only [Exit.then])
  cases ok with
  | false =>
    go_wp2_with (first | ((with_reducible refine aS 45 ?_); refine wpList_build (by rfl) 23 _ rfl #[] rfl _ (HBZ.out _) ?_) | ((with_reducible refine aT 4 ?_); refine wpList_store_whole rfl 23 _ _ rfl (w.heap.size + 1) _ _ 23 (HY37.out.get 1 rfl) rfl rfl (arr_len2 _ _ HLzn.out HLzn.out) (num_s HLzn.out) (all_arr _ _) ?_; intro w21 hb21 hk21 hz21; have HI21 := Lib.hid (HY37.out.put 1 rfl hk21 hb21); clear hb21 hk21 hz21))
    (try simp only [Exit.then])
    refine bodyPost_ret (results_cell_tmp_row rfl _ _ (w.heap.size + 1) 23 _ (0, 0) _ _ rfl (HI21.out.get 1 rfl) Tryd.underlying23 rfl (num_s HLzn.out) rfl) rfl ?_
    exact ⟨by first | (rw [HZN0.out]; rfl) | (rw [if_neg HZ.out, if_neg Bool.false_ne_true]; simp only [HZN0.out]; rfl), HI21.out.below⟩
  | true =>
    obtain rfl : m = 32 := HOL.out rfl
    obtain ⟨hq1, hq2⟩ := HQ.out
    obtain ⟨gq, rfl⟩ := hq2 (fun e => by have := HM.out; rw [e] at this; exact absurd this (by decide))
    have HQ1 := Lib.hid hq1
    have HOPL : Hid (OP.length = 32) := Lib.hid HM.out.symm
    clear HQ hq1 hq2
    go_wp2_with (first | ((with_reducible refine aS 12 ?_); refine wpList_alloc_row rfl 23 rfl _ (HZzn.out _) ?_; have HQ30 := Lib.hid (HQ1.out.below ((Below.refl _ y37).alloc (Nat.le_refl _) (.cells (arr .u8 zn) 23))); have HI30 := Lib.hid (HY37.out.alloc (arr .u8 zn) 23); generalize y37.heap.size = g12 at HI30 ⊢; generalize y37.alloc (.cells (arr .u8 zn) 23) = w30 at HI30 HQ30 ⊢) | ((with_reducible refine aS 48 ?_); refine wpList_copy rfl (.tmp 46) (.tmp 47) rfl g12 32 32 32 cq ⟨gq, 0, none⟩ zn OP 23 rfl rfl (HI30.out.get 5 rfl) (HQ30.out) (Nat.le_refl _) (by rw [HLzn.out]; exact Nat.le_refl _) ?_; rw [HZD.out, List.append_nil]; intro w31 hb9 hk9; have HI31 := Lib.hid (HI30.out.put 5 rfl hk9 hb9); clear hb9 hk9) | ((with_reducible refine aS 49 ?_); refine wpList_load_part rfl 23 _ rfl (g12) 0 _ 23 (0, 0) _ (HI31.out.get 5 rfl) rfl .u8 OP (arr_part _ _) Tryd.underlying23 rfl (num_i HOPL.out) ?_) | ((with_reducible refine aT 4 ?_); refine wpList_store_whole rfl 23 _ _ rfl (w.heap.size + 1) _ _ 23 (HI31.out.get 1 rfl) rfl rfl (arr_len2 _ _ HOPL.out HLzn.out) (num_s HOPL.out) (all_arr _ _) ?_; intro w32 hb32 hk32 hz32; have HI32 := Lib.hid (HI31.out.put 1 rfl hk32 hb32); clear hb32 hk32 hz32))
    (try simp only [Exit.then])
    refine bodyPost_ret (results_cell_tmp_row rfl _ _ (w.heap.size + 1) 23 _ (0, 0) _ _ rfl (HI32.out.get 1 rfl) Tryd.underlying23 rfl (num_s HOPL.out) rfl) rfl ?_
    exact ⟨by first | rfl | (rw [if_neg HZ.out, if_pos rfl]; rfl), HI32.out.below⟩
end Go.Proofs.YtogebegdgfdijaaDoor.Wr
