/- WrapOther: it answers true. Condition: the document's table holds what its text lays. -/
import Derived.Test.YtogebegdgfdijaaDoorMm
import Derived.Test.YtogebegdgfdijaaDoorGe
import Derived.Test.YtogebegdgfdijaaDoorMaY
set_option maxRecDepth 100000
set_option maxHeartbeats 16000000
set_option linter.unusedSimpArgs false
set_option linter.unusedVariables false
namespace Go.Proofs.YtogebegdgfdijaaDoor.Wr
open Go.RowKit Lm Cu Sl Fp
theorem n32_k {v : Nat} (h : v < Fp.p) : hnum (n32 v) = v := hnum_n32 (Nat.lt_trans h (by decide +kernel))
theorem wres_yes (S D : Nat) (x : List Int) : wres (x25519 S 9) D x = n32 (x25519 D 9) ++ sealed (x25519 S 9) D x := by rw [wres, if_neg (Ed.x_ne S D)]
theorem wres_len (S D : Nat) (x : List Int) (h : x.length = 32) : (wres (x25519 S 9) D x).length = 80 := by rw [wres_yes, List.length_append, n32_len, sealed_len _ _ _ h]
theorem werr_yes (S D : Nat) : werr (x25519 S 9) D = 0 := by rw [werr, if_neg (Ed.x_ne S D)]
theorem wres_bytes (S D : Nat) (x : List Int) (h : bytes x) : bytes (wres (x25519 S 9) D x) := by
  rw [wres_yes]
  exact Ae.bytes_append (n32_bytes _) (Ae.bytes_seal _ _ _ _)
/-- What was wrapped is unwrapped. -/
theorem ures_wres (S D : Nat) (x : List Int) (hl : x.length = 32) (h : bytes x) : ures S (wres (x25519 S 9) D x) = (x, 0) := by
  have e1 : (wres (x25519 S 9) D x).take 32 = n32 (x25519 D 9) := by rw [wres_yes, List.take_append_of_le_length (by rw [n32_len]; exact Nat.le_refl _), List.take_of_length_le (by rw [n32_len]; exact Nat.le_refl _)]
  have e2 : (wres (x25519 S 9) D x).drop 32 = sealed (x25519 S 9) D x := by rw [wres_yes, List.drop_append_of_le_length (by rw [n32_len]; exact Nat.le_refl _), List.drop_of_length_le (by rw [n32_len]; exact Nat.le_refl _), List.nil_append]
  have e3 : hnum (n32 (x25519 D 9)) = x25519 D 9 := n32_k (x25519_lt D 9)
  unfold ures
  rw [if_pos (wres_len S D x hl), e1, e2, e3, if_neg (Ed.x_ne D S), Ed.x_same D S]
  unfold sealed
  rw [Ae.okay_seal, if_pos rfl, Ae.opened_seal _ _ _ _ h]
theorem other_any {ka ss ds xs : List Int} (A S D : Nat) (w : World) (hA : K32 ka A) (hS : K32 ss S) (hD : K32 ds D) (hx : xs.length = 32) (bx : bytes xs) (hk : Ha.TabK w) :
    Calls Tryd.prog 3 #[.agg (arr .u8 ka), .agg (arr .u8 ss), .agg (arr .u8 ds), .agg (arr .u8 xs)] w fun e w' => e = .returned (.bool true) ∧ Below w.heap.size w w' := by
  have he := werr_yes A D
  have hwl := wres_len A D xs hx
  have bw := wres_bytes A D xs bx
  have hpb := fun (u : World) => lpublic_any A u hA
  have hwr := fun (ts : List Int) (u : World) (h : K32 ts (x25519 A 9)) => wrap_any (ts := ts) (x25519 A 9) D u h hD hx bx
  rw [he, hwl] at hwr
  have hw1 := fun (s : Option Addr) (c : Nat) (u : World) (h : Src u s 80 (wres (x25519 A 9) D xs)) (hc : 80 ≤ c) => unwrap_any S s 80 c u hS h hc bw
  have hw2 := fun (s : Option Addr) (c : Nat) (u : World) (h : Src u s 80 (wres (x25519 A 9) D xs)) (hc : 80 ≤ c) (hk : Ha.TabK u) => runwrap_any S s 80 c u hS h hc bw hk
  obtain ⟨bs, hbs⟩ : ∃ x, x = wres (x25519 A 9) D xs := ⟨_, rfl⟩
  obtain ⟨P1, hP1⟩ : ∃ x, x = x25519 A 9 := ⟨_, rfl⟩
  rw [← hbs] at hwr hw1 hw2
  rw [← hP1] at hwr hpb
  have hul := ures_len S bs
  obtain ⟨ur, hur⟩ : ∃ x, x = (ures S bs).1 := ⟨_, rfl⟩
  obtain ⟨ue, hue⟩ : ∃ x, x = (ures S bs).2 := ⟨_, rfl⟩
  rw [← hur, ← hue] at hw1 hw2
  rw [← hur] at hul
  have HPB := Lib.hid hpb
  have HWRR := Lib.hid hwr
  have HW1 := Lib.hid hw1
  have HW2 := Lib.hid hw2
  have HUL := Lib.hid hul
  have HAL := Lib.hid hA.len
  have HSL := Lib.hid hS.len
  have HDL := Lib.hid hD.len
  have HXL := Lib.hid hx
  have HTK := Lib.hid hk
  obtain ⟨zn, hzn⟩ : ∃ zs : List Int, zs = List.replicate 32 0 := ⟨_, rfl⟩
  have HZzn : Hid (∀ w, (zeroValue 23).run Tryd.prog w = .ok (.agg (arr .u8 zn)) w) := Lib.hid (by intro w; rw [hzn]; exact zero_num w)
  have HLzn : Hid (zn.length = 32) := Lib.hid (by rw [hzn]; rfl)
  have HI0 := Lib.hid (Blk.four w (arr .u8 ka) (arr .u8 ss) (arr .u8 ds) (arr .u8 xs) 23 23 23 23)
  clear he hwl bw hpb hwr hw1 hw2 hbs hP1 hur hue hul hzn hA hS hD hx bx hk
  go_enter Tryd.func3, Tryd.ntmps3
  go_upto_region 2 with (first | ((with_reducible show Calls _ 4 _ _ _); go_at_call 4; refine (alive14_any _).mono ?_; rintro e w1 ⟨rfl, hb1⟩; have HI1 := Lib.hid (HI0.out.kept hb1); clear hb1))
  (try simp only [World.size_alloc, Act.put, sA, sZ, sS])
  have HK0 := Lib.hid ((Kept.refl (fun _ => False) w1).drew)
  have HBd := Lib.hid (HI1.out.drew)
  refine wp_region_held_drew (S := (fun w' => Kept (fun _ => False) w1 w')) (by kernel_rfl) (HK0.out) (fun hHeld => ?_)
  generalize w1.drew = wd at HK0 HBd hHeld ⊢
  refine' wpAnyH_take (i := 0) (oi := (⟨some 18, _, _, _, _, none⟩ : Oper)) (v := _) rfl (by kernel_rfl) (by kernel_rfl) (by kernel_rfl) (fun _ _ _ h => h) (yieldsIf_load_mid (by rfl) _ _ rfl _ _ rfl (ka.map (Value.int .u8)) _ ?hS7601 Tryd.underlying23 rfl (by rw [List.length_map]; exact num_i HAL.out)) (by assumption) ?rest7601
  case hS7601 => (intro w hSw; (try dsimp only at hSw); exact range_part (hSw.blk (HI1.out.get 0 rfl) (fun e => e.elim)) 0 _ (by rw [List.length_map]; exact arr_part _ _))
  (try simp only [Act.put, sA, sZ, sS])
  refine' wpAnyH_take (i := 2) (oi := (⟨some 20, _, _, _, _, none⟩ : Oper)) (v := _) rfl (by kernel_rfl) (by kernel_rfl) (by kernel_rfl) (fun _ _ _ h => h) (yieldsIf_load_mid (by rfl) _ _ rfl _ _ rfl (ds.map (Value.int .u8)) _ ?hS7602 Tryd.underlying23 rfl (by rw [List.length_map]; exact num_i HDL.out)) (by assumption) ?rest7602
  case hS7602 => (intro w hSw; (try dsimp only at hSw); exact range_part (hSw.blk (HI1.out.get 2 rfl) (fun e => e.elim)) 0 _ (by rw [List.length_map]; exact arr_part _ _))
  (try simp only [Act.put, sA, sZ, sS])
  refine' wpAnyH_take (i := 3) (oi := (⟨some 21, _, _, _, _, none⟩ : Oper)) (v := _) rfl (by kernel_rfl) (by kernel_rfl) (by kernel_rfl) (fun _ _ _ h => h) (yieldsIf_load_mid (by rfl) _ _ rfl _ _ rfl (xs.map (Value.int .u8)) _ ?hS7603 Tryd.underlying23 rfl (by rw [List.length_map]; exact num_i HXL.out)) (by assumption) ?rest7603
  case hS7603 => (intro w hSw; (try dsimp only at hSw); exact range_part (hSw.blk (HI1.out.get 3 rfl) (fun e => e.elim)) 0 _ (by rw [List.length_map]; exact arr_part _ _))
  (try simp only [Act.put, sA, sZ, sS])
  refine wpAnyH_ready (rs := [1]) (by kernel_rfl) (by simp) ?_
  refine AllReadyH.cons (o := (⟨some 19, _, _, _, _, none⟩ : Oper)) rfl (fun K hK => ?_) AllReadyH.nil
  go_simp
  go_at_call 6
  refine (HPB.out _).mono ?_
  rintro e y32 ⟨z1, rfl, h1, hb9⟩
  have HY32 := Lib.hid (HBd.out.kept hb9)
  have HQ32 := Lib.hid (HK0.out.trans (Kept.of_below hb9))
  have HZ1 := Lib.hid h1
  clear h1
  clear hb9
  (try dsimp only)
  refine hK.out _ _ (HQ32.out) (fun hHeld => ?_)
  clear hK K
  (try simp only [Act.put, sA, sZ, sS])
  refine wpAnyH_ready (rs := [4]) (by kernel_rfl) (by simp) ?_
  refine AllReadyH.cons (o := ({ dst := some 22, op := Op.call { callee := Callee.value (Operand.func 5), args := #[Operand.tmp 19, Operand.tmp 20, Operand.tmp 21], argTypes := #[23, 23, 23] }, type := 27, pos := "more.go:15", after := #[{ on := 1, ground := Ground.data }, { on := 2, ground := Ground.data }, { on := 3, ground := Ground.data }, { on := 1, ground := Ground.chain }], guard := none } : Oper)) rfl (fun K hK => ?_) AllReadyH.nil
  go_simp
  go_at_call 5
  refine (HWRR.out _ _ HZ1.out).mono ?_
  rintro e y33 ⟨⟨s2, c2, rfl, hs2, hc2⟩, hb9⟩
  have HY33 := Lib.hid (HY32.out.kept hb9)
  have HQ33 := Lib.hid (HQ32.out.trans (Kept.of_below hb9))
  have HS2 := Lib.hid hs2
  have HC2 := Lib.hid hc2
  clear hs2 hc2
  clear hb9
  (try dsimp only)
  refine hK.out _ _ (HQ33.out) (fun hHeld => ?_)
  clear hK K
  (try simp only [Act.put, sA, sZ, sS])
  refine wpAnyH_take (i := 5) (oi := ({ dst := some 17, op := Op.move (Operand.tmp 22), type := 27, pos := "more.go:15", after := #[{ on := 4, ground := Ground.data }], guard := none } : Oper)) (v := .tuple #[.slice s2 80 c2, .int .i64 0]) rfl (by kernel_rfl) (by kernel_rfl) (by kernel_rfl) (fun _ _ _ h => h) (Or.inl ⟨by rfl, ?hy7604⟩) (by assumption) ?rest7604
  case hy7604 => (intro w hSw; (try dsimp only at hSw); first | rfl | kernel_rfl)
  (try simp only [Act.put, sA, sZ, sS])
  refine wpAnyH_take (i := 6) (oi := (⟨some 23, _, _, _, _, none⟩ : Oper)) (v := .slice s2 80 c2) rfl (by kernel_rfl) (by kernel_rfl) (by kernel_rfl) (fun _ _ _ h => h) (Or.inl ⟨by rfl, ?hy7605⟩) (by assumption) ?rest7605
  case hy7605 => (intro w hSw; (try dsimp only at hSw); first | rfl | kernel_rfl)
  (try simp only [Act.put, sA, sZ, sS])
  refine wpAnyH_take (i := 7) (oi := (⟨some 24, _, _, _, _, none⟩ : Oper)) (v := .int .i64 0) rfl (by kernel_rfl) (by kernel_rfl) (by kernel_rfl) (fun _ _ _ h => h) (Or.inl ⟨by rfl, ?hy7606⟩) (by assumption) ?rest7606
  case hy7606 => (intro w hSw; (try dsimp only at hSw); first | rfl | kernel_rfl)
  (try simp only [Act.put, sA, sZ, sS])
  refine wpAnyH_take (i := 8) (oi := (⟨some 10, _, _, _, _, none⟩ : Oper)) (v := .slice s2 80 c2) rfl (by kernel_rfl) (by kernel_rfl) (by kernel_rfl) (fun _ _ _ h => h) (Or.inl ⟨by rfl, ?hy7607⟩) (by assumption) ?rest7607
  case hy7607 => (intro w hSw; (try dsimp only at hSw); first | rfl | kernel_rfl)
  (try simp only [Act.put, sA, sZ, sS])
  refine wpAnyH_take (i := 9) (oi := (⟨some 11, _, _, _, _, none⟩ : Oper)) (v := .int .i64 0) rfl (by kernel_rfl) (by kernel_rfl) (by kernel_rfl) (fun _ _ _ h => h) (Or.inl ⟨by rfl, ?hy7608⟩) (by assumption) ?rest7608
  case hy7608 => (intro w hSw; (try dsimp only at hSw); first | rfl | kernel_rfl)
  (try simp only [Act.put, sA, sZ, sS])
  refine wpAnyH_done (by kernel_rfl) ?_ _
  (try simp only [Exit.then])
  go_upto_region 4 with (first | ((with_reducible refine aS 26 ?_); refine wpList_load_part rfl 23 _ rfl (w.heap.size + 1) 0 _ 23 (0, 0) _ (HY33.out.get 1 rfl) rfl .u8 ss (arr_part _ _) Tryd.underlying23 rfl (num_i HSL.out) ?_) | ((with_reducible show Calls _ 7 _ _ _); go_at_call 7; refine (HW1.out _ _ _ HS2.out HC2.out).mono ?_; rintro e w3 ⟨rfl, hb3⟩; have HSF : Hid (∀ u, Below w3.heap.size w3 u → Src u s2 80 bs) := Lib.hid (fun u h => (HS2.out.below hb3).below h); have HI3 := Lib.hid (HY33.out.kept hb3); clear hb3) | ((with_reducible refine aS 12 ?_); refine wpList_alloc_row rfl 23 rfl _ (HZzn.out _) ?_; have HI4 := Lib.hid (HI3.out.alloc (arr .u8 zn) 23); have HZ4 := Lib.hid ((Below.refl w3.heap.size w3).alloc (Nat.le_refl _) (.cells (arr .u8 zn) 23)); generalize w3.heap.size = g12 at HI4 HZ4 HSF ⊢; generalize w3.alloc (.cells (arr .u8 zn) 23) = w4 at HI4 HZ4 ⊢) | ((with_reducible refine aT 12 ?_); refine wpList_store_whole rfl 23 _ _ rfl (g12) _ _ 23 (HI4.out.get 4 rfl) rfl rfl (arr_len2 _ _ HUL.out HLzn.out) (num_s HUL.out) (all_arr _ _) ?_; intro w5 hb5 hk5 hz5; have HI5 := Lib.hid (HI4.out.put 4 rfl hk5 hb5); have HZ5 := Lib.hid (HZ4.out.trans (hk5.toBelow (Nat.le_of_lt (HI4.out.lt 4 rfl)) (fun i e => Nat.le_of_eq e.symm))); clear hb5 hk5 hz5))
  (try simp only [World.size_alloc, Act.put, sA, sZ, sS])
  go_upto_region 5 with (first | ((with_reducible refine aS 32 ?_); refine wpList_load_part rfl 23 _ rfl (w.heap.size + 1) 0 _ 23 (0, 0) _ (HI5.out.get 1 rfl) rfl .u8 ss (arr_part _ _) Tryd.underlying23 rfl (num_i HSL.out) ?_) | ((with_reducible show Calls _ 8 _ _ _); go_at_call 8; refine (HW2.out _ _ _ (HSF.out _ HZ5.out) HC2.out (ktab_below HTK.out HI5.out.below)).mono ?_; rintro e w6 ⟨rfl, hb6⟩; have HI6 := Lib.hid (HI5.out.kept hb6); clear hb6) | ((with_reducible refine aS 14 ?_); refine wpList_alloc_row rfl 23 rfl _ (HZzn.out _) ?_; have HI7 := Lib.hid (HI6.out.alloc (arr .u8 zn) 23); generalize w6.heap.size = g14 at HI7 ⊢; generalize w6.alloc (.cells (arr .u8 zn) 23) = w7 at HI7 ⊢) | ((with_reducible refine aT 14 ?_); refine wpList_store_whole rfl 23 _ _ rfl (g14) _ _ 23 (HI7.out.get 5 rfl) rfl rfl (arr_len2 _ _ HUL.out HLzn.out) (num_s HUL.out) (all_arr _ _) ?_; intro w8 hb8 hk8 hz8; have HI8 := Lib.hid (HI7.out.put 5 rfl hk8 hb8); clear hb8 hk8 hz8))
  (try simp only [World.size_alloc, Act.put, sA, sZ, sS])
  have hne : ∀ u, (binOp .eql 23 (.agg (arr .u8 ur)) (.agg (arr .u8 ur))).run Tryd.prog u = .ok (.bool true) u := fun u => by
    have := run_eql_arr (P := Tryd.prog) u 23 5 32 .u8 .u8 Tryd.underlying23 Tryd.underlying5 Ha.size_u8 ur ur HUL.out HUL.out
    rw [beq_self_eq_true ur] at this
    exact this
  have q3 : (ue == ue) = true := beq_self_eq_true ue
  go_wp2_with (first | ((with_reducible show Calls _ 9 _ _ _); go_at_call 9; refine (num14_any _ _).mono ?_; rintro e w8 ⟨rfl, rfl⟩) | ((with_reducible refine aS 50 ?_); refine wpList_load_wanted (by rfl) 23 _ rfl (g12) (0) _ 23 (0, 0) _ (HI8.out.get 4 rfl) rfl .u8 ur (arr_part _ _) Tryd.underlying23 rfl (num_i HUL.out) ?_) | ((with_reducible refine aS 51 ?_); refine wpList_load_wanted (by rfl) 23 _ rfl (g14) (0) _ 23 (0, 0) _ (HI8.out.get 5 rfl) rfl .u8 ur (arr_part _ _) Tryd.underlying23 rfl (num_i HUL.out) ?_))
  (try simp only [Exit.then])
  go_ret
  exact ⟨rfl, HI8.out.below⟩
end Go.Proofs.YtogebegdgfdijaaDoor.Wr
