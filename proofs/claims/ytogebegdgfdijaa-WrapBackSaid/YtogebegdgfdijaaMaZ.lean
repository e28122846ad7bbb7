/- WrapBack: it answers true. Condition: none. -/
import Derived.Test.YtogebegdgfdijaaMm
import Derived.Test.YtogebegdgfdijaaGf
namespace Go.Proofs.Ytogebegdgfdijaa.Wr
open Go.RowKit Lm Cu Sl Fp
set_option linter.unusedSimpArgs false
set_option linter.unusedSimpArgs false
set_option linter.unusedVariables false

theorem n32_k {v : Nat} (h : v < Fp.p) : hnum (n32 v) = v := hnum_n32 (Nat.lt_trans h (by decide +kernel))
theorem wres_yes (S D : Nat) (x : List Int) : wres (x25519 S 9) D x = n32 (x25519 D 9) ++ sealed (x25519 S 9) D x := by rw [wres, if_neg (Ed.x_ne S D)]
theorem wres_len (S D : Nat) (x : List Int) (h : x.length = 32) : (wres (x25519 S 9) D x).length = 80 := by rw [wres_yes, List.length_append, n32_len, sealed_len _ _ _ h]
theorem werr_yes (S D : Nat) : werr (x25519 S 9) D = 0 := by rw [werr, if_neg (Ed.x_ne S D)]
theorem wres_bytes (S D : Nat) (x : List Int) (h : bytes x) : bytes (wres (x25519 S 9) D x) := by
  rw [wres_yes]
  exact Ae.bytes_append (n32_bytes _) (Ae.bytes_seal _ _ _ _)
/-- What was wrapped is unwrapped. -/
theorem ures_wres (S D : Nat) (x : List Int) (hl : x.length = 32) (h : bytes x) : ures S (wres (x25519 S 9) D x) = (x, 0) := by
  have e1 : (wres (x25519 S 9) D x).take 32 = n32 (x25519 D 9) := by rw [wres_yes, List.take_append_of_le_length (by rw [n32_len]; exact Nat.le_refl _), List.take_of_length_le (by rw [n32_len]; exact Nat.le_refl _)]
  have e2 : (wres (x25519 S 9) D x).drop 32 = sealed (x25519 S 9) D x := by rw [wres_yes, List.drop_append_of_le_length (by rw [n32_len]; exact Nat.le_refl _), List.drop_of_length_le (by rw [n32_len]; exact Nat.le_refl _), List.nil_append]
  have e3 : hnum (n32 (x25519 D 9)) = x25519 D 9 := n32_k (x25519_lt D 9)
  unfold ures
  rw [if_pos (wres_len S D x hl), e1, e2, e3, if_neg (Ed.x_ne D S), Ed.x_same D S]
  unfold sealed
  rw [Ae.okay_seal, if_pos rfl, Ae.opened_seal _ _ _ _ h]

set_option maxRecDepth 100000 in
set_option maxHeartbeats 16000000 in
theorem back_any {ka ds xs : List Int} (A D : Nat) (w : World) (hA : K32 ka A) (hD : K32 ds D) (hx : xs.length = 32) (bx : bytes xs) :
    Calls Try.prog 3 #[.agg (arr .u8 ka), .agg (arr .u8 ds), .agg (arr .u8 xs)] w fun e w' => e = .returned (.bool true) ∧ Below w.heap.size w w' := by
  have he := werr_yes A D
  have hwl := wres_len A D xs hx
  have bw := wres_bytes A D xs bx
  have hpb := fun (u : World) => lpublic_any A u hA
  have hwr := fun (ts : List Int) (u : World) (h : K32 ts (x25519 A 9)) => wrap_any (ts := ts) (x25519 A 9) D u h hD hx bx
  rw [he, hwl] at hwr
  have hun := fun (s : Option Addr) (c : Nat) (u : World) (h : Src u s 80 (wres (x25519 A 9) D xs)) (hc : 80 ≤ c) => unwrap_any A s 80 c u hA h hc bw
  rw [ures_wres A D xs hx bx] at hun
  obtain ⟨bs, hbs⟩ : ∃ x, x = wres (x25519 A 9) D xs := ⟨_, rfl⟩
  obtain ⟨P1, hP1⟩ : ∃ x, x = x25519 A 9 := ⟨_, rfl⟩
  rw [← hbs] at hwr hun
  rw [← hP1] at hwr hpb
  have HPB := Lib.hid hpb
  have HWRR := Lib.hid hwr
  have HUN := Lib.hid hun
  have HAL := Lib.hid hA.len
  have HDL := Lib.hid hD.len
  have HXL := Lib.hid hx
  obtain ⟨zn, hzn⟩ : ∃ zs : List Int, zs = List.replicate 32 0 := ⟨_, rfl⟩
  have HZzn : Hid (∀ w, (zeroValue 23).run Try.prog w = .ok (.agg (arr .u8 zn)) w) := Lib.hid (by intro w; rw [hzn]; exact zero_num w)
  have HLzn : Hid (zn.length = 32) := Lib.hid (by rw [hzn]; rfl)
  have HI0 := Lib.hid (Blk.three w (arr .u8 ka) (arr .u8 ds) (arr .u8 xs) 23 23 23)
  clear he hwl bw hpb hwr hun hbs hP1 hzn hA hD hx bx
  go_enter Try.func3, Try.ntmps3
  go_upto_region 2 with (first | ((with_reducible show Calls _ 4 _ _ _); go_at_call 4; refine (alive14_any _).mono ?_; rintro e w1 ⟨rfl, hb1⟩; have HI1 := Lib.hid (HI0.out.kept hb1); clear hb1))
  (try simp only [World.size_alloc, Act.put, List.setIfInBounds_toArray, List.set_cons_zero, List.set_cons_succ])
  have HK0 := Lib.hid ((Kept.refl (fun _ => False) w1).drew)
  have HBd := Lib.hid (HI1.out.drew)
  refine wp_region_held_drew (S := (fun w' => Kept (fun _ => False) w1 w')) (by kernel_rfl) (HK0.out) (fun hHeld => ?_)
  generalize w1.drew = wd at HK0 HBd hHeld ⊢
  refine' wpAnyH_take (i := 0) (oi := ({ dst := some 14, op := Op.load 23 (Operand.tmp 3), type := 23, pos := "law.go:31", after := #[], guard := none } : Oper)) (v := _) rfl (by kernel_rfl) (by kernel_rfl) (by kernel_rfl) (fun _ _ _ h => h) (yieldsIf_load_mid (by rfl) _ _ rfl _ _ rfl (ka.map (Value.int .u8)) _ ?hS7601 Try.underlying23 rfl (by rw [List.length_map]; exact num_i HAL.out)) (by assumption) ?rest7601
  case hS7601 => (intro w hSw; (try dsimp only at hSw); exact range_part (hSw.blk (HI1.out.get 0 rfl) (fun e => e.elim)) 0 _ (by rw [List.length_map]; exact arr_part _ _))
  (try simp only [Act.put, List.setIfInBounds_toArray, List.set_cons_zero, List.set_cons_succ])
  refine' wpAnyH_take (i := 2) (oi := ({ dst := some 16, op := Op.load 23 (Operand.tmp 4), type := 23, pos := "law.go:31", after := #[], guard := none } : Oper)) (v := _) rfl (by kernel_rfl) (by kernel_rfl) (by kernel_rfl) (fun _ _ _ h => h) (yieldsIf_load_mid (by rfl) _ _ rfl _ _ rfl (ds.map (Value.int .u8)) _ ?hS7602 Try.underlying23 rfl (by rw [List.length_map]; exact num_i HDL.out)) (by assumption) ?rest7602
  case hS7602 => (intro w hSw; (try dsimp only at hSw); exact range_part (hSw.blk (HI1.out.get 1 rfl) (fun e => e.elim)) 0 _ (by rw [List.length_map]; exact arr_part _ _))
  (try simp only [Act.put, List.setIfInBounds_toArray, List.set_cons_zero, List.set_cons_succ])
  refine' wpAnyH_take (i := 3) (oi := ({ dst := some 17, op := Op.load 23 (Operand.tmp 5), type := 23, pos := "law.go:31", after := #[], guard := none } : Oper)) (v := _) rfl (by kernel_rfl) (by kernel_rfl) (by kernel_rfl) (fun _ _ _ h => h) (yieldsIf_load_mid (by rfl) _ _ rfl _ _ rfl (xs.map (Value.int .u8)) _ ?hS7603 Try.underlying23 rfl (by rw [List.length_map]; exact num_i HXL.out)) (by assumption) ?rest7603
  case hS7603 => (intro w hSw; (try dsimp only at hSw); exact range_part (hSw.blk (HI1.out.get 2 rfl) (fun e => e.elim)) 0 _ (by rw [List.length_map]; exact arr_part _ _))
  (try simp only [Act.put, List.setIfInBounds_toArray, List.set_cons_zero, List.set_cons_succ])
  refine wpAnyH_ready (rs := [1]) (by kernel_rfl) (by simp) ?_
  refine AllReadyH.cons (o := ({ dst := some 15, op := Op.call { callee := Callee.value (Operand.func 6), args := #[Operand.tmp 14], argTypes := #[23] }, type := 23, pos := "law.go:31", after := #[{ on := 0, ground := Ground.data }], guard := none } : Oper)) rfl (fun K hK => ?_) AllReadyH.nil
  go_simp
  go_at_call 6
  refine (HPB.out _).mono ?_
  rintro e y1 ⟨z1, rfl, h1, hb9⟩
  have HY1 := Lib.hid (HBd.out.kept hb9)
  have HQ1 := Lib.hid (HK0.out.trans (Kept.of_below hb9))
  have HZ1 := Lib.hid h1
  clear h1
  clear hb9
  (try dsimp only)
  refine hK.out _ _ (HQ1.out) (fun hHeld => ?_)
  clear hK K
  (try simp only [Act.put, List.setIfInBounds_toArray, List.set_cons_zero, List.set_cons_succ])
  refine wpAnyH_ready (rs := [4]) (by kernel_rfl) (by simp) ?_
  refine AllReadyH.cons (o := ({ dst := some 18, op := Op.call { callee := Callee.value (Operand.func 5), args := #[Operand.tmp 15, Operand.tmp 16, Operand.tmp 17], argTypes := #[23, 23, 23] }, type := 27, pos := "law.go:31", after := #[{ on := 1, ground := Ground.data }, { on := 2, ground := Ground.data }, { on := 3, ground := Ground.data }, { on := 1, ground := Ground.chain }], guard := none } : Oper)) rfl (fun K hK => ?_) AllReadyH.nil
  go_simp
  go_at_call 5
  refine (HWRR.out _ _ HZ1.out).mono ?_
  rintro e y2 ⟨⟨s2, c2, rfl, hs2, hc2⟩, hb9⟩
  have HY2 := Lib.hid (HY1.out.kept hb9)
  have HQ2 := Lib.hid (HQ1.out.trans (Kept.of_below hb9))
  have HS2 := Lib.hid hs2
  have HC2 := Lib.hid hc2
  clear hs2 hc2
  clear hb9
  (try dsimp only)
  refine hK.out _ _ (HQ2.out) (fun hHeld => ?_)
  clear hK K
  (try simp only [Act.put, List.setIfInBounds_toArray, List.set_cons_zero, List.set_cons_succ])
  refine wpAnyH_take (i := 5) (oi := ({ dst := some 13, op := Op.move (Operand.tmp 18), type := 27, pos := "law.go:31", after := #[{ on := 4, ground := Ground.data }], guard := none } : Oper)) (v := .tuple #[.slice s2 80 c2, .int .i64 0]) rfl (by kernel_rfl) (by kernel_rfl) (by kernel_rfl) (fun _ _ _ h => h) (Or.inl ⟨by rfl, ?hy7604⟩) (by assumption) ?rest7604
  case hy7604 => (intro w hSw; (try dsimp only at hSw); first | rfl | kernel_rfl)
  (try simp only [Act.put, List.setIfInBounds_toArray, List.set_cons_zero, List.set_cons_succ])
  refine wpAnyH_take (i := 6) (oi := ({ dst := some 19, op := Op.extract (Operand.tmp 13) 0, type := 25, pos := "law.go:31", after := #[{ on := 5, ground := Ground.data }], guard := none } : Oper)) (v := .slice s2 80 c2) rfl (by kernel_rfl) (by kernel_rfl) (by kernel_rfl) (fun _ _ _ h => h) (Or.inl ⟨by rfl, ?hy7605⟩) (by assumption) ?rest7605
  case hy7605 => (intro w hSw; (try dsimp only at hSw); first | rfl | kernel_rfl)
  (try simp only [Act.put, List.setIfInBounds_toArray, List.set_cons_zero, List.set_cons_succ])
  refine wpAnyH_take (i := 7) (oi := ({ dst := some 20, op := Op.extract (Operand.tmp 13) 1, type := 26, pos := "law.go:31", after := #[{ on := 5, ground := Ground.data }, { on := 8, ground := Ground.gcOnly Departure.lateStores }], guard := none } : Oper)) (v := .int .i64 0) rfl (by kernel_rfl) (by kernel_rfl) (by kernel_rfl) (fun _ _ _ h => h) (Or.inl ⟨by rfl, ?hy7606⟩) (by assumption) ?rest7606
  case hy7606 => (intro w hSw; (try dsimp only at hSw); first | rfl | kernel_rfl)
  (try simp only [Act.put, List.setIfInBounds_toArray, List.set_cons_zero, List.set_cons_succ])
  refine wpAnyH_take (i := 8) (oi := ({ dst := some 8, op := Op.assign (Operand.tmp 19), type := 25, pos := "law.go:31", after := #[{ on := 6, ground := Ground.data }, { on := 4, ground := Ground.chain }, { on := 0, ground := Ground.phase }, { on := 1, ground := Ground.phase }, { on := 2, ground := Ground.phase }, { on := 3, ground := Ground.phase }, { on := 4, ground := Ground.phase }, { on := 5, ground := Ground.phase }, { on := 6, ground := Ground.phase }, { on := 7, ground := Ground.textOnly Departure.lateStores }], guard := none } : Oper)) (v := .slice s2 80 c2) rfl (by kernel_rfl) (by kernel_rfl) (by kernel_rfl) (fun _ _ _ h => h) (Or.inl ⟨by rfl, ?hy7607⟩) (by assumption) ?rest7607
  case hy7607 => (intro w hSw; (try dsimp only at hSw); first | rfl | kernel_rfl)
  (try simp only [Act.put, List.setIfInBounds_toArray, List.set_cons_zero, List.set_cons_succ])
  refine wpAnyH_take (i := 9) (oi := ({ dst := some 9, op := Op.assign (Operand.tmp 20), type := 26, pos := "law.go:31", after := #[{ on := 7, ground := Ground.data }, { on := 8, ground := Ground.chain }, { on := 0, ground := Ground.phase }, { on := 1, ground := Ground.phase }, { on := 2, ground := Ground.phase }, { on := 3, ground := Ground.phase }, { on := 4, ground := Ground.phase }, { on := 5, ground := Ground.phase }, { on := 6, ground := Ground.phase }, { on := 7, ground := Ground.phase }, { on := 8, ground := Ground.phase }], guard := none } : Oper)) (v := .int .i64 0) rfl (by kernel_rfl) (by kernel_rfl) (by kernel_rfl) (fun _ _ _ h => h) (Or.inl ⟨by rfl, ?hy7608⟩) (by assumption) ?rest7608
  case hy7608 => (intro w hSw; (try dsimp only at hSw); first | rfl | kernel_rfl)
  (try simp only [Act.put, List.setIfInBounds_toArray, List.set_cons_zero, List.set_cons_succ])
  refine wpAnyH_done (by kernel_rfl) ?_ _
  (try simp only [Exit.then])
  go_upto_region 4 with (first | ((with_reducible show wpList _ _ _ (Oper.mk (some 22) _ _ _ _ _ :: _) _ _); refine wpList_load_part rfl 23 _ rfl (w.heap.size) 0 _ 23 (0, 0) _ (HY2.out.get 0 rfl) rfl .u8 ka (arr_part _ _) Try.underlying23 rfl (num_i HAL.out) ?_) | ((with_reducible show Calls _ 7 _ _ _); go_at_call 7; refine (HUN.out _ _ _ HS2.out HC2.out).mono ?_; rintro e w3 ⟨rfl, hb3⟩; have HI3 := Lib.hid (HY2.out.kept hb3); clear hb3) | ((with_reducible show wpList _ _ _ (Oper.mk (some 10) _ _ _ _ _ :: _) _ _); refine wpList_alloc_row rfl 23 rfl _ (HZzn.out _) ?_; have HI4 := Lib.hid (HI3.out.alloc (arr .u8 zn) 23); generalize w3.heap.size = g10 at HI4 ⊢; generalize w3.alloc (.cells (arr .u8 zn) 23) = w4 at HI4 ⊢) | ((with_reducible show wpList _ _ _ (Oper.mk none (Op.store _ (Operand.tmp 10) _) _ _ _ _ :: _) _ _); refine wpList_store_whole rfl 23 _ _ rfl (g10) _ _ 23 (HI4.out.get 3 rfl) rfl rfl (arr_len2 _ _ HXL.out HLzn.out) (num_s HXL.out) (all_arr _ _) ?_; intro w5 hb5 hk5 hz5; have HI5 := Lib.hid (HI4.out.put 3 rfl hk5 hb5); clear hb5 hk5 hz5))
  (try simp only [World.size_alloc, Act.put, List.setIfInBounds_toArray, List.set_cons_zero, List.set_cons_succ])
  have hne : ∀ u, (binOp .eql 23 (.agg (arr .u8 xs)) (.agg (arr .u8 xs))).run Try.prog u = .ok (.bool true) u := fun u => by
    have := run_eql_arr (P := Try.prog) u 23 5 32 .u8 .u8 Try.underlying23 Try.underlying5 Ha.size_u8 xs xs HXL.out HXL.out
    rw [beq_self_eq_true xs] at this
    exact this
  go_wp2_with (first | ((with_reducible show Calls _ 8 _ _ _); go_at_call 8; refine (num14_any _ _).mono ?_; rintro e w6 ⟨rfl, rfl⟩) | ((with_reducible show wpList _ _ _ (Oper.mk (some 37) _ _ _ _ _ :: _) _ _); refine wpList_load_wanted (by rfl) 23 _ rfl (g10) (0) _ 23 (0, 0) _ (HI5.out.get 3 rfl) rfl .u8 xs (arr_part _ _) Try.underlying23 rfl (num_i HXL.out) ?_) | ((with_reducible show wpList _ _ _ (Oper.mk (some 38) _ _ _ _ _ :: _) _ _); refine wpList_load_wanted (by rfl) 23 _ rfl (w.heap.size + 1 + 1) (0) _ 23 (0, 0) _ (HI5.out.get 2 rfl) rfl .u8 xs (arr_part _ _) Try.underlying23 rfl (num_i HXL.out) ?_))
  (try simp only [Exit.then])
  go_ret
  exact ⟨rfl, HI5.out.below⟩
end Go.Proofs.Ytogebegdgfdijaa.Wr
