/- FlashClears: no lists; and both ways together. Condition: the lists lie there. -/
import Derived.Test.YtcecgbjpmegljaaClB
namespace Go.Proofs.Ytcecgbjpmegljaa
open Go.RowKit Go.ChangeShapes Go.WideShapes
set_option linter.unusedSimpArgs false
set_option linter.unusedVariables false

set_option maxRecDepth 100000 in
set_option maxHeartbeats 4000000 in
theorem clears_none (n c O : Nat) (L : List (List Int)) (vs : List Value) (w : World) (hn : n ≤ 20) (hO : O ≤ n) (a : Option Addr) (hpos : n = 0) (hL : Lists w a n c L vs) (hb : ∀ l ∈ L, bytes l) :
    Calls Try.prog 3 #[.slice a n c, .int .i64 O] w fun e w' => e = .returned (.bool true) ∧ Below w.heap.size w w' := by
  have HPOS := Lib.hid hpos
  clear hpos
  have hnew := fun w => new_any 2 w
  have hmk := fun w => mk8 256 (by omega) w
  obtain ⟨z, hz⟩ : ∃ z, z = zeros 256 := ⟨_, rfl⟩
  rw [← hz] at hmk
  obtain ⟨s0, hs0⟩ : ∃ s, s = Fl.new 2 := ⟨_, rfl⟩
  rw [← hs0] at hnew
  have HNEW := Lib.hid hnew
  have hmk2 : ∀ w : World, (Instr.makeSlice 26 (.int .i64 256) (.int .i64 256)).run Try.prog w = .ok (.slice (some ⟨w.heap.size, 0, none⟩) 256 256) (w.alloc (.cells (row8 z []) 5)) := hmk
  have HZ : Hid (z = List.replicate 0 255 ++ List.replicate (256 - 0) 0) := Lib.hid hz
  have HS0 : Hid (s0 = clS []) := Lib.hid hs0
  have HL := Lib.hid hL
  have HB := Lib.hid hb
  clear hnew hmk hz hs0 hL hb
  go_enter Try.func3, Try.ntmps3
  go_upto_region 4 with (first | (go_at_call 5; refine (alive19_any w).mono ?_; rintro e w1 ⟨rfl, hb1⟩; have HB1 := Lib.hid hb1; clear hb1))
  go_upto_region 5 with (first | (go_at_call 6; refine (HNEW.out _).mono ?_; rintro e w2 ⟨p, g, rfl, hf2, hp, hg, hb2⟩; have HF2 := Lib.hid hf2; have HPG := Lib.hid (And.intro hp hg); have HB2 := Lib.hid hb2; clear hf2 hp hg hb2))
  go_upto_region 6 with (first | (go_at_call 6; refine (HNEW.out _).mono ?_; rintro e w3 ⟨p2, g2, rfl, hf3, hp, hg, hb3⟩; have HF3 := Lib.hid hf3; have HPG2 := Lib.hid (And.intro hp hg); have HB3 := Lib.hid hb3; clear hf3 hp hg hb3))
  go_upto_region 7 with fail
  clear hmk2
  have HR : Hid (ClR w (w3.alloc (.cells (row8 z []) 5)) p g p2 g2 w3.heap.size s0 s0 z) := Lib.hid (by
    have h1 : Below w.heap.size w w3 := HB1.out.trans ((HB2.out.trans (HB3.out.mono HB2.out.size)).mono HB1.out.size)
    have k := (Below.refl w3.heap.size w3).alloc (Nat.le_refl _) (.cells (row8 z []) 5)
    exact ⟨(HF2.out.below HB3.out).below k, HF3.out.below k, blk_new _ _, h1.trans (k.mono h1.size)⟩)
  have HQ : Hid (ClB w.heap.size p g p2 g2 w3.heap.size) := Lib.hid (by
    have a1 := HB1.out.size
    have a2 := HB2.out.size
    have a3 := HB3.out.size
    have l1 := HF2.out.lt
    have l2 := HF3.out.lt
    have m1 := HF2.out.ne
    have m2 := HF3.out.ne
    obtain ⟨q1, q2⟩ := HPG.out
    obtain ⟨q3, q4⟩ := HPG2.out
    exact ⟨by omega, by omega⟩)
  have HW4 : Hid (p < w3.heap.size + 1 ∧ g < w3.heap.size + 1 ∧ p2 < w3.heap.size + 1 ∧ g2 < w3.heap.size + 1) := Lib.hid (by
    have a3 := HB3.out.size
    have l1 := HF2.out.lt
    have l2 := HF3.out.lt
    omega)
  have HSZ : Hid ((w3.alloc (.cells (row8 z []) 5)).heap.size = w3.heap.size + 1) := Lib.hid (by simp)
  clear HF2 HF3 HPG HPG2 HB1 HB2 HB3 HNEW
  generalize w3.heap.size = q at HR HQ HW4 HSZ ⊢
  generalize w3.alloc (.cells (row8 z []) 5) = w4 at HR HSZ ⊢
  rw [HZ.out] at HR
  clear HZ
  go_wp2_with fail
  go_loopw [9] (fun i wr => ∃ j : Nat, j ≤ 256 ∧ i = .int .i64 j ∧ ClR w wr p g p2 g2 q s0 s0 (List.replicate j 255 ++ List.replicate (256 - j) 0) ∧ wr.heap.size = q + 1) (fun i _ => 256 - (intOf i).toNat)
  case atStart => exact ⟨0, Nat.zero_le _, rfl, HR.out, HSZ.out⟩
  case round =>
    obtain ⟨j, hj, rfl, hR, hz⟩ := hrel
    by_cases hlt : j < 256
    · have x0 := cell_blk hR.q j
      rw [row8_get _ _ _ (by rw [init_len j hj]; exact hlt)] at x0
      have x1 := free_blk hR.q j
      have HR2 := Lib.hid (hR.set HQ.out j (by rw [init_len j hj]; exact hlt) 255)
      rw [init_set j hlt] at HR2
      have HZ2 := Lib.hid hz
      clear hR hz
      go_wp2_with fail
      go_roundw
      case rel => exact ⟨j + 1, by omega, by go_num, HR2.out, by rw [size_setCell]; exact HZ2.out⟩
      case measure => simp [intOf]; omega
    · obtain rfl : j = 256 := by omega
      rw [show ((256 : Nat) : Int) = 256 from rfl]
      have HR2 := Lib.hid hR
      have HZ2 := Lib.hid hz
      clear hR hz HR HSZ
      go_upto_region 11 with fail
      obtain ⟨a1, c1, a2, c2, hs1, hs2, hv1, hn1, hv2, hn2⟩ := HL.out.cut O hO
      have HS1 := Lib.hid hs1
      have HS2 := Lib.hid hs2
      have HV1 := Lib.hid hv1
      have HV2 := Lib.hid hv2
      have HN1 := Lib.hid hn1
      have HN2 := Lib.hid hn2
      clear hs1 hs2 hv1 hn1 hv2 hn2
      refine wp_region_held_drew (S := (fun _ => True)) (by kernel_rfl) trivial (fun _ => ?_)
      have HR3 := Lib.hid (HR2.out.drewN 1)
      have HZ3 : Hid ((wr.drewN 1).heap.size = q + 1) := Lib.hid HZ2.out
      rw [show wr.drew = wr.drewN 1 from rfl]
      generalize wr.drewN 1 = w5 at HR3 HZ3 ⊢
      clear HR2 HZ2
      refine wpAnyH_take (i := 0) (oi := (⟨some 51, _, _, _, _, none⟩ : Oper)) (v := .slice a n c) rfl (by kernel_rfl) (by kernel_rfl) (by kernel_rfl) (fun _ _ _ h => h) (Or.inl ⟨by rfl, ?hy0⟩) trivial ?rest0
      case hy0 => (intro u _; first | rfl | kernel_rfl)
      (try simp only [Act.put, List.setIfInBounds_toArray, List.set_cons_zero, List.set_cons_succ])
      refine wpAnyH_take (i := 1) (oi := (⟨some 52, _, _, _, _, none⟩ : Oper)) (v := .int .i64 O) rfl (by kernel_rfl) (by kernel_rfl) (by kernel_rfl) (fun _ _ _ h => h) (Or.inl ⟨by rfl, ?hy1⟩) trivial ?rest1
      case hy1 => (intro u _; first | rfl | kernel_rfl)
      (try simp only [Act.put, List.setIfInBounds_toArray, List.set_cons_zero, List.set_cons_succ])
      refine wpAnyH_take (i := 2) (oi := (⟨some 53, _, _, _, _, none⟩ : Oper)) (v := .slice a1 (n - O) c1) rfl (by kernel_rfl) (by kernel_rfl) (by kernel_rfl) (fun _ _ _ h => h) (Or.inl ⟨by rfl, ?hy2⟩) trivial ?rest2
      case hy2 => (intro u _; exact exec_slice 22 _ _ none rfl (.slice a n c) (some (.int .i64 O)) none rfl rfl rfl _ (HS1.out u))
      (try simp only [Act.put, List.setIfInBounds_toArray, List.set_cons_zero, List.set_cons_succ])
      refine wpAnyH_take (i := 4) (oi := (⟨some 55, _, _, _, _, none⟩ : Oper)) (v := .slice a n c) rfl (by kernel_rfl) (by kernel_rfl) (by kernel_rfl) (fun _ _ _ h => h) (Or.inl ⟨by rfl, ?hy4⟩) trivial ?rest4
      case hy4 => (intro u _; first | rfl | kernel_rfl)
      (try simp only [Act.put, List.setIfInBounds_toArray, List.set_cons_zero, List.set_cons_succ])
      refine wpAnyH_take (i := 5) (oi := (⟨some 56, _, _, _, _, none⟩ : Oper)) (v := .int .i64 O) rfl (by kernel_rfl) (by kernel_rfl) (by kernel_rfl) (fun _ _ _ h => h) (Or.inl ⟨by rfl, ?hy5⟩) trivial ?rest5
      case hy5 => (intro u _; first | rfl | kernel_rfl)
      (try simp only [Act.put, List.setIfInBounds_toArray, List.set_cons_zero, List.set_cons_succ])
      refine wpAnyH_take (i := 6) (oi := (⟨some 57, _, _, _, _, none⟩ : Oper)) (v := .slice a2 O c2) rfl (by kernel_rfl) (by kernel_rfl) (by kernel_rfl) (fun _ _ _ h => h) (Or.inl ⟨by rfl, ?hy6⟩) trivial ?rest6
      case hy6 => (intro u _; exact exec_slice 22 _ none _ rfl (.slice a n c) none (some (.int .i64 O)) rfl rfl rfl _ (HS2.out u))
      (try simp only [Act.put, List.setIfInBounds_toArray, List.set_cons_zero, List.set_cons_succ])
      refine wpAnyH_ready (rs := [3]) (by kernel_rfl) (by simp) ?_
      refine AllReadyH.cons (o := (⟨some 54, _, _, _, _, none⟩ : Oper)) rfl (fun K hK => ?_) AllReadyH.nil
      refine step_appV rfl (.const (.slice none 0 0)) (.tmp 53) rfl (q + 1) (.slice none 0 0) [] (vs.drop O) rfl ⟨by simp, .inl ⟨rfl, rfl⟩⟩ a1 (n - O) c1 rfl (by rw [List.length_drop, HL.out.vl]) (fun b e j u hj => below_cell HR3.out.below (HV1.out b e j u hj)) HN1.out (fun u hu => HL.out.one u (List.mem_of_mem_drop hu)) (by simp; omega) (Nat.le_of_eq HZ3.out.symm) ?_
      intro v6 w6 ho6 hg6
      rw [List.nil_append] at ho6
      have hb6 : Below w5.heap.size w5 w6 := ⟨hg6.os, hg6.tape, hg6.output, hg6.size, fun k hk => hg6.block k hk (by simp [Value.ownBlock])⟩
      have HR6 := Lib.hid (HR3.out.fresh hb6)
      have HZ6 : Hid (q + 1 ≤ w6.heap.size) := Lib.hid (by rw [← HZ3.out]; exact hb6.size)
      have HO6 := Lib.hid ho6
      clear ho6 hg6 hb6
      refine hK.out _ _ trivial (fun _ => ?_)
      clear hK K
      (try simp only [Act.put, List.setIfInBounds_toArray, List.set_cons_zero, List.set_cons_succ])
      refine wpAnyH_ready (rs := [7]) (by kernel_rfl) (by simp) ?_
      refine AllReadyH.cons (o := (⟨some 58, _, _, _, _, none⟩ : Oper)) rfl (fun K hK => ?_) AllReadyH.nil
      refine step_appV rfl (.tmp 54) (.tmp 57) rfl (q + 1) v6 (vs.drop O) (vs.take O) rfl HO6.out a2 O c2 rfl (by rw [List.length_take, HL.out.vl]; omega) (fun b e j u hj => below_cell HR6.out.below (HV2.out b e j u hj)) HN2.out (fun u hu => HL.out.one u (List.mem_of_mem_take hu)) (by rw [List.length_drop, HL.out.vl]; omega) HZ6.out ?_
      intro v7 w7 ho7 hg7
      have hk7 : Kept (fun g => v6.ownBlock = some g) w6 w7 := kept_grown hg7
      have HR7 : Hid (ClR w w7 p g p2 g2 q s0 s0 (List.replicate 256 255 ++ List.replicate (256 - 256) 0)) := Lib.hid (by
        have h4 := HW4.out
        have h5 := fun k h => (World.ownsRow.lt HO6.out k h).1
        have h6 := HR6.out
        have h7 := HQ.out.low
        have h8 := h6.below.size
        refine ⟨h6.f.kept hk7 (fun e => by have := h5 _ e; omega) (fun e => by have := h5 _ e; omega), h6.f2.kept hk7 (fun e => by have := h5 _ e; omega) (fun e => by have := h5 _ e; omega), hk7.blk h6.q (fun e => by have := h5 _ e; omega), h6.below.trans (hk7.toBelow h8 (fun i e => by have := h5 _ e; omega))⟩)
      have HO7 := Lib.hid ho7
      clear ho7 hg7 hk7
      refine hK.out _ _ trivial (fun _ => ?_)
      clear hK K HR6 HZ6 HO6 HR3 HZ3
      (try simp only [Act.put, List.setIfInBounds_toArray, List.set_cons_zero, List.set_cons_succ])
      refine wpAnyH_take (i := 8) (oi := (⟨some 10, _, _, _, _, none⟩ : Oper)) (v := v7) rfl (by kernel_rfl) (by kernel_rfl) (by kernel_rfl) (fun _ _ _ h => h) (Or.inl ⟨by rfl, ?hy8⟩) trivial ?rest8
      case hy8 => (intro u _; first | rfl | kernel_rfl)
      (try simp only [Act.put, List.setIfInBounds_toArray, List.set_cons_zero, List.set_cons_succ])
      refine wpAnyH_done (by kernel_rfl) ?_ _
      (try simp only [Exit.then])
      clear HS1 HS2 HV1 HV2 HN1 HN2
      have HM : Hid (∀ i, i < n → ∃ si ci, (vs.drop O ++ vs.take O)[i]? = some (.slice si ((L.drop O ++ L.take O).getD i []).length ci) ∧ ((L.drop O ++ L.take O).getD i []).length ≤ ci ∧ (si = none → ci = 0) ∧ Src w si ((L.drop O ++ L.take O).getD i []).length ((L.drop O ++ L.take O).getD i [])) := Lib.hid (fun i hi => HL.out.turn O hO i hi)
      have hml : (vs.drop O ++ vs.take O).length = n := by rw [List.length_append, List.length_drop, List.length_take, HL.out.vl]; omega
      have hMl : (L.drop O ++ L.take O).length = n := by rw [List.length_append, List.length_drop, List.length_take, HL.out.ll]; omega
      have hSame : (∀ l ∈ L, l.length ≤ 256) → (clS (L.drop O ++ L.take O)).b = (clS L).b ∧ ∀ l ∈ L.drop O ++ L.take O, l.length ≤ 256 := fun h => ⟨clS_same L O (by rw [HL.out.ll]; omega) h, fun l hm => by
        rcases List.mem_append.1 hm with h1 | h1
        · exact h l (List.mem_of_mem_drop h1)
        · exact h l (List.mem_of_mem_take h1)⟩
      rw [hml] at HO7
      generalize vs.drop O ++ vs.take O = ms at HM HO7
      generalize L.drop O ++ L.take O = M at HM hMl hSame
      have HMl := Lib.hid hMl
      have HSM := Lib.hid hSame
      obtain ⟨sm, cm, rfl, hcm, hsm, hsn⟩ := own_form HO7.out
      clear hml hMl hSame hsm hsn
      go_wp2_with fail
      go_loopw [11] (fun i wr => ∃ j : Nat, j ≤ n ∧ i = .int .i64 j ∧ (∀ k, k < j → (L.getD k []).length ≤ 256) ∧ wr = w7) (fun i _ => n - (intOf i).toNat)
      case atStart => exact ⟨0, Nat.zero_le _, rfl, fun k h => absurd h (Nat.not_lt_zero _), rfl⟩
      case round =>
        obtain ⟨j, hj, rfl, hle, rfl⟩ := hrel
        by_cases hlt2 : j < n
        · have := HPOS.out; omega
        · obtain rfl : n = j := by omega
          have hsmall : ∀ l ∈ L, l.length ≤ 256 := by
            intro l hm
            obtain ⟨k, hk, rfl⟩ := List.getElem_of_mem hm
            have := hle k (by rw [← HL.out.ll]; exact hk)
            simpa [List.getD, hk] using this
          obtain ⟨hbs, hMs⟩ := HSM.out hsmall
          have HBS := Lib.hid hbs
          have hL256 : ∀ i, (L.getD i []).length ≤ 256 := by
            intro i
            by_cases hi : i < L.length
            · simp only [List.getD, List.getElem?_eq_getElem hi, Option.getD_some]
              exact hsmall _ (List.getElem_mem hi)
            · simp [List.getD, List.getElem?_eq_none (Nat.not_lt.1 hi)]
          have hM256 : ∀ i, (M.getD i []).length ≤ 256 := by
            intro i
            by_cases hi : i < M.length
            · simp only [List.getD, List.getElem?_eq_getElem hi, Option.getD_some]
              exact hMs _ (List.getElem_mem hi)
            · simp [List.getD, List.getElem?_eq_none (Nat.not_lt.1 hi)]
          have HL256 := Lib.hid hL256
          have HM256 := Lib.hid hM256
          have HSML := Lib.hid hsmall
          have HMSM := Lib.hid hMs
          have HRA : Hid (ClR w wr p g p2 g2 q (clS (L.take 0)) (clS (M.take 0)) (clW L 0 0)) := Lib.hid (by
            have h1 := HR7.out
            rw [HS0.out] at h1
            rw [clW_zero]
            exact h1)
          clear hle hsmall hbs hMs hL256 hM256 HSM HR7 HS0
          go_wp2_with fail
          go_loopw [12] (fun i wr => ∃ j : Nat, j ≤ n ∧ i = .int .i64 j ∧ ClR w wr p g p2 g2 q (clS (L.take j)) (clS (M.take j)) (clW L j 0) ∧ wr.ownsRow (q + 1) 26 1 (.slice sm n cm) n ms) (fun i _ => n - (intOf i).toNat)
          case atStart => exact ⟨0, Nat.zero_le _, rfl, HRA.out, HO7.out⟩
          case round =>
            obtain ⟨j, hj, rfl, hR, hO⟩ := hrel
            by_cases hlt3 : j < n
            · have := HPOS.out; omega
            · obtain rfl : n = j := by omega
              have eL : L.take n = L := List.take_of_length_le (by rw [HL.out.ll]; exact Nat.le_refl _)
              have eM : M.take n = M := List.take_of_length_le (by rw [HMl.out]; exact Nat.le_refl _)
              have eW : clW L n 0 = (clS L).read 0 256 := by
                have := clW_end L (by rw [HL.out.ll]; omega) HSML.out
                rwa [HL.out.ll] at this
              rw [eL, eM, eW] at hR
              have hcL := clS_calm _ L rfl
              have hrd := fun u h => read_any p g (clS L) 0 256 u h
              rw [hcL.readOk, show inB 512 0 256 = true by decide] at hrd
              have hro : (clS L).readOk 0 256 = true := by rw [hcL.readOk]; decide
              obtain ⟨S1, hS1⟩ : ∃ S, S = strOfNums ((clS L).read 0 256) := ⟨_, rfl⟩
              obtain ⟨S2, hS2⟩ : ∃ S, S = strOfNums (clS L).b := ⟨_, rfl⟩
              have hRD : ∀ u, IsFl u p g (clS L) → Calls Try.prog 8 #[.pointer (some ⟨p, 0, none⟩), .int .i64 0, .int .i64 256] u fun e w' => ∃ v, e = .returned (.tuple #[v, .bool true]) ∧ (∀ u', Below w'.heap.size w' u' → (convert 26 9 v).run Try.prog u' = .ok (.string S1) u') ∧ Below u.heap.size u w' := by
                intro u h
                refine (read_any p g (clS L) 0 256 u h).mono ?_
                rintro e w' ⟨v, rfl, ho, -, hb⟩
                rw [hro]
                refine ⟨v, rfl, fun u' k => ?_, hb⟩
                rw [hS1]
                exact ((ho hro).kept (T := fun _ => False) (Kept.of_below k) (fun _ _ _ => id)).str
              have hIM : ∀ u p g s, s.b = (clS L).b → IsFl u p g s → Calls Try.prog 9 #[.pointer (some ⟨p, 0, none⟩)] u fun e w' => ∃ v, e = .returned v ∧ (∀ u', Below w'.heap.size w' u' → (convert 26 9 v).run Try.prog u' = .ok (.string S2) u') ∧ Below u.heap.size u w' := by
                intro u p g s e0 h
                refine (image_any p g s u h).mono ?_
                rintro e w' ⟨v, rfl, ho, hb⟩
                refine ⟨v, rfl, fun u' k => ?_, hb⟩
                rw [hS2, ← e0]
                exact (ho.kept (T := fun _ => False) (Kept.of_below k) (fun _ _ _ => id)).str
              have hwq : ∀ u, ClR w u p g p2 g2 q (clS L) (clS M) ((clS L).read 0 256) → (convert 26 9 (.slice (some ⟨q, 0, none⟩) 256 256)).run Try.prog u = .ok (.string S1) u := by
                intro u h
                rw [hS1]
                have h1 := src_blk h.q
                rw [show ((clS L).read 0 256).length = 256 by simp [Fl.read, hcL.len]] at h1
                exact src_str h1 (fun a e => by cases e; rfl)
              obtain ⟨f1, f2, f3, f4⟩ := clS_erased L (by rw [HL.out.ll]; omega) HSML.out
              have hER := fun u h => erase_any p g (clS L) 0 u h
              rw [f4] at hER
              have hq1 : (S1.toList == S1.toList) = true := by simp
              have hq2 : (S2.toList == S2.toList) = true := by simp
              have hHF := fun u (h : ClR w u p g p2 g2 q (clS L) (clS M) ((clS L).read 0 256)) => hIM u p g _ rfl h.f
              have hHG := fun u (h : ClR w u p g p2 g2 q (clS L) (clS M) ((clS L).read 0 256)) => hIM u p2 g2 _ HBS.out h.f2
              have HRD := Lib.hid hRD
              have HHF := Lib.hid hHF
              have HHG := Lib.hid hHG
              have HWQ := Lib.hid hwq
              have HRj := Lib.hid hR
              have HER := Lib.hid hER
              have HF1 := Lib.hid f1
              have HF2 := Lib.hid f2
              have HF3 : Hid (((clS L).erase 0).pr = n) := Lib.hid (by rw [f3, HL.out.ll])
              clear hR hO eL eM eW hcL hrd hro hS1 hS2 hRD hIM hwq f1 f2 f3 f4 hER hHF hHG HBS HSML HMSM HL256 HM256 HM HMl HRA HO7
              generalize (clS L).erase 0 = t1 at HER HF1 HF2 HF3
              generalize clS L = s1 at HRD HHF HHG HWQ HRj HER
              generalize clS M = s2 at HHF HHG HWQ HRj
              generalize s1.read 0 256 = W1 at HHF HHG HWQ HRj
              go_upto_region 29 with (go_at_call 8; refine (HRD.out _ HRj.out.f).mono ?_; rintro e w8 ⟨v8, rfl, hc8, hb8⟩; have HC8 := Lib.hid hc8; have HR8 := Lib.hid (HRj.out.fresh hb8); clear hc8 hb8)
              have HR9 := Lib.hid (HR8.out.drewN 1)
              have c1 : (convert 26 9 v8).run Try.prog w8.drew = .ok (.string S1) w8.drew := HC8.out _ (Below.drewN (Below.refl _ w8) 1)
              have c2 : (convert 26 9 (.slice (some ⟨q, 0, none⟩) 256 256)).run Try.prog w8.drew = .ok (.string S1) w8.drew := HWQ.out _ HR9.out
              go_region_with (first | (go_at_call 9; refine (HHF.out _ HR9.out).mono ?_; rintro e w9 ⟨v9, rfl, hc9, hb9⟩; have c3 := hc9 w9 (Below.refl _ _); have HRa := Lib.hid (HR9.out.fresh hb9)) | (go_at_call 9; refine (HHG.out _ HRa.out).mono ?_; rintro e w10 ⟨v10, rfl, hc10, hb10⟩; have c4 := hc10 w10 (Below.refl _ _); have c5 := hc9 w10 hb10; have HRb := Lib.hid (HRa.out.fresh hb10)))
              all_goals
                go_upto_region 31 with (go_at_call 10; refine (HER.out _ HRb.out.f).mono ?_; rintro e w11 ⟨rfl, hf11, hk11, -⟩; have HR11 := Lib.hid (HRb.out.one HQ.out hk11 hf11); clear hf11 hk11)
                go_upto_region 32 with (go_at_call 9; refine (image_any p g t1 _ HR11.out.f).mono ?_; rintro e w12 ⟨v12, rfl, ho12, hb12⟩; have HR12 := Lib.hid (HR11.out.fresh hb12); have HO12 := Lib.hid ho12; clear ho12 hb12)
                obtain ⟨gi, capi, spi, rfl, -, hgi, hgc, -⟩ := HO12.out
                rw [HF1.out] at hgi hgc
                rw [HF1.out]
                rw [List.length_replicate] at hgc ⊢
                have HGI := Lib.hid hgi
                clear hgi hgc HO12
                go_wp2_with fail
                go_loopw [21] (fun i wr => ∃ j : Nat, j ≤ 512 ∧ i = .int .i64 j ∧ wr = w12) (fun i _ => 512 - (intOf i).toNat)
                case atStart => exact ⟨0, Nat.zero_le _, rfl, rfl⟩
                case round =>
                  obtain ⟨j, hj, rfl, rfl⟩ := hrel
                  by_cases hlt6 : j < 512
                  · have x0 := cell_blk HGI.out j
                    rw [row8_get _ _ _ (by rw [List.length_replicate]; exact hlt6)] at x0
                    rw [show (List.replicate 512 (255 : Int)).getD j 0 = 255 by simp only [List.getD, List.getElem?_replicate, hlt6, if_true, Option.getD_some]] at x0
                    go_wp2_with fail
                    go_roundw
                    case rel => exact ⟨j + 1, by omega, by go_num, trivial⟩
                    case measure => simp [intOf]; omega
                  · have hto := fun u h => toll_any p g t1 u h
                    rw [HF2.out, HF3.out] at hto
                    have h1 := flt_eq n (by omega)
                    have h2 := flt_one.2
                    rw [flt_one.1] at hto
                    have HTO := Lib.hid hto
                    clear hto
                    go_wp2_with (go_at_call 11; refine (HTO.out _ HR12.out.f).mono ?_; rintro e w13 ⟨rfl, n13, rfl⟩)
                    go_ret
                    exact ⟨by rw [show floatOfInt FloatKind.f64 (n : Int) = flt n from rfl, h1]; rfl, Go.Proofs.Ytcecgbjpmegljaa.Below.drewN HR12.out.below n13⟩

theorem list_of2 {Q : Nat → List Int → Value → Prop} : ∀ n, (∀ i, i < n → ∃ l v, Q i l v) → ∃ (L : List (List Int)) (vs : List Value), L.length = n ∧ vs.length = n ∧ ∀ i, i < n → Q i (L.getD i []) (vs.getD i undef)
  | 0, _ => ⟨[], [], rfl, rfl, fun i h => absurd h (by omega)⟩
  | n + 1, h => by
    obtain ⟨L, vs, hl, hv, hq⟩ := list_of2 n (fun i hi => h i (by omega))
    obtain ⟨l, v, hn⟩ := h n (by omega)
    refine ⟨L ++ [l], vs ++ [v], by simp [hl], by simp [hv], fun i hi => ?_⟩
    simp only [List.getD]
    rcases Nat.lt_or_ge i n with hlt | hge
    · rw [List.getElem?_append_left (by omega), List.getElem?_append_left (by omega)]
      exact hq i hlt
    · obtain rfl : i = n := by omega
      rw [List.getElem?_append_right (by omega), List.getElem?_append_right (by omega), hl, hv, Nat.sub_self]
      exact hn
theorem rowLs_of {H : Type} {enc : TypeId × Value → H} {w : World} {base : Nat} {held : Bool} {fuel : Nat} {a : Option Addr} {len cap : Nat} {x : DataW H × List MemPlace}
    (h : DataW.trod enc Try.prog w base (fun _ => true) held fuel 22 (Value.slice a len cap).cells.toList = some x) : ∃ L vs, Lists w a len cap L vs ∧ ∀ l ∈ L, bytes l := by
  rcases slice_elems (n := 1) Try.underlying22 (by kernel_rfl) h with ⟨ha, h0, hc⟩ | ⟨ad, rfl, hl, hm, hi⟩
  · subst h0
    exact ⟨[], [], ⟨rfl, rfl, by omega, fun _ => ⟨rfl, hc⟩, fun b e j u hj => by simp at hj, fun i h => absurd h (by omega)⟩, fun l h => by simp at h⟩
  · obtain ⟨L, vs, hL, hV, hq⟩ := list_of2 (Q := fun i l v => bytes l ∧ w.cell? (ad.add i) = some v ∧ ∃ si ci, v = .slice si l.length ci ∧ l.length ≤ ci ∧ (si = none → ci = 0) ∧ Src w si l.length l) len (fun i hlt => by
      obtain ⟨cs, f, y, hlen, hcell, hr⟩ := hi i hlt
      obtain ⟨sa, len', cap', zs, rfl, hrow⟩ := fld_ints Try.underlying26 Try.underlying5 (by kernel_rfl) hr
      obtain ⟨q1, q2, q3⟩ := hrow.src
      have hc := hcell 0 _ rfl
      have e : (ad.add (i * 1)).add 0 = ad.add i := by
        rw [Nat.mul_one]
        show Addr.add _ 0 = _
        unfold Addr.add
        simp
      rw [e] at hc
      refine ⟨zs.take len', _, q2, hc, sa, cap', by rw [q1.len], by rw [q1.len]; exact q3, fun e => ?_, by rw [q1.len]; exact q1⟩
      rcases hrow with ⟨_, _, rfl, _⟩ | ⟨b, rfl, _⟩
      · rfl
      · cases e)
    refine ⟨L, vs, ⟨hL, hV, hl, fun e => (by cases e), fun b e j u hj => ?_, fun i hlt => ?_⟩, fun l hm => ?_⟩
    · cases e
      have hj2 : j < len := by rw [← hV]; exact (List.getElem?_eq_some_iff.1 hj).1
      obtain ⟨_, h1, _⟩ := hq j hj2
      rw [h1, List.getD, hj]
      rfl
    · obtain ⟨_, h1, si, ci, h2, h3, h4, h5⟩ := hq i hlt
      refine ⟨si, ci, ?_, h3, h4, h5⟩
      have hi2 : i < vs.length := by omega
      rw [← h2, List.getD, List.getElem?_eq_getElem hi2]
      rfl
    · obtain ⟨k, hk, rfl⟩ := List.getElem_of_mem hm
      have := (hq k (by omega)).1
      simpa [List.getD, hk] using this
theorem clears_any (a : Option Addr) (n c : Nat) (o : Int) (w : World) (h : ∃ L vs, Lists w a n c L vs ∧ ∀ l ∈ L, bytes l) :
    Calls Try.prog 3 #[.slice a n c, .int .i64 o] w fun e w' => e = .returned (.bool true) ∧ Below w.heap.size w w' := by
  obtain ⟨L, vs, h1, h2⟩ := h
  by_cases he : 20 < n ∨ (n ≤ 20 ∧ o < 0) ∨ (n ≤ 20 ∧ 0 ≤ o ∧ (n : Int) < o)
  · exact clears_early a n c o w he
  · obtain ⟨O, rfl⟩ := Int.eq_ofNat_of_zero_le (show 0 ≤ o by omega)
    rcases Nat.eq_zero_or_pos n with h0 | h0
    · exact clears_none n c O L vs w (by omega) (by omega) a h0 h1 h2
    · cases a with
      | none => exact absurd (h1.nil rfl).1 (by omega)
      | some ad => exact clears_some n c O L vs w (by omega) (by omega) h0 ad h1 h2
end Go.Proofs.Ytcecgbjpmegljaa
