/- The document's SetOf; portcullislaw28: alive, IssueSets. Conditions: what Go's integers allow; the document's table holds what its text lays. -/
import Derived.Test.YtgnkamcockmhiaaDoorIsB
namespace Go.Proofs.YtgnkamcockmhiaaDoor.Is
open Go.RowKit

theorem guard_num : Tryd.prog.eqGuardType Tryd.prog.depth 24 = false := by kernel_rfl
theorem eq_num (H : List Int) (hl : H.length = 32) (w : World) : (binOp .eql 24 (.agg (arr .u8 H)) (.agg (arr .u8 H))).run Tryd.prog w = .ok (.bool true) w := by
  have := run_eql_arr (P := Tryd.prog) w 24 5 32 .u8 .u8 Tryd.underlying24 Tryd.underlying5 Ha.size_u8 H H hl hl
  rw [beq_self_eq_true] at this
  exact this
theorem eq_num' (H : List Int) (hl : H.length = 32) (w : World) : (binOp .eql 24 (.agg (H.map (Value.int .u8)).toArray) (.agg (arr .u8 H))).run Tryd.prog w = .ok (.bool true) w := eq_num H hl w
theorem neq_num (H J : List Int) (hl : H.length = 32) (jl : J.length = 32) (hn : (H == J) = false) (w : World) : (binOp .neq 24 (.agg (H.map (Value.int .u8)).toArray) (.agg (J.map (Value.int .u8)).toArray)).run Tryd.prog w = .ok (.bool true) w := by
  have := run_neq_arr (P := Tryd.prog) w 24 5 32 .u8 .u8 Tryd.underlying24 Tryd.underlying5 Ha.size_u8 H J hl jl
  rw [hn] at this
  exact this
theorem _root_.Go.Proofs.YtgnkamcockmhiaaDoor.Kept.thenBelow {T : Nat → Prop} {a b c : World} (h : Kept T a b) (k : Below a.heap.size b c) : Kept T a c :=
  ⟨k.os.trans h.os, k.tape.trans h.tape, k.output.trans h.output, Nat.le_trans h.size k.size, fun i hi ht => (k.block i hi).trans (h.block i hi ht)⟩
theorem _root_.Go.Proofs.YtgnkamcockmhiaaDoor.Ha.TabK.kept {T : Nat → Prop} {w w' : World} (h : Ha.TabK w) (k : Kept T w w') (ht : ¬ T 0) : Ha.TabK w' := fun t h64 => k.cellX (h t h64) ht
theorem bytes_sec (seed : Int) (s : ByteArray) : bytes (be8 seed ++ sbytes s) := fun x hx => by
  rcases List.mem_append.1 hx with h | h
  · exact be8_bytes seed x h
  · exact bytes_sbytes s x h

/-- What SetOf has laid behind j rounds. -/
def kl (seed : Int) (j : Nat) : List Int := ((List.range j).map (sec seed)).flatten ++ List.replicate (32 * (4 - j)) 0
theorem kl_flat (seed : Int) (j : Nat) : (((List.range j).map (sec seed)).flatten).length = 32 * j := by
  induction j with
  | zero => rfl
  | succ j ih => rw [List.range_succ, List.map_append, List.flatten_append, List.length_append, ih]; simp [sec_len]; omega
theorem kl_len (seed : Int) (j : Nat) (hj : j ≤ 4) : (kl seed j).length = 128 := by rw [kl, List.length_append, kl_flat, List.length_replicate]; omega
theorem kl_succ (seed : Int) (j : Nat) (hj : j < 4) : ((arr .u8 (kl seed j)).toList.take (32 * j) ++ (arr .u8 (sec seed j)).toList ++ (arr .u8 (kl seed j)).toList.drop (32 * j + (arr .u8 (sec seed j)).size)).toArray = arr .u8 (kl seed (j + 1)) := by
  have h := kl_flat seed j
  rw [arr_toList, arr_toList, arr_size, sec_len, kl, List.map_append]
  have hX : (((List.range j).map (sec seed)).flatten.map (Value.int .u8)).length = 32 * j := by rw [List.length_map, h]
  rw [List.take_left' hX, List.drop_append, List.drop_eq_nil_of_le (by rw [hX]; omega), hX, List.nil_append, show 32 * j + 32 - 32 * j = 32 by omega, ← List.map_drop, List.drop_replicate]
  simp only [arr, kl, List.range_succ, List.map_append, List.flatten_append, List.map_cons, List.map_nil, List.flatten_cons, List.flatten_nil, List.append_nil]
  rw [show 32 * (4 - j) - 32 = 32 * (4 - (j + 1)) by omega]
theorem kl_four (seed : Int) : arr .u8 (kl seed 4) = setC (sec seed 0) (sec seed 1) (sec seed 2) (sec seed 3) := by
  rw [setC, kl]
  congr 1
theorem zeroK (w : World) : (zeroValue 53).run Tryd.prog w = .ok (.agg (arr .u8 (List.replicate 128 0))) w := by kernel_rfl
theorem zeroRSet (w : World) : (zeroValue 28).run Tryd.prog w = .ok (.agg (arr .u8 (List.replicate 128 0))) w := by kernel_rfl
theorem build_rset (a b c d : List Int) (ha : a.length = 32) (hb : b.length = 32) (hc : c.length = 32) (hd : d.length = 32) (w : World) :
    (Instr.build 28 #[(0, .agg (arr .u8 a)), (1, .agg (arr .u8 b)), (2, .agg (arr .u8 c)), (3, .agg (arr .u8 d))]).run Tryd.prog w = .ok (.agg (setC a b c d)) w := by
  unfold Instr.build
  simp only [Sem.run_bind, zeroRSet, Result.andThen_ok, run_underlying Tryd.underlying28]
  refine (congrArg (fun R => Result.andThen R _) (show _ = Result.ok #[((0 : Nat), 32), (32, 32), (2 * 32, 32), (3 * 32, 32)] w from ?h)).trans ?_
  case h => kernel_rfl
  simp only [Result.andThen_ok]
  rw [show (Value.agg (arr .u8 (List.replicate 128 0))).cells = arr .u8 (List.replicate 128 0) from rfl, fill4 .u8 32 a b c d (List.replicate 128 0) ha hb hc hd (by simp)]
  rfl
theorem info_rset : (Tryd.prog.info? 28).map (·.size) = some 128 := by kernel_rfl
theorem nm_row (j : Nat) (hj : j < 4) : (#[.string ⟨#[114, 111, 111, 116]⟩, .string ⟨#[115, 105, 103, 110, 101, 114]⟩, .string ⟨#[100, 101, 118, 105, 99, 101]⟩, .string ⟨#[107, 101, 121]⟩] : Array Value)[j]? = some (.string (nmS j)) := by
  match j, hj with
  | 0, _ => rfl
  | 1, _ => rfl
  | 2, _ => rfl
  | 3, _ => rfl

set_option maxRecDepth 100000 in
set_option maxHeartbeats 4000000 in
theorem setof_any (seed : Int) (w : World) (hw : -9223372036854775808 ≤ seed ∧ seed ≤ 9223372036854775807) (hT : Ha.TabK w) :
    Calls Tryd.prog 12 #[.int .i64 seed] w fun e w' => e = .returned (.agg (setC (sec seed 0) (sec seed 1) (sec seed 2) (sec seed 3))) ∧ Below w.heap.size w w' := by
  obtain ⟨zs, hzs⟩ : ∃ zs : List Int, zs = List.replicate 128 0 := ⟨_, rfl⟩
  have hz : ∀ w, (zeroValue 28).run Tryd.prog w = .ok (.agg (arr .u8 zs)) w := by intro w; rw [hzs]; exact zeroRSet w
  have hk0 : zs = kl seed 0 := by rw [hzs]; rfl
  have hzk : ∀ w, (zeroValue 53).run Tryd.prog w = .ok (.agg (arr .u8 zs)) w := by intro w; rw [hzs]; exact zeroK w
  have hzl : zs.length = 128 := by rw [hzs]; rfl
  obtain ⟨SR, hSR⟩ : ∃ x : Array Value, x = #[.string ⟨#[114, 111, 111, 116]⟩, .string ⟨#[115, 105, 103, 110, 101, 114]⟩, .string ⟨#[100, 101, 118, 105, 99, 101]⟩, .string ⟨#[107, 101, 121]⟩] := ⟨_, rfl⟩
  have hnm : ∀ j, j < 4 → SR[j]? = some (.string (nmS j)) := by rw [hSR]; exact nm_row
  have M1 := fun w => one_any seed w hw
  have M2 := fun (j : Nat) sa c w hs ht => Ha.ref_any sa (8 + (nmS j).size) c (be8 seed ++ sbytes (nmS j)) w hs (bytes_sec _ _) (by have := nmS_le j; omega) ht
  have hse : ∀ j, Ha.hash (be8 seed ++ sbytes (nmS j)) = sec seed j := fun j => rfl
  have hbl := be8_len seed
  have hsb := fun j => sbytes_len (nmS j)
  have hnl := nmS_le
  have hsl := sec_len seed
  have hkl := kl_len seed
  have hks := kl_succ seed
  have hk4 := kl_four seed
  have hgt := hT.lt
  have hbd := fun w => build_rset (sec seed 0) (sec seed 1) (sec seed 2) (sec seed 3) (sec_len _ _) (sec_len _ _) (sec_len _ _) (sec_len _ _) w
  have hsz := setC_size (sec_len seed 0) (sec_len seed 1) (sec_len seed 2) (sec_len seed 3)
  have hpt := setC_part (sec_len seed 0) (sec_len seed 1) (sec_len seed 2) (sec_len seed 3)
  have hSall : (setC (sec seed 0) (sec seed 1) (sec seed 2) (sec seed 3)).all (·.oneCell') = true := all_arr _ _
  simp only [hse] at M2
  obtain ⟨b8, hb8⟩ : ∃ x, x = be8 seed := ⟨_, rfl⟩
  rw [← hb8] at M1 hbl
  simp only [← hb8] at M2
  clear hse
  obtain ⟨SC, hSC⟩ : ∃ x, x = sec seed := ⟨_, rfl⟩
  rw [← hSC] at hsl hks hk4 hbd hsz hpt hSall ⊢
  simp only [← hSC] at M2
  obtain ⟨KL, hKL⟩ : ∃ x, x = kl seed := ⟨_, rfl⟩
  rw [← hKL] at hkl hks hk4 hk0
  obtain ⟨ST, hST⟩ : ∃ x, x = setC (SC 0) (SC 1) (SC 2) (SC 3) := ⟨_, rfl⟩
  rw [← hST] at hk4 hbd hsz hpt hSall ⊢
  obtain ⟨NM, hNM⟩ : ∃ x, x = nmS := ⟨_, rfl⟩
  simp only [← hNM] at hnm hsb M2
  rw [← hNM] at hnl
  obtain ⟨w2, hw2⟩ : ∃ x, x = ((w.alloc (.cells (arr .u8 zs) 28)).alloc (.cells SR 9)).alloc (.cells (arr .u8 zs) 53) := ⟨_, rfl⟩
  have hr0 : w2.heap[w.heap.size]? = some (.cells (arr .u8 zs) 28 (0, 0)) := by rw [hw2]; exact blk_alloc (blk_alloc (blk_new w _) _) _
  have hr1 : w2.heap[w.heap.size + 1]? = some (.cells SR 9 (0, 0)) := by rw [hw2]; have := blk_alloc (blk_new (w.alloc (.cells (arr .u8 zs) 28)) (.cells SR 9)) (.cells (arr .u8 zs) 53); rwa [World.size_alloc] at this
  have hr2 : w2.heap[w.heap.size + 1 + 1]? = some (.cells (arr .u8 zs) 53 (0, 0)) := by rw [hw2]; have := blk_new ((w.alloc (.cells (arr .u8 zs) 28)).alloc (.cells SR 9)) (.cells (arr .u8 zs) 53); rwa [World.size_alloc, World.size_alloc] at this
  have hb2 : Below w.heap.size w w2 := by rw [hw2]; exact (((Below.refl _ w).alloc (Nat.le_refl _) _).alloc (by simp) _).alloc (by simp; omega) _
  have hs2 : w.heap.size + 1 + 1 < w2.heap.size := blk_lt hr2
  rw [hk0] at hr2
  have HZ := Lib.hid hz
  have HZK := Lib.hid hzk
  have HZL := Lib.hid hzl
  have HM1 := Lib.hid M1
  have HM2 := Lib.hid M2
  have HBL := Lib.hid hbl
  have HSB := Lib.hid hsb
  have HNL := Lib.hid hnl
  have HSL := Lib.hid hsl
  have HKL := Lib.hid hkl
  have HKS := Lib.hid hks
  have HK4 := Lib.hid hk4
  have HGT := Lib.hid hgt
  have HNM := Lib.hid hnm
  have HBD := Lib.hid hbd
  have HSZ := Lib.hid hsz
  have HPT := Lib.hid hpt
  have HSA := Lib.hid hSall
  have HSR := Lib.hid hSR.symm
  have HW2 := Lib.hid hw2.symm
  have HR0 := Lib.hid hr0
  have HR1 := Lib.hid hr1
  have HR2 := Lib.hid hr2
  have HB2 := Lib.hid hb2
  have HTT := Lib.hid hT
  clear hz hzk hzl M1 M2 hbl hsb hnl hsl hkl hks hk4 hgt hnm hbd hsz hpt hSall hSR hw2 hr0 hr1 hr2 hb2 hs2 hT hk0 hzs hb8 hSC hKL hST hNM hw
  go_enter Tryd.func12, Tryd.ntmps12
  go_wp2_with (first | ((with_reducible show wpList _ _ _ (Oper.mk (some 2) _ _ _ _ _ :: _) _ _); refine wpList_alloc_row rfl 28 rfl _ (HZ.out _) ?_) | ((with_reducible show wpList _ _ _ (Oper.mk (some 4) _ _ _ _ _ :: _) _ _); refine wpList_alloc_row rfl 53 rfl _ (HZK.out _) ?_; (try simp only [World.size_alloc]); rw [HSR.out, HW2.out]))
  go_loopw [5] (fun i wr => ∃ j : Nat, j ≤ 4 ∧ i = .int .i64 j ∧ wr.heap[w.heap.size + 1 + 1]? = some (.cells (arr .u8 (KL j)) 53 (0, 0)) ∧ Kept (fun x => x = w.heap.size + 1 + 1) w2 wr) (fun i _ => 4 - (intOf i).toNat)
  case atStart => exact ⟨0, Nat.zero_le _, rfl, HR2.out, Kept.refl _ _⟩
  case round =>
    obtain ⟨j, hj, rfl, hb, hB⟩ := hrel
    have hr1 := hB.blk HR1.out (by omega)
    have hr0 := hB.blk HR0.out (by omega)
    have HR0' := Lib.hid hr0
    have HRB := Lib.hid hb
    have HBB := Lib.hid hB
    by_cases hlt : j < 4
    · have y0 : wr.cell? ⟨w.heap.size + 1, j, none⟩ = some (.string (NM j)) := (cell_blk hr1 j).trans (HNM.out j hlt)
      have hTr : ∀ w', Kept (fun x => x = w.heap.size + 1 + 1) wr w' → Ha.TabK w' := fun w' k => ((Ha.TabK.kept HTT.out (Kept.of_below (T := fun _ => False) HB2.out) (fun h => h)).kept hB (by have := HGT.out; omega)).kept k (by have := HGT.out; omega)
      have HTR := Lib.hid hTr
      have HMJ := Lib.hid (fun sa c w hs ht => HM2.out j sa c w hs ht)
      have HSJ := Lib.hid (HSL.out j)
      have HSBJ := Lib.hid (HSB.out j)
      have HNLJ := Lib.hid (HNL.out j)
      have HKJ := Lib.hid (HKL.out j hj)
      have HKSJ := Lib.hid (HKS.out j hlt)
      have hsq : w.heap.size + 1 + 1 < wr.heap.size := blk_lt hb
      have HSQ := Lib.hid hsq
      have hlti : (j : Int) < 4 := by omega
      clear hr0 hr1 hb hB hTr hsq
      generalize NM j = nm at y0 HMJ HSBJ HNLJ
      generalize SC j = sc at HMJ HSJ HKSJ
      generalize KL j = klj at HRB HKJ HKSJ
      go_upto_region 6 with fail
      have HB0 := Lib.hid ((Kept.refl (fun x => x = w.heap.size + 1 + 1) wr).drew)
      refine wp_region_held_drew (S := (fun w' => Kept (fun x => x = w.heap.size + 1 + 1) wr w')) (by kernel_rfl) (HB0.out) (fun hHeld => ?_)
      refine wpAnyH_take (i := 0) (oi := ({ dst := some 11, op := Op.move (Operand.tmp 5), type := 3, pos := "makers.go:452", after := #[], guard := none } : Oper)) (v := ?v1) rfl (by kernel_rfl) (by kernel_rfl) (by kernel_rfl) (fun _ _ _ h => h) (Or.inl ⟨by rfl, ?hy1⟩) (by assumption) ?rest1
      case hy1 => (intro w hSw; (try dsimp only at hSw); go_simp; try (with_reducible rfl))
      (try simp only [Act.put, List.setIfInBounds_toArray, List.set_cons_zero, List.set_cons_succ])
      refine wpAnyH_take (i := 1) (oi := ({ dst := some 12, op := Op.move (Operand.tmp 0), type := 3, pos := "makers.go:452", after := #[], guard := none } : Oper)) (v := ?v2) rfl (by kernel_rfl) (by kernel_rfl) (by kernel_rfl) (fun _ _ _ h => h) (Or.inl ⟨by rfl, ?hy2⟩) (by assumption) ?rest2
      case hy2 => (intro w hSw; (try dsimp only at hSw); go_simp; try (with_reducible rfl))
      (try simp only [Act.put, List.setIfInBounds_toArray, List.set_cons_zero, List.set_cons_succ])
      refine wpAnyH_take (i := 3) (oi := ({ dst := some 14, op := Op.move (Operand.tmp 3), type := 52, pos := "makers.go:452", after := #[], guard := none } : Oper)) (v := ?v3) rfl (by kernel_rfl) (by kernel_rfl) (by kernel_rfl) (fun _ _ _ h => h) (Or.inl ⟨by rfl, ?hy3⟩) (by assumption) ?rest3
      case hy3 => (intro w hSw; (try dsimp only at hSw); go_simp; try (with_reducible rfl))
      (try simp only [Act.put, List.setIfInBounds_toArray, List.set_cons_zero, List.set_cons_succ])
      refine wpAnyH_take (i := 4) (oi := ({ dst := some 15, op := Op.move (Operand.tmp 5), type := 3, pos := "makers.go:452", after := #[], guard := none } : Oper)) (v := ?v4) rfl (by kernel_rfl) (by kernel_rfl) (by kernel_rfl) (fun _ _ _ h => h) (Or.inl ⟨by rfl, ?hy4⟩) (by assumption) ?rest4
      case hy4 => (intro w hSw; (try dsimp only at hSw); go_simp; try (with_reducible rfl))
      (try simp only [Act.put, List.setIfInBounds_toArray, List.set_cons_zero, List.set_cons_succ])
      refine wpAnyH_take (i := 5) (oi := ({ dst := some 16, op := Op.indexAddr 52 (Operand.tmp 14) (Operand.tmp 15), type := 0, pos := "makers.go:452", after := #[{ on := 3, ground := Ground.data }, { on := 4, ground := Ground.data }], guard := none } : Oper)) (v := ?v5) rfl (by kernel_rfl) (by kernel_rfl) (by kernel_rfl) (fun _ _ _ h => h) (Or.inl ⟨by rfl, ?hy5⟩) (by assumption) ?rest5
      case hy5 => (intro w hSw; (try dsimp only at hSw); go_simp; try (with_reducible rfl))
      (try simp only [Act.put, List.setIfInBounds_toArray, List.set_cons_zero, List.set_cons_succ])
      refine wpAnyH_take (i := 6) (oi := ({ dst := some 17, op := Op.load 9 (Operand.tmp 16), type := 9, pos := "makers.go:452", after := #[{ on := 5, ground := Ground.data }], guard := none } : Oper)) (v := (.string nm)) rfl (by kernel_rfl) (by kernel_rfl) (by kernel_rfl) (fun _ _ _ h => h) (Or.inl ⟨by rfl, ?hy6⟩) (by assumption) ?rest6
      case hy6 => (intro w hSw; (try dsimp only at hSw); have hx := hSw.cellX y0 (fun e => absurd e (Nat.ne_of_lt (Nat.lt_succ_self _))); go_simp; try (with_reducible rfl))
      (try simp only [Act.put, List.setIfInBounds_toArray, List.set_cons_zero, List.set_cons_succ])
      refine wpAnyH_ready (rs := [2]) (by kernel_rfl) (by simp) ?_
      refine AllReadyH.cons (o := ({ dst := some 13, op := Op.call { callee := Callee.value (Operand.func 25), args := #[Operand.tmp 12], argTypes := #[3] }, type := 39, pos := "makers.go:452", after := #[{ on := 1, ground := Ground.data }], guard := none } : Oper)) rfl (fun K hK => ?_) AllReadyH.nil
      go_simp
      go_at_call 25
      refine (HM1.out _).mono ?_
      rintro e w7 ⟨v2, rfl, ho2, hb7⟩
      have HB7 := Lib.hid (HB0.out.trans (Kept.of_below hb7))
      have HRB := Lib.hid (Below.blk hb7 HRB.out (blk_lt HRB.out))
      have HO2 := Lib.hid (ho2.mono (B' := wr.heap.size) HB0.out.size)
      obtain ⟨s2, c2, hv2, -⟩ := ho2.form
      rw [HBL.out] at hv2
      subst hv2
      clear ho2
      clear hb7
      (try dsimp only)
      refine hK.out _ _ (HB7.out) (fun hHeld => ?_)
      clear hK K
      (try simp only [Act.put, List.setIfInBounds_toArray, List.set_cons_zero, List.set_cons_succ])
      refine wpAnyH_ready (rs := [7]) (by kernel_rfl) (by simp) ?_
      refine AllReadyH.cons (o := ({ dst := some 18, op := Op.call { callee := Callee.builtin Builtin.append, args := #[Operand.tmp 13, Operand.tmp 17], argTypes := #[39, 9] }, type := 39, pos := "makers.go:452", after := #[{ on := 2, ground := Ground.data }, { on := 6, ground := Ground.data }, { on := 2, ground := Ground.chain }], guard := none } : Oper)) rfl (fun K hK => ?_) AllReadyH.nil
      refine step_app8_str rfl (.tmp 13) (.tmp 17) 9 Tryd.underlying9 rfl wr.heap.size (.slice s2 8 c2) b8 nm ?ca1 ?ca2 HO2.out (by rw [HBL.out]; have := HNLJ.out; omega) HB7.out.size ?_
      case ca1 => go_simp
      case ca2 => go_simp
      intro v8 w8 ho8 hg8
      have hbl8 := app8_below HO2.out hg8 (Below.refl _ _) HB7.out.size
      have HB8 := Lib.hid (HB7.out.thenBelow hbl8)
      have HRB := Lib.hid (Below.blk hbl8 HRB.out HSQ.out)
      obtain ⟨s4, c4, hv4, -, -, hs4, -⟩ := ho8.form
      rw [List.length_append, HBL.out, HSBJ.out] at hv4 hs4
      subst hv4
      have HS4 := Lib.hid hs4
      clear ho8 hg8 hbl8 hs4
      refine hK.out _ _ (HB8.out) (fun hHeld => ?_)
      clear hK K
      (try simp only [Act.put])
      refine wpAnyH_ready (rs := [8]) (by kernel_rfl) (by simp) ?_
      refine AllReadyH.cons (o := ({ dst := some 19, op := Op.call { callee := Callee.value (Operand.func 24), args := #[Operand.tmp 18], argTypes := #[39] }, type := 24, pos := "makers.go:452", after := #[{ on := 7, ground := Ground.data }, { on := 7, ground := Ground.chain }], guard := none } : Oper)) rfl (fun K hK => ?_) AllReadyH.nil
      go_simp
      go_at_call 24
      refine (HMJ.out _ _ _ HS4.out (HTR.out _ HB8.out)).mono ?_
      rintro e w9 ⟨rfl, hb9⟩
      have HB9 := Lib.hid (HB8.out.trans (Kept.of_below hb9))
      have HRB := Lib.hid (Below.blk hb9 HRB.out (blk_lt HRB.out))
      clear hb9
      (try dsimp only)
      refine hK.out _ _ (HB9.out) (fun hHeld => ?_)
      clear hK K
      (try simp only [Act.put, List.setIfInBounds_toArray, List.set_cons_zero, List.set_cons_succ])
      refine wpAnyH_take (i := 9) (oi := ({ dst := some 20, op := Op.indexAddr 53 (Operand.tmp 4) (Operand.tmp 11), type := 0, pos := "makers.go:452", after := #[{ on := 0, ground := Ground.data }, { on := 0, ground := Ground.phase }, { on := 1, ground := Ground.phase }, { on := 2, ground := Ground.phase }, { on := 3, ground := Ground.phase }, { on := 4, ground := Ground.phase }, { on := 5, ground := Ground.phase }, { on := 6, ground := Ground.phase }, { on := 7, ground := Ground.phase }, { on := 8, ground := Ground.phase }], guard := none } : Oper)) (v := (.pointer (some ⟨w.heap.size + 1 + 1, 32 * j, none⟩))) rfl (by kernel_rfl) (by kernel_rfl) (by kernel_rfl) (fun _ _ _ h => h) (Or.inl ⟨by rfl, ?hy10⟩) (by assumption) ?rest10
      case hy10 => (intro w hSw; (try dsimp only at hSw); go_simp; try (with_reducible rfl))
      (try simp only [Act.put, List.setIfInBounds_toArray, List.set_cons_zero, List.set_cons_succ])
      refine wpAnyH_ready (rs := [10]) (by kernel_rfl) (by simp) ?_
      refine AllReadyH.cons (o := ({ dst := none, op := Op.store 24 (Operand.tmp 20) (Operand.tmp 19), type := 0, pos := "makers.go:452", after := #[{ on := 9, ground := Ground.data }, { on := 8, ground := Ground.data }, { on := 8, ground := Ground.chain }, { on := 0, ground := Ground.phase }, { on := 1, ground := Ground.phase }, { on := 2, ground := Ground.phase }, { on := 3, ground := Ground.phase }, { on := 4, ground := Ground.phase }, { on := 5, ground := Ground.phase }, { on := 6, ground := Ground.phase }, { on := 7, ground := Ground.phase }, { on := 8, ground := Ground.phase }], guard := none } : Oper)) rfl (fun K hK => ?_) AllReadyH.nil
      refine step_store_part rfl 24 (.tmp 20) (.tmp 19) rfl (w.heap.size + 1 + 1) (32 * j) (arr .u8 klj) (arr .u8 sc) 53 HRB.out rfl rfl (by rw [arr_size, arr_size, HSJ.out, HKJ.out]; omega) (by rw [arr_size, HSJ.out]; exact info_num) (all_arr _ _) ?_
      intro w11 hb11 hk11 hz11
      have HB11 := Lib.hid (HB9.out.trans_new hk11 (fun i hi e => e))
      have hb' := hb11
      rw [HKSJ.out] at hb'
      have HFIN := Lib.hid hb'
      have HLAST := HB11
      clear hb11 hk11 hz11 hb'
      refine hK.out _ _ (HB11.out) (fun hHeld => ?_)
      clear hK K
      (try simp only [Act.put])
      refine wpAnyH_done (by kernel_rfl) ?_ _
      (try simp only [Exit.then])
      go_wp2_with fail
      go_roundw
      case rel => exact ⟨j + 1, by omega, by go_num, HFIN.out, HBB.out.trans HLAST.out⟩
      case measure => simp [intOf]; omega
    · obtain rfl : j = 4 := by omega
      clear hr0 hr1 hb hB
      have hbb := HRB.out
      rw [HK4.out] at hbb
      have HR4 := Lib.hid hbb
      clear hbb HRB
      go_wp2_with (first | ((with_reducible show wpList _ _ _ (Oper.mk (some 22) _ _ _ _ _ :: _) _ _); refine wpList_load_part rfl 24 _ rfl (w.heap.size + 1 + 1) 0 _ 53 (0, 0) _ HR4.out rfl .u8 (SC 0) HPT.out.1 Tryd.underlying24 rfl (by rw [HSL.out]; exact info_num) ?_) | ((with_reducible show wpList _ _ _ (Oper.mk (some 24) _ _ _ _ _ :: _) _ _); refine wpList_load_part rfl 24 _ rfl (w.heap.size + 1 + 1) 32 _ 53 (0, 0) _ HR4.out rfl .u8 (SC 1) HPT.out.2.1 Tryd.underlying24 rfl (by rw [HSL.out]; exact info_num) ?_) | ((with_reducible show wpList _ _ _ (Oper.mk (some 26) _ _ _ _ _ :: _) _ _); refine wpList_load_part rfl 24 _ rfl (w.heap.size + 1 + 1) 64 _ 53 (0, 0) _ HR4.out rfl .u8 (SC 2) HPT.out.2.2.1 Tryd.underlying24 rfl (by rw [HSL.out]; exact info_num) ?_) | ((with_reducible show wpList _ _ _ (Oper.mk (some 28) _ _ _ _ _ :: _) _ _); refine wpList_load_part rfl 24 _ rfl (w.heap.size + 1 + 1) 96 _ 53 (0, 0) _ HR4.out rfl .u8 (SC 3) HPT.out.2.2.2 Tryd.underlying24 rfl (by rw [HSL.out]; exact info_num) ?_) | ((with_reducible show wpList _ _ _ (Oper.mk (some 29) _ _ _ _ _ :: _) _ _); refine wpList_build rfl 28 _ rfl #[(0, .agg (arr .u8 (SC 0))), (1, .agg (arr .u8 (SC 1))), (2, .agg (arr .u8 (SC 2))), (3, .agg (arr .u8 (SC 3)))] rfl _ (HBD.out _) ?_) | ((with_reducible show wpList _ _ _ (Oper.mk none _ _ _ _ _ :: _) _ _); refine wpList_store_whole rfl 28 _ _ rfl w.heap.size _ _ 28 HR0'.out rfl rfl (by rw [HSZ.out, arr_size, HZL.out]) (by rw [HSZ.out]; exact info_rset) HSA.out ?_; intro w9 hb9 hk9 hz9; have HR9 := Lib.hid hb9; have HB9 := Lib.hid ((HB2.out.trans (HBB.out.toBelow HB2.out.size (by rintro i rfl; omega))).trans (hk9.toBelow (Nat.le_trans HB2.out.size HBB.out.size) (by rintro i rfl; exact Nat.le_refl _))); clear hb9 hk9 hz9))
      (try simp only [Exit.inBlock, Exit.then])
      refine bodyPost_ret (results_cell_row rfl _ _ w.heap.size 28 _ (0, 0) _ rfl HR9.out Tryd.underlying28 rfl (by rw [HSZ.out]; exact info_rset)) rfl ?_
      exact ⟨rfl, HB9.out⟩
end Go.Proofs.YtgnkamcockmhiaaDoor.Is
