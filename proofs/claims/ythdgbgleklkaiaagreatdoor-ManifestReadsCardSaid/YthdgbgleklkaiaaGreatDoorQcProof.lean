/- ManifestReads: for every input the law answers true, and each argument reads afterwards as it read before; the card ties the listed table to the program's text. No condition. -/
import Derived.Below
import Derived.ChangeOld
import Derived.Deep.DeepHandedRow
import Derived.Lib.LaidTab
import Derived.Lib.SmallJoins
import Derived.ShutString
import Derived.Stop.LaidErr
import Derived.Test.YthdgbgleklkaiaaGreatDoorCards
import Derived.Test.YthdgbgleklkaiaaGreatDoorTie
import Derived.Test.YthdgbgleklkaiaaGreatDoorQc44
set_option linter.unusedSimpArgs false
set_option linter.unusedVariables false
namespace Go.Proofs.YthdgbgleklkaiaaGreatDoor.manifestReads
open Go.ChangeShapes Go.WideShapes Go.ChangeAt Go.RowKit
open Go.ChangeMaps (open_string shut_string)
theorem own : ownKnob Tryz.prog.godebug = none := by kernel_rfl
theorem laidOut : laidOutB Tryz.prog = true := by kernel_rfl
theorem gTab0 : Tryz.prog.globalNamed "portcullis/portcullisref1.k256" = some 0 := by kernel_rfl
theorem TG : (Tryz.prog.globals[0]?).map (·.type) = some 93 := by kernel_rfl
theorem cellsT0 : Tryz.prog.cellsOf 93 = 64 := by kernel_rfl
theorem cellsE0 : Tryz.prog.cellsOf 90 = 1 := by kernel_rfl
theorem gTab1 : Tryz.prog.globalNamed "portcullis/portcullisref1.k512" = some 5 := by kernel_rfl
theorem TF : (Tryz.prog.globals[5]?).map (·.type) = some 213 := by kernel_rfl
theorem cellsT1 : Tryz.prog.cellsOf 213 = 80 := by kernel_rfl
theorem cellsE1 : Tryz.prog.cellsOf 140 = 1 := by kernel_rfl
theorem gTab2 : Tryz.prog.globalNamed "portcullis/portcullisref3.rootOfMinusOne" = some 6 := by kernel_rfl
theorem TD : (Tryz.prog.globals[6]?).map (·.type) = some 125 := by kernel_rfl
theorem cellsT2 : Tryz.prog.cellsOf 125 = 16 := by kernel_rfl
theorem cellsE2 : Tryz.prog.cellsOf 3 = 1 := by kernel_rfl
theorem gTab3 : Tryz.prog.globalNamed "portcullis/portcullisref3.order" = some 4 := by kernel_rfl
theorem TB : (Tryz.prog.globals[4]?).map (·.type) = some 196 := by kernel_rfl
theorem cellsT3 : Tryz.prog.cellsOf 196 = 32 := by kernel_rfl
theorem cellsE3 : Tryz.prog.cellsOf 3 = 1 := by kernel_rfl
theorem gTab4 : Tryz.prog.globalNamed "portcullis/portcullisref3.d" = some 3 := by kernel_rfl
theorem TA : (Tryz.prog.globals[3]?).map (·.type) = some 125 := by kernel_rfl
theorem cellsT4 : Tryz.prog.cellsOf 125 = 16 := by kernel_rfl
theorem cellsE4 : Tryz.prog.cellsOf 3 = 1 := by kernel_rfl
theorem gTab5 : Tryz.prog.globalNamed "portcullis/portcullisref3.baseX" = some 1 := by kernel_rfl
theorem Tz : (Tryz.prog.globals[1]?).map (·.type) = some 125 := by kernel_rfl
theorem cellsT5 : Tryz.prog.cellsOf 125 = 16 := by kernel_rfl
theorem cellsE5 : Tryz.prog.cellsOf 3 = 1 := by kernel_rfl
theorem gTab6 : Tryz.prog.globalNamed "portcullis/portcullisref3.baseY" = some 2 := by kernel_rfl
theorem Tx : (Tryz.prog.globals[2]?).map (·.type) = some 125 := by kernel_rfl
theorem cellsT6 : Tryz.prog.cellsOf 125 = 16 := by kernel_rfl
theorem cellsE6 : Tryz.prog.cellsOf 3 = 1 := by kernel_rfl
theorem met {W : World} (h : laidMetH Tryz.prog Rows.manifestReadsRow.laid W) : laidMet Tryz.prog [("portcullis/portcullisref1.k256", Lib.tabData .u32 Ha.K), ("portcullis/portcullisref1.k512", Lib.tabData .u64 Hb.K), ("portcullis/portcullisref3.rootOfMinusOne", Lib.tabData .i64 Rd.imL), ("portcullis/portcullisref3.order", Lib.tabData .i64 Rd.qL), ("portcullis/portcullisref3.d", Lib.tabData .i64 Rd.dL), ("portcullis/portcullisref3.baseX", Lib.tabData .i64 Rd.xL), ("portcullis/portcullisref3.baseY", Lib.tabData .i64 Rd.yL)] W := h
theorem table0 {W : World} (h : laidMetH Tryz.prog Rows.manifestReadsRow.laid W) : Lib.TabIs Tryz.prog W "portcullis/portcullisref1.k256" .u32 Ha.K :=
  Lib.tabIs_of_head gTab0 TG Tryz.underlying93 Tryz.underlying90 cellsE0 cellsT0 (met h)
theorem table1 {W : World} (h : laidMetH Tryz.prog Rows.manifestReadsRow.laid W) : Lib.TabIs Tryz.prog W "portcullis/portcullisref1.k512" .u64 Hb.K :=
  Lib.tabIs_of_head gTab1 TF Tryz.underlying213 Tryz.underlying140 cellsE1 cellsT1 (laidMet.tail (met h))
theorem table2 {W : World} (h : laidMetH Tryz.prog Rows.manifestReadsRow.laid W) : Lib.TabIs Tryz.prog W "portcullis/portcullisref3.rootOfMinusOne" .i64 Rd.imL :=
  Lib.tabIs_of_head gTab2 TD Tryz.underlying125 Tryz.underlying3 cellsE2 cellsT2 (laidMet.tail (laidMet.tail (met h)))
theorem table3 {W : World} (h : laidMetH Tryz.prog Rows.manifestReadsRow.laid W) : Lib.TabIs Tryz.prog W "portcullis/portcullisref3.order" .i64 Rd.qL :=
  Lib.tabIs_of_head gTab3 TB Tryz.underlying196 Tryz.underlying3 cellsE3 cellsT3 (laidMet.tail (laidMet.tail (laidMet.tail (met h))))
theorem table4 {W : World} (h : laidMetH Tryz.prog Rows.manifestReadsRow.laid W) : Lib.TabIs Tryz.prog W "portcullis/portcullisref3.d" .i64 Rd.dL :=
  Lib.tabIs_of_head gTab4 TA Tryz.underlying125 Tryz.underlying3 cellsE4 cellsT4 (laidMet.tail (laidMet.tail (laidMet.tail (laidMet.tail (met h)))))
theorem table5 {W : World} (h : laidMetH Tryz.prog Rows.manifestReadsRow.laid W) : Lib.TabIs Tryz.prog W "portcullis/portcullisref3.baseX" .i64 Rd.xL :=
  Lib.tabIs_of_head gTab5 Tz Tryz.underlying125 Tryz.underlying3 cellsE5 cellsT5 (laidMet.tail (laidMet.tail (laidMet.tail (laidMet.tail (laidMet.tail (met h))))))
theorem table6 {W : World} (h : laidMetH Tryz.prog Rows.manifestReadsRow.laid W) : Lib.TabIs Tryz.prog W "portcullis/portcullisref3.baseY" .i64 Rd.yL :=
  Lib.tabIs_of_head gTab6 Tx Tryz.underlying125 Tryz.underlying3 cellsE6 cellsT6 (laidMet.tail (laidMet.tail (laidMet.tail (laidMet.tail (laidMet.tail (laidMet.tail (met h)))))))
theorem qy {W : World} {g : Nat} {k : IntKind} {L : List Int} (h : ∀ t, t < L.length → W.cell? ⟨g, t, none⟩ = some (.int k (L.getD t 0))) : W.rangeAt g 0 (L.map (Value.int k)) := by
  intro j v hj
  rw [List.getElem?_map, Option.map_eq_some_iff] at hj
  obtain ⟨y, hy, rfl⟩ := hj
  rw [Nat.zero_add, h j (List.getElem?_eq_some_iff.1 hy).1]
  simp [List.getD, hy]
set_option maxRecDepth 100000 in
theorem contract (H : Type) (enc : TypeId × Value → H) (W : World) (base : Nat) (args : Array Value) (ds gs : List (DataW H)) (before : List MemPlace)
    (hval0 : ∀ (j : Nat) t v, Tryz.f3.params[j]? = some t → args[j]? = some v → Value.okWide Tryz.prog W .any base t v)
    (hW : DataW.Whole enc Tryz.prog Tryz.f3.params.toList Rows.manifestReadsSpec.vars false W args.toList ds gs before) (hL : laidMetH Tryz.prog Rows.manifestReadsRow.laid W) :
    Calls Tryz.prog 3 args W fun e W' => ∃ v, e = .returned v ∧ Rows.manifestReadsSpec.post enc Tryz.prog Tryz.f3 false true false false W args v W' := by
  have hval : ∀ (j : Nat) t v, Tryz.f3.params[j]? = some t → args[j]? = some v → Value.okWide Tryz.prog W .any base t v := hval0
  have hW' := hW
  obtain ⟨p, q, hA0, hV, rfl, hfz, hnd⟩ := hW
  have hA : DataW.TrodAll enc Tryz.prog W 0 (fun _ => true) true Tryz.f3.params.toList args.toList ds p := hA0
  rw [Tryz.params3] at hA hval
  obtain ⟨v0, vs0, d0, ds0, p0, q0, hargs, rfl, rfl, h0, r0⟩ := trodAll_cons hA
  obtain ⟨rfl, rfl, rfl⟩ := trodAll_nil r0
  obtain rfl : args = #[v0] := by cases args; simp_all
  obtain ⟨rfl, rfl⟩ := trodVars_none hV
  have k0 := h0
  have lt0 : ∀ x ∈ p0, x.block < W.heap.size := by obtain ⟨m, hm⟩ := k0; exact DataW.trod_lt m _ _ _ hm
  obtain ⟨a0, len0, cap0, rfl⟩ := okWide_slice Tryz.underlying22 (hval 0 22 v0 rfl rfl)
  obtain ⟨z0, w0⟩ : ∃ zs, CU .u8 W a0 len0 cap0 zs := by obtain ⟨fuel, hf⟩ := h0; exact row_of Tryz.underlying22 Tryz.underlying5 (by kernel_rfl) hf
  clear hA0 hval0
  have hT0 := fun t (ht : t < (Ha.K).length) => (table0 hL).cell gTab0 t ht
  have hT1 := fun t (ht : t < (Hb.K).length) => (table1 hL).cell gTab1 t ht
  have Tw := fun t (ht : t < (Rd.imL).length) => (table2 hL).cell gTab2 t ht
  have hT3 := fun t (ht : t < (Rd.qL).length) => (table3 hL).cell gTab3 t ht
  have hT4 := fun t (ht : t < (Rd.dL).length) => (table4 hL).cell gTab4 t ht
  have hT5 := fun t (ht : t < (Rd.xL).length) => (table5 hL).cell gTab5 t ht
  have hT6 := fun t (ht : t < (Rd.yL).length) => (table6 hL).cell gTab6 t ht
  refine (show Calls Tryz.prog 3 #[.slice a0 len0 cap0] W (fun e w' => e = .returned (.bool true) ∧ Below W.heap.size W w') from Mf.KP a0 len0 cap0 W (Ce.Sk w0) ⟨⟨⟨qy hT4, qy hT5, qy hT6, fun t ht => hT1 t ht⟩, qy Tw, fun t ht => hT3 t ht⟩, fun t ht => hT0 t ht⟩).mono fun e W' ⟨he, bel⟩ => ?_
  subst he
  exact ⟨_, rfl, _, _, _, [], _, [], hW', trodAll_mk1 (shut_bool Tryz.underlying4 _), (trodAll_cons_mk (Below.trod laidOut (by kernel_rfl) (of_decide_eq_true (by kernel_rfl)) k0 bel lt0) trodAll_mk0), rfl, bel.frame _, fun h => by cases h⟩
noncomputable def laidWorld (os : Os) : World :=
  { World.holding Tryz.prog os ⟨#[], #[], []⟩ with heap := ((((((((World.holding Tryz.prog os ⟨#[], #[], []⟩).heap.modify 0 fun
      | .cells _ t frozen => .cells ((Ha.K).map (Value.int .u32)).toArray t frozen
      | o => o).modify 5 fun
      | .cells _ t frozen => .cells ((Hb.K).map (Value.int .u64)).toArray t frozen
      | o => o).modify 6 fun
      | .cells _ t frozen => .cells ((Rd.imL).map (Value.int .i64)).toArray t frozen
      | o => o).modify 4 fun
      | .cells _ t frozen => .cells ((Rd.qL).map (Value.int .i64)).toArray t frozen
      | o => o).modify 3 fun
      | .cells _ t frozen => .cells ((Rd.dL).map (Value.int .i64)).toArray t frozen
      | o => o).modify 1 fun
      | .cells _ t frozen => .cells ((Rd.xL).map (Value.int .i64)).toArray t frozen
      | o => o).modify 2 fun
      | .cells _ t frozen => .cells ((Rd.yL).map (Value.int .i64)).toArray t frozen
      | o => o) }
theorem laid_met (os : Os) : laidMet Tryz.prog Rows.manifestReadsRow.laid ((laidWorld os).forCall (fun _ _ => 0) ⟨#[], #[.slice none 0 0], []⟩).memory :=
  laidMet_of_run' 8 (by kernel_rfl) (by kernel_rfl)
theorem reads (os : Os) {H : Type} (enc : TypeId × Value → H) : ∃ ds places, DataW.whole enc Tryz.prog ((laidWorld os).forCall (fun _ _ => 0) ⟨#[], #[.slice none 0 0], []⟩).memory Tryz.f3.params.toList Rows.manifestReadsSpec.vars false (#[.slice none 0 0] : Array Value).toList 8 = some (ds, [], places) :=
  ⟨[.nil], [], by kernel_rfl⟩
set_option maxRecDepth 100000 in
set_option maxHeartbeats 4000000 in
theorem lifted (os : Os) (started : os.Started) (H : Type) (enc : TypeId × Value → H) (F : Stop.Interp) :
    ReturnsInHanded {} Tryz.checked os 3 .any ((OpenSpec.ofChange Rows.manifestReadsSpec).preRow enc Tryz.prog Tryz.f3 Rows.manifestReadsRow.domain false Rows.manifestReadsRow.laid) (((OpenSpec.ofChange Rows.manifestReadsSpec).at F).post enc Tryz.prog Tryz.f3 false true false false) := by
  obtain ⟨ds, places, hx⟩ := reads os enc
  refine returnsInHanded_of_row (C := Tryz.checked) (s := OpenSpec.ofChange Rows.manifestReadsSpec) own started (by kernel_rfl) Tryz.func3
    (witness_row_at (enc := enc) (C := Tryz.checked) false (laidWorld os) #[.slice none 0 0] rfl (by kernel_rfl) (by kernel_rfl) (by kernel_rfl)
      (OpenSpec.preRow_of_cond 8 hx (by kernel_rfl) (fun k hk => by cases hk) (by kernel_rfl) (laid_met os))) ?_
  intro W base args ds gs before hval hW _ _ _ hL _ _
  exact contract H enc W base args ds gs before hval hW hL
theorem said : Rows.ManifestReadsSaid :=
  OpenClaim.holds_of_cond 3 Tryz.f3 rfl rfl rfl rfl rfl rfl rfl ⟨rfl, rfl, rfl, rfl, rfl⟩ rfl rfl rfl rfl rfl (by kernel_rfl) Tryz.func3 (by kernel_rfl)
    (of_decide_eq_true (by kernel_rfl)) (by unfold Func.isWrapper; first | (rw [if_pos (by decide +kernel)]; kernel_rfl) | (rw [if_neg (by decide +kernel)]; exact ⟨rfl, rfl⟩))
    (fun os started H enc _ F => by rw [OpenClaim.pre_eq_preRow]; exact lifted os started H enc F)
theorem plain (f : FuncId) (fn : Func) (hf : Tryz.pinned.checked.prog.funcNamed "portcullis/portcullislaw17.ManifestReads" = some f) (hfn : Tryz.pinned.checked.prog.funcs[f]? = some fn) :
    false = Tryz.pinned.checked.prog.looks [] ∧ ∀ (j : Nat) t, fn.params[j]? = some t → Tryz.pinned.checked.prog.wantsStandIn t = false := by
  obtain rfl : f = 3 := Option.some.inj ((show Tryz.prog.funcNamed "portcullis/portcullislaw17.ManifestReads" = some 3 by kernel_rfl).symm.trans hf) |>.symm
  obtain rfl : fn = Tryz.f3 := (Option.some.inj (Tryz.func3.symm.trans hfn)).symm
  refine ⟨by kernel_rfl, fun j t ht => ?_⟩
  rw [Tryz.params3] at ht
  have n22 : Tryz.prog.wantsStandIn 22 = false := by kernel_rfl
  have hm := Array.mem_of_getElem? ht
  simp only [List.mem_toArray, List.mem_cons, List.not_mem_nil, or_false] at hm
  subst hm
  exact n22
theorem proved : Rows.ManifestReadsCardSaid :=
  Claim7.holds_tied_plain_at .later [] _ _ _ _ said (fun _ h => by cases h) (by kernel_rfl) (fun _ h => by cases h) manifestReads_row_tie rfl ⟨rfl, rfl⟩ (by kernel_rfl) rfl plain (by kernel_rfl)
#print axioms proved
end Go.Proofs.YthdgbgleklkaiaaGreatDoor.manifestReads
