/- ManifestPacks: for every input the law answers true, and each argument reads afterwards as it read before; the card ties the listed table to the program's text. No condition. -/
import Derived.Below
import Derived.ChangeOld
import Derived.Deep.DeepHandedRow
import Derived.Lib.LaidTab
import Derived.Lib.SmallJoins
import Derived.OpenShut
import Derived.ProofKit
import Derived.ShutString
import Derived.Stop.LaidErr
import Derived.Test.YthdgbgleklkaiaaDoorCards
import Derived.Test.YthdgbgleklkaiaaDoorTie
import Derived.WalkKit
import Derived.Test.YthdgbgleklkaiaaDoorQb04
import Derived.Test.YthdgbgleklkaiaaDoorQb40
import Derived.Test.YthdgbgleklkaiaaDoorQb44
set_option linter.unusedSimpArgs false
set_option linter.unusedVariables false
namespace Go.Proofs.YthdgbgleklkaiaaDoor.manifestPacks
open Go.ChangeShapes Go.WideShapes Go.ChangeAt Go.RowKit
open Go.ChangeMaps (open_string shut_string)
theorem own : ownKnob Tryd.prog.godebug = none := by kernel_rfl
theorem laidOut : laidOutB Tryd.prog = true := by kernel_rfl
theorem gTab0 : Tryd.prog.globalNamed "portcullis/portcullisref1.k256" = some 0 := by kernel_rfl
theorem Tf : (Tryd.prog.globals[0]?).map (·.type) = some 64 := by kernel_rfl
theorem cellsT0 : Tryd.prog.cellsOf 64 = 64 := by kernel_rfl
theorem cellsE0 : Tryd.prog.cellsOf 61 = 1 := by kernel_rfl
theorem gTab1 : Tryd.prog.globalNamed "portcullis/portcullisref1.k512" = some 4 := by kernel_rfl
theorem Te : (Tryd.prog.globals[4]?).map (·.type) = some 133 := by kernel_rfl
theorem cellsT1 : Tryd.prog.cellsOf 133 = 80 := by kernel_rfl
theorem cellsE1 : Tryd.prog.cellsOf 82 = 1 := by kernel_rfl
theorem gTab2 : Tryd.prog.globalNamed "portcullis/portcullisref3.rootOfMinusOne" = some 5 := by kernel_rfl
theorem Td : (Tryd.prog.globals[5]?).map (·.type) = some 98 := by kernel_rfl
theorem cellsT2 : Tryd.prog.cellsOf 98 = 16 := by kernel_rfl
theorem cellsE2 : Tryd.prog.cellsOf 3 = 1 := by kernel_rfl
theorem gTab3 : Tryd.prog.globalNamed "portcullis/portcullisref3.order" = some 6 := by kernel_rfl
theorem Tc : (Tryd.prog.globals[6]?).map (·.type) = some 150 := by kernel_rfl
theorem cellsT3 : Tryd.prog.cellsOf 150 = 32 := by kernel_rfl
theorem cellsE3 : Tryd.prog.cellsOf 3 = 1 := by kernel_rfl
theorem gTab4 : Tryd.prog.globalNamed "portcullis/portcullisref3.d" = some 3 := by kernel_rfl
theorem Ta : (Tryd.prog.globals[3]?).map (·.type) = some 98 := by kernel_rfl
theorem cellsT4 : Tryd.prog.cellsOf 98 = 16 := by kernel_rfl
theorem cellsE4 : Tryd.prog.cellsOf 3 = 1 := by kernel_rfl
theorem gTab5 : Tryd.prog.globalNamed "portcullis/portcullisref3.baseX" = some 1 := by kernel_rfl
theorem S9 : (Tryd.prog.globals[1]?).map (·.type) = some 98 := by kernel_rfl
theorem cellsT5 : Tryd.prog.cellsOf 98 = 16 := by kernel_rfl
theorem cellsE5 : Tryd.prog.cellsOf 3 = 1 := by kernel_rfl
theorem gTab6 : Tryd.prog.globalNamed "portcullis/portcullisref3.baseY" = some 2 := by kernel_rfl
theorem SY : (Tryd.prog.globals[2]?).map (·.type) = some 98 := by kernel_rfl
theorem cellsT6 : Tryd.prog.cellsOf 98 = 16 := by kernel_rfl
theorem cellsE6 : Tryd.prog.cellsOf 3 = 1 := by kernel_rfl
theorem met {W : World} (h : laidMetH Tryd.prog Rows.manifestPacksRow.laid W) : laidMet Tryd.prog [("portcullis/portcullisref1.k256", Lib.tabData .u32 Ha.K), ("portcullis/portcullisref1.k512", Lib.tabData .u64 Hb.K), ("portcullis/portcullisref3.rootOfMinusOne", Lib.tabData .i64 Rd.imL), ("portcullis/portcullisref3.order", Lib.tabData .i64 Rd.qL), ("portcullis/portcullisref3.d", Lib.tabData .i64 Rd.dL), ("portcullis/portcullisref3.baseX", Lib.tabData .i64 Rd.xL), ("portcullis/portcullisref3.baseY", Lib.tabData .i64 Rd.yL)] W := h
theorem table0 {W : World} (h : laidMetH Tryd.prog Rows.manifestPacksRow.laid W) : Lib.TabIs Tryd.prog W "portcullis/portcullisref1.k256" .u32 Ha.K :=
  Lib.tabIs_of_head gTab0 Tf Tryd.underlying64 Tryd.underlying61 cellsE0 cellsT0 (met h)
theorem table1 {W : World} (h : laidMetH Tryd.prog Rows.manifestPacksRow.laid W) : Lib.TabIs Tryd.prog W "portcullis/portcullisref1.k512" .u64 Hb.K :=
  Lib.tabIs_of_head gTab1 Te Tryd.underlying133 Tryd.underlying82 cellsE1 cellsT1 (laidMet.tail (met h))
theorem table2 {W : World} (h : laidMetH Tryd.prog Rows.manifestPacksRow.laid W) : Lib.TabIs Tryd.prog W "portcullis/portcullisref3.rootOfMinusOne" .i64 Rd.imL :=
  Lib.tabIs_of_head gTab2 Td Tryd.underlying98 Tryd.underlying3 cellsE2 cellsT2 (laidMet.tail (laidMet.tail (met h)))
theorem table3 {W : World} (h : laidMetH Tryd.prog Rows.manifestPacksRow.laid W) : Lib.TabIs Tryd.prog W "portcullis/portcullisref3.order" .i64 Rd.qL :=
  Lib.tabIs_of_head gTab3 Tc Tryd.underlying150 Tryd.underlying3 cellsE3 cellsT3 (laidMet.tail (laidMet.tail (laidMet.tail (met h))))
theorem table4 {W : World} (h : laidMetH Tryd.prog Rows.manifestPacksRow.laid W) : Lib.TabIs Tryd.prog W "portcullis/portcullisref3.d" .i64 Rd.dL :=
  Lib.tabIs_of_head gTab4 Ta Tryd.underlying98 Tryd.underlying3 cellsE4 cellsT4 (laidMet.tail (laidMet.tail (laidMet.tail (laidMet.tail (met h)))))
theorem table5 {W : World} (h : laidMetH Tryd.prog Rows.manifestPacksRow.laid W) : Lib.TabIs Tryd.prog W "portcullis/portcullisref3.baseX" .i64 Rd.xL :=
  Lib.tabIs_of_head gTab5 S9 Tryd.underlying98 Tryd.underlying3 cellsE5 cellsT5 (laidMet.tail (laidMet.tail (laidMet.tail (laidMet.tail (laidMet.tail (met h))))))
theorem table6 {W : World} (h : laidMetH Tryd.prog Rows.manifestPacksRow.laid W) : Lib.TabIs Tryd.prog W "portcullis/portcullisref3.baseY" .i64 Rd.yL :=
  Lib.tabIs_of_head gTab6 SY Tryd.underlying98 Tryd.underlying3 cellsE6 cellsT6 (laidMet.tail (laidMet.tail (laidMet.tail (laidMet.tail (laidMet.tail (laidMet.tail (met h)))))))
theorem qK {W : World} {g : Nat} {k : IntKind} {L : List Int} (h : ∀ t, t < L.length → W.cell? ⟨g, t, none⟩ = some (.int k (L.getD t 0))) : W.rangeAt g 0 (L.map (Value.int k)) := by
  intro j v hj
  rw [List.getElem?_map, Option.map_eq_some_iff] at hj
  obtain ⟨y, hy, rfl⟩ := hj
  rw [Nat.zero_add, h j (List.getElem?_eq_some_iff.1 hy).1]
  simp [List.getD, hy]
set_option maxRecDepth 100000 in
theorem contract (H : Type) (enc : TypeId × Value → H) (W : World) (base : Nat) (args : Array Value) (ds gs : List (DataW H)) (before : List MemPlace)
    (hval0 : ∀ (j : Nat) t v, Tryd.f4.params[j]? = some t → args[j]? = some v → Value.okWide Tryd.prog W .any base t v)
    (hW : DataW.Whole enc Tryd.prog Tryd.f4.params.toList Rows.manifestPacksSpec.vars false W args.toList ds gs before) (hL : laidMetH Tryd.prog Rows.manifestPacksRow.laid W) :
    Calls Tryd.prog 4 args W fun e W' => ∃ v, e = .returned v ∧ Rows.manifestPacksSpec.post enc Tryd.prog Tryd.f4 false true false false W args v W' := by
  have hval : ∀ (j : Nat) t v, Tryd.f4.params[j]? = some t → args[j]? = some v → Value.okWide Tryd.prog W .any base t v := hval0
  have hW' := hW
  obtain ⟨p, q, hA0, hV, rfl, hfz, hnd⟩ := hW
  have hA : DataW.TrodAll enc Tryd.prog W 0 (fun _ => true) true Tryd.f4.params.toList args.toList ds p := hA0
  rw [Tryd.params4] at hA hval
  obtain ⟨v0, vs0, d0, ds0, p0, q0, hargs, rfl, rfl, h0, r0⟩ := trodAll_cons hA
  obtain ⟨rfl, rfl, rfl⟩ := trodAll_nil r0
  obtain rfl : args = #[v0] := by cases args; simp_all
  obtain ⟨rfl, rfl⟩ := trodVars_none hV
  have k0 := h0
  have lt0 : ∀ x ∈ p0, x.block < W.heap.size := by obtain ⟨m, hm⟩ := k0; exact DataW.trod_lt m _ _ _ hm
  obtain ⟨m0v, m0b, m0i, m0r, m0k, m0g, m0s, m0z, m0a, m0n, m0c, rfl, mw0, ml0, mb0, mi0⟩ := Mf.Wo (hval 0 30 v0 rfl rfl) h0
  clear hA0 hval0
  have hT0 := fun t (ht : t < (Ha.K).length) => (table0 hL).cell gTab0 t ht
  have hT1 := fun t (ht : t < (Hb.K).length) => (table1 hL).cell gTab1 t ht
  have SX := fun t (ht : t < (Rd.imL).length) => (table2 hL).cell gTab2 t ht
  have ZG := fun t (ht : t < (Rd.qL).length) => (table3 hL).cell gTab3 t ht
  have hT4 := fun t (ht : t < (Rd.dL).length) => (table4 hL).cell gTab4 t ht
  have hT5 := fun t (ht : t < (Rd.xL).length) => (table5 hL).cell gTab5 t ht
  have hT6 := fun t (ht : t < (Rd.yL).length) => (table6 hL).cell gTab6 t ht
  refine (show Calls Tryd.prog 4 #[.agg (Mf.aZ m0v m0b m0r (.slice m0a m0n m0c) m0i m0k m0g m0s)] W (fun e w' => e = .returned (.bool true) ∧ Below W.heap.size W w') from Mf.KD m0v m0b m0i m0a m0n m0c W ml0 mb0 (Ce.RS mw0) ⟨⟨⟨qK hT4, qK hT5, qK hT6, fun t ht => hT1 t ht⟩, qK SX, fun t ht => ZG t ht⟩, fun t ht => hT0 t ht⟩).mono fun e W' ⟨he, bel⟩ => ?_
  subst he
  exact ⟨_, rfl, _, _, _, [], _, [], hW', trodAll_mk1 (shut_bool Tryd.underlying4 _), (trodAll_cons_mk (Below.trod laidOut (by kernel_rfl) (of_decide_eq_true (by kernel_rfl)) k0 bel lt0) trodAll_mk0), rfl, bel.frame _, fun h => by cases h⟩
noncomputable def laidWorld (os : Os) : World :=
  { World.holding Tryd.prog os ⟨#[], #[], []⟩ with heap := ((((((((World.holding Tryd.prog os ⟨#[], #[], []⟩).heap.modify 0 fun
      | .cells _ t frozen => .cells ((Ha.K).map (Value.int .u32)).toArray t frozen
      | o => o).modify 4 fun
      | .cells _ t frozen => .cells ((Hb.K).map (Value.int .u64)).toArray t frozen
      | o => o).modify 5 fun
      | .cells _ t frozen => .cells ((Rd.imL).map (Value.int .i64)).toArray t frozen
      | o => o).modify 6 fun
      | .cells _ t frozen => .cells ((Rd.qL).map (Value.int .i64)).toArray t frozen
      | o => o).modify 3 fun
      | .cells _ t frozen => .cells ((Rd.dL).map (Value.int .i64)).toArray t frozen
      | o => o).modify 1 fun
      | .cells _ t frozen => .cells ((Rd.xL).map (Value.int .i64)).toArray t frozen
      | o => o).modify 2 fun
      | .cells _ t frozen => .cells ((Rd.yL).map (Value.int .i64)).toArray t frozen
      | o => o) }
theorem laid_met (os : Os) : laidMet Tryd.prog Rows.manifestPacksRow.laid ((laidWorld os).forCall (fun _ _ => 0) ⟨#[], #[.agg Mf.iI], []⟩).memory :=
  laidMet_of_run' 8 (by kernel_rfl) (by kernel_rfl)
theorem reads (os : Os) {H : Type} (enc : TypeId × Value → H) : ∃ ds places, DataW.whole enc Tryd.prog ((laidWorld os).forCall (fun _ _ => 0) ⟨#[], #[.agg Mf.iI], []⟩).memory Tryd.f4.params.toList Rows.manifestPacksSpec.vars false (#[.agg Mf.iI] : Array Value).toList 8 = some (ds, [], places) :=
  ⟨[.agg [.lit (.int .i64 0), .lit (.int .i64 0), .agg (List.replicate 32 (.lit (.int .u8 0))), .nil, .agg [.lit (.int .i64 0), .agg (List.replicate 32 (.lit (.int .u8 0))), .agg (List.replicate 64 (.lit (.int .u8 0)))], .agg (List.replicate 64 (.lit (.int .u8 0)))]], [], by kernel_rfl⟩
set_option maxRecDepth 100000 in
set_option maxHeartbeats 4000000 in
theorem lifted (os : Os) (started : os.Started) (H : Type) (enc : TypeId × Value → H) (F : Stop.Interp) :
    ReturnsInHanded {} Tryd.checked os 4 .any ((OpenSpec.ofChange Rows.manifestPacksSpec).preRow enc Tryd.prog Tryd.f4 Rows.manifestPacksRow.domain false Rows.manifestPacksRow.laid) (((OpenSpec.ofChange Rows.manifestPacksSpec).at F).post enc Tryd.prog Tryd.f4 false true false false) := by
  obtain ⟨ds, places, hx⟩ := reads os enc
  refine returnsInHanded_of_row (C := Tryd.checked) (s := OpenSpec.ofChange Rows.manifestPacksSpec) own started (by kernel_rfl) Tryd.func4
    (witness_row_at (enc := enc) (C := Tryd.checked) false (laidWorld os) #[.agg Mf.iI] rfl (by kernel_rfl) (by kernel_rfl) (by kernel_rfl)
      (OpenSpec.preRow_of_cond 8 hx (by kernel_rfl) (fun k hk => by cases hk) (by kernel_rfl) (laid_met os))) ?_
  intro W base args ds gs before hval hW _ _ _ hL _ _
  exact contract H enc W base args ds gs before hval hW hL
theorem said : Rows.ManifestPacksSaid :=
  OpenClaim.holds_of_cond 4 Tryd.f4 rfl rfl rfl rfl rfl rfl rfl ⟨rfl, rfl, rfl, rfl, rfl⟩ rfl rfl rfl rfl rfl (by kernel_rfl) Tryd.func4 (by kernel_rfl)
    (of_decide_eq_true (by kernel_rfl)) (by unfold Func.isWrapper; first | (rw [if_pos (by decide +kernel)]; kernel_rfl) | (rw [if_neg (by decide +kernel)]; exact ⟨rfl, rfl⟩))
    (fun os started H enc _ F => by rw [OpenClaim.pre_eq_preRow]; exact lifted os started H enc F)
theorem plain (f : FuncId) (fn : Func) (hf : Tryd.pinned.checked.prog.funcNamed "portcullis/portcullislaw17.ManifestPacks" = some f) (hfn : Tryd.pinned.checked.prog.funcs[f]? = some fn) :
    false = Tryd.pinned.checked.prog.looks [] ∧ ∀ (j : Nat) t, fn.params[j]? = some t → Tryd.pinned.checked.prog.wantsStandIn t = false := by
  obtain rfl : f = 4 := Option.some.inj ((show Tryd.prog.funcNamed "portcullis/portcullislaw17.ManifestPacks" = some 4 by kernel_rfl).symm.trans hf) |>.symm
  obtain rfl : fn = Tryd.f4 := (Option.some.inj (Tryd.func4.symm.trans hfn)).symm
  refine ⟨by kernel_rfl, fun j t ht => ?_⟩
  rw [Tryd.params4] at ht
  have n30 : Tryd.prog.wantsStandIn 30 = false := by kernel_rfl
  have hm := Array.mem_of_getElem? ht
  simp only [List.mem_toArray, List.mem_cons, List.not_mem_nil, or_false] at hm
  subst hm
  exact n30
theorem proved : Rows.ManifestPacksCardSaid :=
  Claim7.holds_tied_plain_at .later [] _ _ _ _ said (fun _ h => by cases h) (by kernel_rfl) (fun _ h => by cases h) manifestPacks_row_tie rfl ⟨rfl, rfl⟩ (by kernel_rfl) rfl plain (by kernel_rfl)
#print axioms proved
end Go.Proofs.YthdgbgleklkaiaaDoor.manifestPacks
