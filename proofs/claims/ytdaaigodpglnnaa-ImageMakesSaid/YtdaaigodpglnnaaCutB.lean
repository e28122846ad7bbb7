/- image.Cut: what it answers. Condition: the bytes lie there, within their capacity. -/
import Derived.Test.YtdaaigodpglnnaaCut
namespace Go.Proofs.Ytdaaigodpglnnaa
open Go.RowKit Go.Shelf
attribute [local go_sem] Oper.semAt_some

set_option maxRecDepth 100000 in
theorem cut_long (sa : Option Addr) (n c : Nat) (w : World) (hn : 2048 < n) :
    Calls Try.prog 14 #[.slice sa n c] w fun e w' => e = .returned (.tuple #[.slice none 0 0, .int .i64 3]) ∧ w' = w := by
  go_enter Try.func14, Try.ntmps14
  go_wp2
  go_ret2
  exact ⟨rfl, rfl⟩

set_option maxRecDepth 100000 in
theorem cut_none (sa : Option Addr) (c : Nat) (w : World) :
    Calls Try.prog 14 #[.slice sa 0 c] w fun e w' => ∃ v, e = .returned (.tuple #[v, .int .i64 0]) ∧ OwnL w' w.heap.size v [zeros 64] ∧ Below w.heap.size w w' := by
  have hmk : ∀ w : World, (Instr.makeSlice 22 (.int .i64 64) (.int .i64 64)).run Try.prog w = .ok (.slice (some ⟨w.heap.size, 0, none⟩) 64 64) (w.alloc (.cells (row8 (zeros 64) []) 5)) := mk8 64 (by omega)
  go_enter Try.func14, Try.ntmps14
  go_wp2
  go_ret2
  have h1 : ((w.alloc (.cells (row8 (zeros 64) []) 5)).alloc (.cells #[.slice (some ⟨w.heap.size, 0, none⟩) 64 64] 22)).heap[w.heap.size]? = some (.cells (row8 (zeros 64) []) 5 (0, 0)) := blk_alloc (blk_new _ _) _
  have h2 : ((w.alloc (.cells (row8 (zeros 64) []) 5)).alloc (.cells #[.slice (some ⟨w.heap.size, 0, none⟩) 64 64] 22)).heap[w.heap.size + 1]? = some (.cells #[.slice (some ⟨w.heap.size, 0, none⟩) 64 64] 22 (0, 0)) := by
    have := blk_new (w.alloc (.cells (row8 (zeros 64) []) 5)) (.cells #[.slice (some ⟨w.heap.size, 0, none⟩) 64 64] 22)
    rwa [World.size_alloc] at this
  refine ⟨_, rfl, ⟨[.slice (some ⟨w.heap.size, 0, none⟩) 64 64], ⟨rfl, .inr ⟨w.heap.size + 1, 1, _, rfl, by omega, h2, Nat.le_refl _, by simp [maxLen], rfl, rfl⟩⟩, rfl, fun i hi => ?_⟩, ((Below.refl _ w).alloc (Nat.le_refl _) _).alloc (by simp) _⟩
  obtain rfl : i = 0 := by simp at hi; omega
  exact ⟨w.heap.size, 64, [], rfl, Nat.le_refl _, h1, rfl, by simp [maxLen]⟩

set_option maxRecDepth 100000 in
set_option maxHeartbeats 2000000 in
theorem cut_in (F : Fence) (N : Nat) (h14 : F.fn 14) (h34 : F.fn 34) (h56 : F.fn 56) (hro : F.round = none) (hN : 3 ≤ N)
    (ad : Addr) (n c : Nat) (xs : List Int) (w : World) (hs : Src w (some ad) n xs) (hc : n ≤ c) (h0n : 0 < n) (hn : n ≤ 2048) :
    CallsIn F N Try.prog 14 #[.slice (some ad) n c] w fun e w' => ∃ v, e = .returned (.tuple #[v, .int .i64 0]) ∧ OwnL w' w.heap.size v (cutL xs) ∧ Below w.heap.size w w' := by
  have h1 : 1 ≤ N := by omega
  refine callsIn_of_wp_marks Try.func14 rfl h14 ?_ hro
  simp only [Try.ntmps14, List.size_toArray, List.length_cons, List.length_nil, Nat.reduceAdd, Nat.reduceSub, Array.replicate_succ, Array.replicate_zero, List.push_toArray, List.append_toArray, List.nil_append, List.cons_append]
  gi_wp2_with (gi_at_call 34; refine (chunkmk_in F (N - 1) h34 hro _ _ _ _).mono ?_; rintro e w' ⟨rfl, rfl⟩)
  have hA1 : Below w.heap.size w ((((w.alloc (.cells #[.slice none 0 0] 24)).alloc (.cells #[.slice (some ad) n c] 22))).alloc (.cells #[.int .i64 64] 3)) := (((Below.refl _ w).alloc (Nat.le_refl _) _).alloc (by simp) _).alloc (by simp; omega) _
  have hb0 : ((((w.alloc (.cells #[.slice none 0 0] 24)).alloc (.cells #[.slice (some ad) n c] 22))).alloc (.cells #[.int .i64 64] 3)).heap[w.heap.size]? = some (.cells #[.slice none 0 0] 24 (0, 0)) := blk_alloc (blk_alloc (blk_new _ _) _) _
  have hb1 : ((((w.alloc (.cells #[.slice none 0 0] 24)).alloc (.cells #[.slice (some ad) n c] 22))).alloc (.cells #[.int .i64 64] 3)).heap[w.heap.size + 1]? = some (.cells #[.slice (some ad) n c] 22 (0, 0)) := by
    have := blk_new (w.alloc (.cells #[.slice none 0 0] 24)) (.cells #[.slice (some ad) n c] 22)
    rw [World.size_alloc] at this
    exact blk_alloc this _
  have hb2 : ((((w.alloc (.cells #[.slice none 0 0] 24)).alloc (.cells #[.slice (some ad) n c] 22))).alloc (.cells #[.int .i64 64] 3)).heap[w.heap.size + 1 + 1]? = some (.cells #[.int .i64 64] 3 (0, 0)) := by
    have := blk_new ((w.alloc (.cells #[.slice none 0 0] 24)).alloc (.cells #[.slice (some ad) n c] 22)) (.cells #[.int .i64 64] 3)
    rw [World.size_alloc, World.size_alloc] at this
    exact this
  have hsz : ((((w.alloc (.cells #[.slice none 0 0] 24)).alloc (.cells #[.slice (some ad) n c] 22))).alloc (.cells #[.int .i64 64] 3)).heap.size = w.heap.size + 3 := by simp
  generalize ((((w.alloc (.cells #[.slice none 0 0] 24)).alloc (.cells #[.slice (some ad) n c] 22))).alloc (.cells #[.int .i64 64] 3)) = W0 at hA1 hb0 hb1 hb2 hsz ⊢
  have hmk : ∀ w : World, (Instr.makeSlice 22 (.int .i64 64) (.int .i64 64)).run Try.prog w = .ok (.slice (some ⟨w.heap.size, 0, none⟩) 64 64) (w.alloc (.cells (row8 (zeros 64) []) 5)) := mk8 64 (by omega)
  refine wpIn_rangeFunc_ownG hro h1 (gf := 56) (lb := #[.pointer (some ⟨w.heap.size + 1, 0, none⟩), .pointer (some ⟨w.heap.size + 1 + 1, 0, none⟩)]) rfl h56 (enters_of Try.func56 (by kernel_rfl) rfl)
    (chunk_stops F (N - 1) h56 hro (by omega) (w.heap.size + 1) (w.heap.size + 1 + 1) w.heap.size ad n c hc h0n hn W0 (by rw [cell_blk hb1]; rfl) (by rw [cell_blk hb2]; rfl)) kpC_t (kpC_b (by omega) (by omega) (by omega)) (Below.refl _ _) (fun _ => rfl)
    (fun pre W => (∃ v, W.heap[w.heap.size]? = some (.cells #[v] 24 (0, 0)) ∧ W.heap[w.heap.size + 1]? = some (.cells #[.slice (some ad) n c] 22 (0, 0)) ∧ W.heap[w.heap.size + 1 + 1]? = some (.cells #[.int .i64 64] 3 (0, 0)) ∧ OwnL W (w.heap.size + 3) v (pre.map (chunk xs))) ∧ Below w.heap.size w W)
    (fun _ _ _ => False)
    (OwnFrom.and (Own.from (fun s A B row hs hg hr => by
      obtain ⟨v, h1, h2, h3, h4⟩ := hs
      have far : ∀ {g : Nat} {c : Array Value} {t : TypeId}, A.heap[g]? = some (.cells c t (0, 0)) → B.heap[g]? = some (.cells c t (0, 0)) := by
        intro g c t h
        refine (kept_grown hg).blk h (fun e => ?_)
        obtain ⟨o, ho, hc⟩ := hr _ e
        rw [h] at ho
        cases ho
        cases hc
      exact ⟨v, far h1, far h2, far h3, h4.grow hg hr⟩) _) (ownFrom_below (Nat.le_refl _) (by omega)))
    (fun _ _ _ _ _ hs _ _ => hs)
    ⟨⟨_, hb0, hb1, hb2, OwnL.nil _ _⟩, hA1⟩
    (fun x => { tmps := #[.slice (some ad) n c, undef, .slice none 0 0, .int .i64 0, .pointer (some ⟨w.heap.size, 0, none⟩), chv ad n x, undef, .slice (some ad) n c, .int .i64 n, .bool (decide (2048 < (n : Int))), .slice (some ad) n c, .int .i64 n, .bool false, undef, undef, .slice (some ad) n c, .func (.func 56) #[] #[.pointer (some ⟨w.heap.size + 1, 0, none⟩), .pointer (some ⟨w.heap.size + 1 + 1, 0, none⟩)], chv ad n x, undef, undef, undef, undef, undef, undef, undef, undef, undef], defers := [] }) ?assign ?body ?done ?stop
  case assign =>
    intro l x W K hK
    gi_wp2
    exact hK
  case body =>
    rintro l pre x W ⟨⟨v, hbx, hbs, hbn, hO⟩, hB⟩ hlen
    obtain ⟨va, vc, hv, -⟩ := hO.form
    have hvl : (pre.map (chunk xs)).length = pre.length := by simp
    rw [hvl] at hv
    subst hv
    have hxl := hs.len
    have hs1 := (hs.below hB).below ((Below.refl _ W).alloc (Nat.le_refl _) (.cells (row8 (zeros 64) []) 5))
    obtain ⟨cs, hcs⟩ : ∃ cs, cs = ((xs.drop (64 * x)).take 64).map (Value.int .u8) := ⟨_, rfl⟩
    have hcl : cs.length = Nat.min (min 64 (n - 64 * x)) 64 := by
      show _ = min (min 64 (n - 64 * x)) 64
      rw [hcs, ← hxl]; simp
    have hpos : 0 < cs.length → some (⟨W.heap.size, 0, none⟩ : Addr) = some ⟨W.heap.size, 0, none⟩ ∧ ∃ ad', some (ad.add (64 * x)) = some ad' ∧ ∀ j v, cs[j]? = some v → (W.alloc (.cells (row8 (zeros 64) []) 5)).cell? (ad'.add j) = some v :=
      fun _ => ⟨rfl, _, rfl, fun j v hj => chunk_src hs1 x j v (by rw [← hcs]; exact hj)⟩
    have hb0 : (W.alloc (.cells (row8 (zeros 64) []) 5)).heap[W.heap.size]? = some (.cells ((zeros 64).map (Value.int .u8) ++ []).toArray 5 (0, 0)) := blk_new _ _
    have hbel := (Below.refl W.heap.size W).alloc (Nat.le_refl _) (.cells (row8 (zeros 64) []) 5)
    have hfit : 0 + cs.length ≤ ((zeros 64).map (Value.int .u8) ++ []).length := by rw [hcl]; show 0 + min (min 64 (n - 64 * x)) 64 ≤ _; simp [zeros]; omega
    have hone : ∀ v ∈ cs, v.oneCell' = true := by rw [hcs]; exact one_ints _ _
    have hch := chunk_splice xs x
    rw [← hcs] at hch
    have hnb : nblk n ≤ 64 := by unfold nblk; split <;> omega
    have hlt := blk_lt hbn
    have hx5 : ∀ w5 : World, Below W.heap.size W w5 → w5.heap[w.heap.size]? = some (.cells #[.slice va pre.length vc] 24 (0, 0)) := fun w5 h => Below.blk h hbx (by omega)
    have HCL := Lib.hid hcl
    have HPOS := Lib.hid hpos
    have HBW := Lib.hid hb0
    have HBEL := Lib.hid hbel
    have HFIT := Lib.hid hfit
    have HONE := Lib.hid hone
    have HCH := Lib.hid hch
    have HO := Lib.hid hO
    have HX5 := Lib.hid hx5
    have HVL := Lib.hid hvl
    clear hcl hpos hb0 hbel hfit hone hch hO hx5 hcs hs1 hvl
    unfold chv
    gi_wp2_with (first | ((with_reducible show wpListIn _ _ _ _ _ (Oper.mk (some 21) _ _ _ _ _ :: _) _ _); refine wpListIn_copy_splice rfl (.tmp 19) (.tmp 20) 22 22 rfl 5 Try.underlying22 size_u8 _ _ _ _ _ _ rfl rfl W.heap.size 0 _ 5 HBW.out cs HCL.out HPOS.out HFIT.out HONE.out W.heap.size W HBEL.out (Nat.le_refl _) ?_; intro w5 hb5 hbl5; have HB5 := hb5; have HBL5 := Lib.hid hbl5; have x5 : w5.cell? ⟨w.heap.size, 0, none⟩ = some (.slice va pre.length vc) := (by rw [cell_blk (HX5.out _ hbl5)]; rfl); clear hb5 hbl5) | ((with_reducible show wpListIn _ _ _ _ _ (Oper.mk (some 25) _ _ _ _ _ :: _) _ _); refine wpListIn_appL rfl (.tmp 22) (.tmp 24) rfl (w.heap.size + 3) (.slice va pre.length vc) _ (pre.map (chunk xs)) (chunk xs x) rfl rfl (HO.out.below HBL5.out) ⟨W.heap.size, 64, [], by rw [chunk_len], by omega, by rw [← HCH.out]; exact HB5.out, by rw [chunk_len]; rfl, by unfold maxLen; omega⟩ (by rw [HVL.out]; omega) (by have := HBL5.out.size; omega) ?_; intro v6 w6 ho6 hg6; obtain ⟨sa6, c6, hv6, -⟩ := ho6.form; subst hv6; have y6 := (kept_grown hg6).blk (blk_alloc (HX5.out _ HBL5.out) _) (fun e => by have := (OwnL.lt HO.out _ e).1; omega); have x6 : w6.cell? ⟨w.heap.size, 0, none⟩ = some (.slice va pre.length vc) := (by rw [cell_blk y6]; rfl); have x7 := free_blk y6 0; have Y6 := Lib.hid y6; have HO6 := Lib.hid ho6; have HG6 := Lib.hid hg6; clear ho6 hg6 y6))
    have hne : ∀ j, j < w.heap.size + 3 → ¬ ((Value.slice va pre.length vc).ownBlock = some j) := fun j hj e => by have := (OwnL.lt HO.out _ e).1; omega
    have y1 := (kept_grown HG6.out).blk (blk_alloc (Below.blk HBL5.out hbs (by omega)) _) (hne _ (by omega))
    have y2 := (kept_grown HG6.out).blk (blk_alloc (Below.blk HBL5.out hbn (by omega)) _) (hne _ (by omega))
    have z1 := blk_setCell_ne (b := w.heap.size) (o := 0) y1 (Value.slice sa6 (pre.length + 1) c6) (by omega)
    have z2 := blk_setCell_ne (b := w.heap.size) (o := 0) y2 (Value.slice sa6 (pre.length + 1) c6) (by omega)
    have z0 := blk_setCell (o := 0) Y6.out (Value.slice sa6 (pre.length + 1) c6)
    have ho7 := OwnL.store (u := Value.slice sa6 (pre.length + 1) c6) HO6.out Y6.out
    have hbl : ∀ w0 : World, Below w.heap.size w0 W → Below w.heap.size w0 (w6.setCell ⟨w.heap.size, 0, none⟩ (Value.slice sa6 (pre.length + 1) c6)) := fun w0 h0 =>
      (((h0.trans (HBL5.out.mono (by omega))).alloc (by have := HBL5.out.size; omega) _).grown HG6.out (by simp; have := HBL5.out.size; omega) (fun k e => by have := (OwnL.lt HO.out _ e).1; omega)).setCell (p := ⟨w.heap.size, 0, none⟩) (Nat.le_refl _) _
    refine ⟨(((keeps_below HBL5.out).trans (KeepsOthers.alloc _ _)).trans ((KeepsOthers.of_grownBy HG6.out (fun j o e ho => ((HO.out.below HBL5.out).alloc _).cells j o e ho)).trans (KeepsOthers.setCell _ _ _))).from _, ⟨hbl W (Below.refl _ _), ?_, ?_⟩, ⟨_, z0, z1, z2, ?_⟩, hbl w hB⟩
    · rw [cell_blk z1, cell_blk hbs]
    · rw [cell_blk z2, cell_blk hbn]
    · rw [List.map_append]
      simpa using ho7
  case done =>
    rintro D ys W hD rfl ⟨⟨v, hbx, hbs, hbn, hO⟩, hB⟩ hK
    have x0 : W.cell? ⟨w.heap.size, 0, none⟩ = some v := by rw [cell_blk hbx]; rfl
    gi_wp2
    refine ⟨by simp, .inl ⟨_, _, rfl, run_takeDeferred hK, ?_⟩⟩
    refine ⟨_, results_tmp2 rfl _ _ _, v, rfl, ?_, hB.trans (belowK_b (w := w) (Nat.le_refl _) W D _ _ (by omega) hK rfl rfl)⟩
    have hcl : (List.range (nblk n)).map (chunk xs) = cutL xs := by unfold cutL; rw [hs.len]
    rw [hcl] at hO
    exact (hO.grow (grownBy_putObj' W D _) (fun r e => by cases e; exact ⟨_, hK, rfl⟩)).mono (by omega)
  case stop =>
    rintro D c pre W _ _ h _
    exact h.elim

/-- image.Cut: of at most 2048 bytes. -/
theorem cut_any (sa : Option Addr) (n c : Nat) (xs : List Int) (w : World) (hs : Src w sa n xs) (hc : n ≤ c) (hn : n ≤ 2048) :
    Calls Try.prog 14 #[.slice sa n c] w fun e w' => ∃ v, e = .returned (.tuple #[v, .int .i64 0]) ∧ OwnL w' w.heap.size v (cutL xs) ∧ Below w.heap.size w w' := by
  rcases Nat.eq_zero_or_pos n with h0 | h0
  · subst h0
    have : cutL xs = [zeros 64] := by
      have e : xs = [] := List.eq_nil_of_length_eq_zero hs.len
      subst e
      rfl
    rw [this]
    exact cut_none sa c w
  · obtain ⟨ad, rfl, _⟩ := hs.cell 0 h0
    exact callsIn_wide.1 (cut_in Fence.wide 3 trivial trivial trivial rfl (Nat.le_refl _) ad n c xs w hs hc h0 hn)

end Go.Proofs.Ytdaaigodpglnnaa
