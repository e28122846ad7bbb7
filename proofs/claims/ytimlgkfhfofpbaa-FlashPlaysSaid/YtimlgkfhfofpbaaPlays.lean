/- FlashPlays: the walk: what every row of calls makes of a flash, whenever the power fails, what each answers, and what it costs. No condition. -/
import Derived.Test.YtimlgkfhfofpbaaStp
import Derived.Test.YtimlgkfhfofpbaaOpenAct
import Derived.Deep.RegionWith
namespace Go.Proofs.Ytimlgkfhfofpbaa
open Go.RowKit

/-- A call of both: they answer alike; the costs have grown by at most one. -/
def Stepped (w : World) (p g pr gr : Nat) (s : Fl) (e : Ending) (w' : World) : Prop :=
  e = .returned (.bool true) ∧ ∃ s', Two w' p g pr gr s' ∧ s'.er ≤ s.er + 1 ∧ s'.pr ≤ s.pr + 1 ∧ Kept (In4 p g pr gr) w w'

theorem Fl.erase_cost (s : Fl) (k : Int) : (s.erase k).er ≤ s.er + 1 ∧ (s.erase k).pr = s.pr := by
  unfold Fl.erase
  split
  · refine ⟨?_, Fl.step_pr s⟩
    show (if s.goes then min (s.er + 1) most else s.er) ≤ _
    split <;> omega
  · exact ⟨by omega, rfl⟩
theorem Fl.prog_cost (s : Fl) (a : Int) (xs : List Int) : (s.prog a xs).er = s.er ∧ (s.prog a xs).pr ≤ s.pr + 1 := by
  unfold Fl.prog
  split
  · refine ⟨Fl.step_er s, ?_⟩
    show (if s.goes then min (s.pr + 1) most else s.pr) ≤ _
    split <;> omega
  · exact ⟨rfl, by omega⟩
theorem Fl.poke_cost (s : Fl) (a : Int) (xs : List Int) : (s.poke a xs).er = s.er ∧ (s.poke a xs).pr = s.pr := by
  unfold Fl.poke; split <;> exact ⟨rfl, rfl⟩
theorem Fl.turn_cost (s : Fl) : s.turn.er = s.er ∧ s.turn.pr = s.pr := by
  unfold Fl.turn; split
  · exact ⟨rfl, rfl⟩
  · exact ⟨Fl.step_er s, Fl.step_pr s⟩

theorem step_all (p g pr gr : Nat) (s : Fl) (d : ActD) (w : World) (h2 : Two w p g pr gr s) (hd : Dis p g pr gr) (hk : d.Ok w) (hB : ∀ a, d.sa = some a → d.len = 0 ∨ ¬ In4 p g pr gr a.block) (hl : d.len ≤ 600) (hm1 : s.er < most) (hm2 : s.pr < most) :
    Calls Try.prog 44 #[.pointer (some ⟨p, 0, none⟩), .pointer (some ⟨pr, 0, none⟩), .agg #[.int .i64 d.way, .int .i64 d.n, .int .i64 d.m, .slice d.sa d.len d.cap, .int .i64 d.o, .int .i64 d.c]] w (Stepped w p g pr gr s) := by
  obtain ⟨way, n, m, sa, len, cap, zs, o, c⟩ := d
  obtain ⟨hrow, ho⟩ := hk
  simp only at hrow ho hB hl ⊢
  have hx : len ≤ cap ∧ len ≤ zs.length ∧ (∀ x ∈ zs, 0 ≤ x ∧ x ≤ 255) ∧ ∀ i, i < len → ∃ x, sa = some x ∧ w.cell? (x.add i) = some (.int .u8 (zs.getD i 0)) := by
    rcases hrow with ⟨rfl, rfl, rfl, rfl⟩ | ⟨x, rfl, h1, h2, h3, h4, h5⟩
    · exact ⟨by simp, by simp, by simp, fun i hi => absurd hi (by omega)⟩
    · exact ⟨h1, by omega, fun y hy => wf_u8 (h5 y hy), fun i hi => ⟨x, rfl, h4 i (by omega)⟩⟩
  obtain ⟨hlc, hlz, hxm, hcell⟩ := hx
  have hsrc : Src w sa len (zs.take len) := ⟨by simp; omega, fun i hi => by
    obtain ⟨x, h1, h2⟩ := hcell i hi
    refine ⟨x, h1, ?_⟩
    rw [h2]
    simp [List.getD, hi]⟩
  have hxm' : ∀ x ∈ zs.take len, 0 ≤ x ∧ x ≤ 255 := fun x hx => hxm x (List.mem_of_mem_take hx)
  have hel : else4 sa len p g pr gr := hB
  have fin : ∀ s' e w', s'.er ≤ s.er + 1 → s'.pr ≤ s.pr + 1 → (e = Ending.returned (.bool true) ∧ Two w' p g pr gr s' ∧ Kept (In4 p g pr gr) w w') → Stepped w p g pr gr s e w' := fun s' e w' h1 h2 h => ⟨h.1, s', h.2.1, h1, h2, h.2.2⟩
  by_cases h0 : way = 0
  · subst h0
    have := Fl.erase_cost s n
    exact (step_0 p g pr gr s n m o c sa len cap _ w h2 hd hsrc hxm' hel hlc hl hm1).mono fun e w' => fin _ e w' (by omega) (by omega)
  by_cases h1 : way = 1
  · subst h1
    have := Fl.prog_cost s n (zs.take len)
    exact (step_1 p g pr gr s n m o c sa len cap _ w h2 hd hsrc hxm' hel hlc hl hm2).mono fun e w' => fin _ e w' (by omega) (by omega)
  by_cases h3 : way = 2
  · subst h3
    have := Fl.poke_cost s n (zs.take len)
    exact (step_2 p g pr gr s n m o c sa len cap _ w h2 hd hsrc hxm' hel hlc hl).mono fun e w' => fin _ e w' (by omega) (by omega)
  by_cases h4 : way = 3
  · subst h4
    have := Fl.turn_cost s
    exact (step_3 p g pr gr s n m o c sa len cap _ w h2 hd hsrc hxm' hel hlc hl).mono fun e w' => fin _ e w' (by omega) (by omega)
  by_cases h5 : way = 4
  · subst h5
    exact (step_4 p g pr gr s n m o c sa len cap _ w h2 hd hsrc hxm' hel hlc hl ho).mono fun e w' => fin _ e w' (by show s.er ≤ _; omega) (by show s.pr ≤ _; omega)
  by_cases h6 : way = 5
  · subst h6
    exact (step_5 p g pr gr s n m o c sa len cap _ w h2 hd hsrc hxm' hel hlc hl).mono fun e w' => fin _ e w' (by show s.er ≤ _; omega) (by show s.pr ≤ _; omega)
  exact (step_6 p g pr gr s way n m o c sa len cap _ w h2 hd hsrc hxm' hel hlc hl (by simpa using h0) (by simpa using h1) (by simpa using h3) (by simpa using h4) (by simpa using h5) (by simpa using h6)).mono fun e w' => fin _ e w' (by omega) (by omega)

theorem plays_early (n : Int) (a : Option Addr) (len cap : Nat) (w : World) (h : (8 < n ∧ n < 1048576) ∨ (n ≤ 8 ∧ 80 < len) ∨ (1048576 ≤ n ∧ 80 < len)) :
    Calls Try.prog 12 #[.int .i64 n, .slice a len cap] w fun e w' => e = .returned (.bool true) ∧ Below w.heap.size w w' := by
  rcases h with ⟨h1, h2⟩ | ⟨h1, h2⟩ | ⟨h1, h2⟩
  all_goals
    go_enter Try.func12, Try.ntmps12
    go_wp2_with (go_at_call 29; refine (alive19_any w).mono ?_; rintro e w' ⟨rfl, hb⟩)
    go_ret
    exact ⟨rfl, hb⟩

theorem plays_big (n : Int) (a : Option Addr) (len cap : Nat) (w : World) (h1 : 1048576 ≤ n) (h2 : len ≤ 80) :
    Calls Try.prog 12 #[.int .i64 n, .slice a len cap] w fun e w' => e = .returned (.bool true) ∧ Below w.heap.size w w' := by
  obtain ⟨s0, e0⟩ : ∃ s, s = Fl.new n := ⟨_, rfl⟩
  have hl : ((s0.b.length / 256 : Nat) : Int) = 1024 := by
    rw [e0]
    simp only [Fl.new, List.length_replicate]
    rw [show (min (max 0 n) 1024).toNat = 1024 by omega]
    rfl
  have hnew := fun w => new_any n w
  rw [← e0] at hnew
  have hsz := fun w p g h => size_any p g s0 w h
  rw [hl] at hsz
  have HNEW := Lib.hid hnew
  have HSZ := Lib.hid hsz
  clear hnew hsz hl e0
  go_enter Try.func12, Try.ntmps12
  go_wp2_with (first | (go_at_call 29; refine (alive19_any w).mono ?_; rintro e w1 ⟨rfl, hb⟩) | (go_at_call 14; refine (HNEW.out _).mono ?_; rintro e w2 ⟨p, g, rfl, hf2, hp, hg, hb2⟩) | (go_at_call 43; refine (HSZ.out _ p g hf2).mono ?_; rintro e w3 ⟨rfl, rfl⟩))
  go_ret
  exact ⟨rfl, hb.trans (hb2.mono hb.size)⟩

/-- What holds at the head of every round. -/
structure PlayR (w wr : World) (p g pr gr po go : Nat) (k : Nat) (s so : Fl) : Prop where
  two : Two wr p g pr gr s
  o : IsFl wr po go so
  er : s.er ≤ k
  pr : s.pr ≤ k
  below : Below w.heap.size w wr

theorem IsRf.str {w : World} {p g : Nat} {s : Fl} (_h : IsRf w p g s) (w' : World) (h' : IsRf w' p g s) : (convert 49 9 (.slice (some ⟨g, 0, none⟩) s.b.length s.b.length)).run Try.prog w' = .ok (.string (strOfNums s.b)) w' := by
  have := h'.src 0 s.b.length (by omega)
  simp only [List.drop_zero, List.take_length] at this
  exact src_str this (fun a ha => by cases ha; rfl)
theorem PlayR.drewN {w wr : World} {p g pr gr po go k : Nat} {s so : Fl} (h : PlayR w wr p g pr gr po go k s so) (n : Nat) : PlayR w (wr.drewN n) p g pr gr po go k s so :=
  ⟨h.two.drewN n, h.o.drewN n, h.er, h.pr, Below.drewN h.below n⟩
theorem flt_same : (List.range 81).all (fun n => FloatKind.f64.format.order (flt (n : Int)) (flt (n : Int)) == some .eq) = true := by decide +kernel
theorem flt_eq (n : Int) (h0 : 0 ≤ n) (h1 : n ≤ 80) : (FloatKind.f64.format.order (flt n) (flt n) == some .eq) = true := by
  obtain ⟨k, rfl⟩ := Int.eq_ofNat_of_zero_le h0
  exact List.all_eq_true.1 flt_same k (by simp; omega)

set_option maxRecDepth 100000 in
set_option maxHeartbeats 2000000 in
theorem plays_main (n : Int) (a : Option Addr) (len cap : Nat) (w : World) (h1 : n ≤ 8) (h2 : len ≤ 80) (hact : RowAct w a len cap) :
    Calls Try.prog 12 #[.int .i64 n, .slice a len cap] w fun e w' => e = .returned (.bool true) ∧ Below w.heap.size w w' := by
  obtain ⟨s0, e0⟩ : ∃ s, s = Fl.new n := ⟨_, rfl⟩
  have hnew := fun w => new_any n w
  have hrnew := fun w => rnew_any n w
  have hs0 : s0.er = 0 ∧ s0.pr = 0 := by rw [e0]; exact ⟨rfl, rfl⟩
  rw [← e0] at hnew hrnew
  have HNEW := Lib.hid hnew
  have HRNEW := Lib.hid hrnew
  have HS0 := Lib.hid hs0
  have HACT := Lib.hid hact
  clear hnew hrnew hs0 e0 hact
  go_enter Try.func12, Try.ntmps12
  go_wp2_with (go_at_call 29; refine (alive19_any w).mono ?_; rintro e w1 ⟨rfl, hb1⟩)
  refine (HNEW.out _).mono ?_
  rintro e w2 ⟨p, g, rfl, hf2, hp, hg, hb2⟩
  go_wp2_with fail
  refine (HNEW.out _).mono ?_
  rintro e w3 ⟨po, go, rfl, ho3, hpo, hgo, hb3⟩
  go_wp2_with fail
  refine (HRNEW.out _).mono ?_
  rintro e w4 ⟨pr, gr, rfl, hr4, hpr, hgr, hb4⟩
  have z1 := hb1.size
  have z2 := hb2.size
  have z3 := hb3.size
  have z4 := hb4.size
  have l2 := hf2.lt
  have l3 := ho3.lt
  have hd : Dis p g pr gr := ⟨by omega, by omega, by omega, by omega⟩
  have hB : ∀ i, In4 p g pr gr i → w.heap.size ≤ i := by rintro i (e | e | e | e) <;> omega
  have hO : ¬ In4 p g pr gr po ∧ ¬ In4 p g pr gr go := by constructor <;> (rintro (e | e | e | e) <;> omega)
  have hO2 : w.heap.size ≤ po ∧ w.heap.size ≤ go ∧ po ≠ p ∧ po ≠ g ∧ po ≠ pr ∧ po ≠ gr ∧ go ≠ p ∧ go ≠ g ∧ go ≠ pr ∧ go ≠ gr := by omega
  have hR0 : PlayR w w4 p g pr gr po go 0 s0 s0 := by
    refine ⟨⟨(hf2.below hb3).below hb4, hr4⟩, ho3.below hb4, ?_, ?_, ?_⟩
    · rw [HS0.out.1]; simp
    · rw [HS0.out.2]; simp
    · exact ((hb1.trans (hb2.mono z1)).trans (hb3.mono (by omega))).trans (hb4.mono (by omega))
  have HR0 := Lib.hid hR0
  clear hR0 hf2 ho3 hr4 hb1 hb2 hb3 hb4 l2 l3 hp hg hpo hgo hpr hgr z1 z2 z3 z4
  go_wp2_with fail
  go_loopw [10] (fun i wr => ∃ k : Nat, k ≤ len ∧ i = .int .i64 k ∧ ∃ s so, PlayR w wr p g pr gr po go k s so) (fun i _ => len - (intOf i).toNat)
  case atStart => exact ⟨0, Nat.zero_le _, rfl, s0, s0, HR0.out⟩
  case round =>
    obtain ⟨k, hk, rfl, s, so, hR⟩ := hrel
    by_cases hlt : k < len
    · obtain ⟨b, off, rfl, hlc, d, hcell, hok⟩ := HACT.out.at k hlt
      have y0 : wr.cell? ⟨b, off + k * 6, none⟩ = some (.int .i64 d.way) := below_cell hR.below (hcell 0 _ rfl)
      have y1 := below_cell hR.below (hcell 1 _ rfl)
      have y2 := below_cell hR.below (hcell 2 _ rfl)
      have y3 := below_cell hR.below (hcell 3 _ rfl)
      have y4 := below_cell hR.below (hcell 4 _ rfl)
      have y5 := below_cell hR.below (hcell 5 _ rfl)
      have HR := Lib.hid hR
      have hbl : b < w.heap.size := World.block_lt_of_cell? _ _ (hcell 0 _ rfl)
      clear hR hcell
      by_cases hl6 : d.len ≤ 600
      · have HE := Lib.hid (fun w h => erase_any po go so 0 w h)
        go_wp2_with fail
        refine (HE.out _ HR.out.o).mono ?_
        rintro e w5 ⟨rfl, ho5, hk5, -⟩
        have hb5 : Below w.heap.size w w5 := HR.out.below.trans (hk5.toBelow HR.out.below.size (by rintro i (e | e) <;> omega))
        have ht5 : Two w5 p g pr gr s := ⟨HR.out.two.fl.kept hk5 (by omega) (by omega), HR.out.two.rf.kept hk5 (by omega) (by omega)⟩
        have u0 := hk5.cellX y0 (by rintro (e | e) <;> (simp only at e; omega))
        have u1 := hk5.cellX y1 (by rintro (e | e) <;> (simp only at e; omega))
        have u2 := hk5.cellX y2 (by rintro (e | e) <;> (simp only at e; omega))
        have u3 := hk5.cellX y3 (by rintro (e | e) <;> (simp only at e; omega))
        have u4 := hk5.cellX y4 (by rintro (e | e) <;> (simp only at e; omega))
        have u5 := hk5.cellX y5 (by rintro (e | e) <;> (simp only at e; omega))
        have hdok : d.Ok w5 := hok.below hb5
        have hdB : ∀ a, d.sa = some a → d.len = 0 ∨ ¬ In4 p g pr gr a.block := by
          intro a ha
          rcases hok.lt a ha with h0 | h0
          · exact .inl h0
          · exact .inr fun e => by have := hB _ e; omega
        have e5 := HR.out.er
        have p5 := HR.out.pr
        have e50 := ht5.fl.ok.er0
        have p50 := ht5.fl.ok.pr0
        have HST := Lib.hid (step_all p g pr gr s d w5 ht5 hd hdok hdB hl6 (by simp only [most]; omega) (by simp only [most]; omega))
        have HT5 := Lib.hid ht5
        clear hk5 ht5 y0 y1 y2 y3 y4 y5 hdok hdB hok
        go_wp2_with fail
        refine HST.out.mono ?_
        rintro e w6 ⟨rfl, s', t6, e6, p6, k6⟩
        have c4 := t6.rf.c4
        have g0 := t6.fl.ok.er0
        have g1 := t6.fl.ok.pr0
        have hor : ((FloatKind.f64.format.order (flt s'.er) (flt s'.er) == some .eq) && (FloatKind.f64.format.order (flt s'.pr) (flt s'.pr) == some .eq)) = true := by
          rw [flt_eq _ g0 (by omega), flt_eq _ g1 (by omega)]; rfl
        have HD := Lib.hid (fun w h => dead_any p g s' w h)
        have HT := Lib.hid (fun w h => toll_any p g s' w h)
        have HRT := Lib.hid (fun w h => rtoll_any pr gr s' w h)
        have hR6 : PlayR w w6 p g pr gr po go (k + 1) s' (so.erase 0) :=
          ⟨t6, ho5.kept k6 hO.1 hO.2, by omega, by omega, hb5.trans (k6.toBelow hb5.size hB)⟩
        have HR6 := Lib.hid hR6
        have HT6 := Lib.hid t6
        clear hR6 t6 k6 ho5 hb5 u0 u1 u2 u3 u4 u5 HE
        generalize flt s'.er = fa at hor HT HRT
        generalize flt s'.pr = fb at hor HT HRT
        generalize s'.dead = dd at c4 HD
        go_wp2_with fail
        go_quiet ((first | (go_at_call 37; exact Calls.quiet_of_same ((HD.out _ (HT6.out.fl.drewN _)).mono fun _ _ h => ⟨h.1, h.2.symm⟩)) | (go_at_call 34; exact Calls.quiet_of (HT.out _ (HT6.out.fl.drewN _))) | (go_at_call 45; exact Calls.quiet_of (HRT.out _ (HT6.out.rf.drewN _)))))
        go_wp2_with fail
        go_roundw
        case rel => exact ⟨k + 1, by omega, by go_num, s', _, HR6.out.drewN _⟩
        case measure => simp [intOf]; omega
      · go_wp2_with fail
        go_ret
        exact ⟨rfl, HR.out.below⟩
    · obtain rfl : k = len := by omega
      obtain ⟨wo, rfl⟩ : ∃ wo : World, wo = wr := ⟨_, rfl⟩
      have hq : ((s.b.length / 256 : Nat) : Int) = (s.b.length : Int) / 256 := by omega
      have hsz := fun w h => size_any p g s w h
      rw [hq] at hsz
      have HI := Lib.hid (fun w h => image_any p g s w h)
      have HSZ := Lib.hid hsz
      have hl := hR.two.fl.ok.len
      have HR := Lib.hid hR
      clear hR hq hsz
      go_wp2_with fail
      refine (HI.out _ HR.out.two.fl).mono ?_
      rintro e w5 ⟨v5, rfl, ho5, hb5⟩
      have t5 := HR.out.two.below hb5
      have c0 := t5.rf.c0
      have q1 : ∀ n, (convert 49 9 v5).run Try.prog (w5.drewN n) = .ok (.string (strOfNums s.b)) (w5.drewN n) := fun n => (ho5.drewN n).str
      have q2 : ∀ n, (convert 49 9 (.slice (some ⟨gr, 0, none⟩) s.b.length s.b.length)).run Try.prog (w5.drewN n) = .ok (.string (strOfNums s.b)) (w5.drewN n) := fun n => t5.rf.str (w5.drewN n) (t5.rf.drewN n)
      have HOWN := Lib.hid (Own8.of_owns ho5)
      obtain ⟨gi, capi, spi, rfl, hBi, -, -, -⟩ := ho5
      have HB5 := Lib.hid (HR.out.below.trans (hb5.mono HR.out.below.size))
      have T5 := Lib.hid t5
      have hB5 := HR.out.below.size
      have hlt5 := HR.out.two.lt
      clear t5 hb5
      generalize hstr : strOfNums s.b = S at q1 q2
      have HSTR := Lib.hid hstr
      clear hstr
      go_wp2_with fail
      go_quiet ((go_at_call 43; exact Calls.quiet_of_same ((HSZ.out _ (T5.out.fl.drewN _)).mono fun _ _ h => ⟨h.1, h.2.symm⟩)))
      clear q1 q2 c0
      go_wp2_with fail
      go_loopw [14] (fun i w9 => ∃ j : Nat, j ≤ s.b.length ∧ i = .int .i64 j ∧ (∃ ys : List Int, ys.length = s.b.length ∧ Own8 w9 wo.heap.size (.slice (some ⟨gi, 0, none⟩) s.b.length capi) ys) ∧ Kept (fun k => gi = k) w5 w9) (fun i _ => s.b.length - (intOf i).toNat)
      case atStart => exact ⟨0, Nat.zero_le _, rfl, ⟨s.b, rfl, HOWN.out.drewN _⟩, (Kept.refl _ _).drewN _⟩
      case round =>
        obtain ⟨j, hj, rfl, ⟨ys, hys, hoj⟩, hkj⟩ := hrel
        by_cases hlt9 : j < s.b.length
        · obtain ⟨gb, hgb, y1, y2, y3⟩ := own8_at hoj hys j hlt9
          simp only [Option.some.injEq, Addr.mk.injEq, and_true] at hgb
          subst hgb
          have y4 := Lib.hid y3
          have y5 := Lib.hid hkj
          have y6 := Lib.hid hys
          clear y3 hkj hoj hys
          go_wp2
          go_roundw
          case rel => exact ⟨j + 1, by omega, by go_num, ⟨_, (List.length_set).trans y6.out, y4.out _⟩, y5.out.setCell (p := ⟨gi, j, none⟩) (.inl rfl) _⟩
          case measure => simp [intOf]; omega
        · have tr : Two wr p g pr gr s := ⟨T5.out.fl.kept hkj (by omega) (by omega), T5.out.rf.kept hkj (by omega) (by omega)⟩
          have hbr : Below w.heap.size w wr := HB5.out.trans (hkj.toBelow HB5.out.size (by rintro i rfl; omega))
          have c0 := tr.drew.rf.c0
          have q2 : (convert 49 9 (.slice (some ⟨gr, 0, none⟩) s.b.length s.b.length)).run Try.prog wr.drew = .ok (.string S) wr.drew := by
            rw [← HSTR.out]
            exact tr.drew.rf.str _ tr.drew.rf
          have HTR := Lib.hid tr
          have HBR := Lib.hid hbr
          clear tr hbr hoj hkj hys
          go_wp2_with fail
          go_region_with ((go_at_call 32; refine (HI.out _ HTR.out.drew.fl).mono ?_; rintro e w9 ⟨v9, rfl, ho9, hb9⟩; have t9 := HTR.out.drew.below hb9; have c0' := t9.rf.c0; have q2' : (convert 49 9 (.slice (some ⟨gr, 0, none⟩) s.b.length s.b.length)).run Try.prog w9 = .ok (.string S) w9 := (by rw [← HSTR.out]; exact t9.rf.str _ t9.rf); have q3 : (convert 49 9 v9).run Try.prog w9 = .ok (.string S) w9 := (by rw [← HSTR.out]; exact ho9.str)))
          all_goals
            go_wp2_with fail
            go_ret
            exact ⟨rfl, (Below.drew HBR.out).trans (hb9.mono HBR.out.size)⟩

theorem plays_any (n : Int) (a : Option Addr) (len cap : Nat) (w : World) (hact : RowAct w a len cap) :
    Calls Try.prog 12 #[.int .i64 n, .slice a len cap] w fun e w' => e = .returned (.bool true) ∧ Below w.heap.size w w' := by
  by_cases he : (8 < n ∧ n < 1048576) ∨ (n ≤ 8 ∧ 80 < len) ∨ (1048576 ≤ n ∧ 80 < len)
  · exact plays_early n a len cap w he
  · by_cases hn : n ≤ 8
    · exact plays_main n a len cap w hn (by omega) hact
    · exact plays_big n a len cap w (by omega) (by omega)

end Go.Proofs.Ytimlgkfhfofpbaa
