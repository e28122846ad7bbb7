/- The document's Half: what it answers. Conditions: the flash's bytes lie there; 32 bytes of a secret; the table holds what its text lays. -/
import Derived.Test.YtoljnogpegemjaaDoorRkB
import Derived.Test.YtoljnogpegemjaaDoorRkC
import Derived.Test.YtoljnogpegemjaaDoorB1
import Derived.Test.YtoljnogpegemjaaDoorRfA
namespace Go.Proofs.YtoljnogpegemjaaDoor.Bk
open Go.RowKit Wr Sl Sm
set_option linter.unusedSimpArgs false
set_option linter.unusedVariables false

/-- Block p is the document's flash, as far as a half asks: its bytes, at the head of block g, and whether it is dead. -/
structure IsHf (w : World) (p g L c : Nat) (b : List Int) (dead : Bool) : Prop where
  c0 : w.cell? ⟨p, 0, none⟩ = some (.slice (some ⟨g, 0, none⟩) L c)
  c4 : w.cell? ⟨p, 4, none⟩ = some (.bool dead)
  src : Src w (some ⟨g, 0, none⟩) L b
  cap : L ≤ c
theorem IsHf.below {w w' : World} {p g L c : Nat} {b : List Int} {dead : Bool} (h : IsHf w p g L c b dead) (k : Below w.heap.size w w') : IsHf w' p g L c b dead := ⟨below_cell k h.c0, below_cell k h.c4, h.src.below k, h.cap⟩
theorem IsRf.half {w : World} {p g : Nat} {s : Fl} (h : IsRf w p g s) : IsHf w p g s.b.length s.b.length s.b s.dead := by
  obtain ⟨sp, hs⟩ := h.row
  exact ⟨h.c0, h.c4, src_row hs (by rw [Nat.mul_one]; simp [row8]) rfl, Nat.le_refl _⟩
theorem wpList_sl {P : Program} {ops : Array Oper} {rest : List Oper} {o : Oper} {a : Act} {w : World} {Q : Exit → Act → World → Prop} (hg : o.guard = none) (t : TypeId) (x lo hi : Operand) (ho : o.op = .slice t x (some lo) (some hi) none) (v : Value)
    (hrun : (Instr.sliceAt t (a.eval x) (some (a.eval lo)) (some (a.eval hi)) none).run P w = .ok v w) (h : wpList P ops Q rest (a.put o.dst v) w) : wpList P ops Q (o :: rest) a w := by
  unfold wpList
  rw [if_pos (by simp [Region.wanted, hg])]
  left
  unfold Oper.wp execOp
  simp only [ho, Option.map_some, Option.map_none, Sem.run_bind, hrun, Result.andThen_ok]
  exact h
/-- What stands in a half is told by its first 4148 bytes. -/
theorem intV_cut (B : List Int) (m : Nat) (hB : 4148 ≤ B.length) (hm : m + 8 ≤ 4148) : intV (B.drop m) false = intV ((B.take 4148).drop m) false := by
  have e : ∀ X : List Int, m + 8 ≤ X.length → rawV (X.drop m) false 8 = (X.drop m).take 8 := by
    intro X hX
    have : rawOk (X.drop m) false 8 = true := rawOk_iff.2 ⟨rfl, by omega, by simp; omega⟩
    rw [rawV, if_pos this]
    rfl
  rw [intV, intV, e B (by omega), e (B.take 4148) (by rw [List.length_take]; omega), List.drop_take, List.take_take, Nat.min_eq_left (by omega)]
theorem hn_cut (B : List Int) (hB : 4148 ≤ B.length) : hn B = hn (B.take 4148) := intV_cut B 4 hB (by decide)
theorem hz_cut (B : List Int) (hB : 4148 ≤ B.length) : hz B = hz (B.take 4148) := intV_cut B 12 hB (by decide)
theorem hin_cut (B : List Int) (hB : 4148 ≤ B.length) : hin B = hin (B.take 4148) := by rw [hin, hin, hn_cut B hB, hz_cut B hB]
theorem hx_cut (B : List Int) (hB : 4148 ≤ B.length) (h : hin B = true) : hx B = hx (B.take 4148) := by
  obtain ⟨_, h2, h3⟩ := hin_iff.1 h
  rw [hx, hx, ← hz_cut B hB, List.drop_take, List.take_take, Nat.min_eq_left (by omega)]
theorem hok_cut (s B : List Int) (hB : 4148 ≤ B.length) : hok s B = hok s (B.take 4148) := by
  cases h : hin B with
  | false => rw [hok, hok, ← hin_cut B hB, h, Bool.false_and, Bool.false_and]
  | true =>
    obtain ⟨_, h2, h3⟩ := hin_iff.1 h
    rw [hok, hok, ← hin_cut B hB, ← hn_cut B hB, ← hx_cut B hB h, ← hz_cut B hB, List.take_take, Nat.min_eq_left (by omega)]
/-- What is held while a half is read. -/
structure DhR (w u : World) (s : List Int) (g off c : Nat) (b : List Int) (k pc : Nat) : Prop where
  i : u.heap[w.heap.size]? = some (.cells (arr .u8 s) 23 (0, 0))
  c : IsDc u pc g off c b k false
  n : w.heap.size < pc
  below : Below w.heap.size w u
theorem DhR.turn {w u u' : World} {s : List Int} {g off c : Nat} {b : List Int} {k k' pc : Nat} (h : DhR w u s g off c b k pc) (kk : Kept (· = pc) u u') (hc : IsDc u' pc g off c b k' false) : DhR w u' s g off c b k' pc :=
  ⟨kk.blk h.i (by have := h.n; omega), hc, h.n, h.below.trans (kk.toBelow h.below.size (by rintro i rfl; exact Nat.le_of_lt h.n))⟩
theorem DhR.fresh {w u u' : World} {s : List Int} {g off c : Nat} {b : List Int} {k pc : Nat} (h : DhR w u s g off c b k pc) (kk : Below u.heap.size u u') : DhR w u' s g off c b k pc :=
  ⟨Below.blk kk h.i (blk_lt h.i), h.c.below kk, h.n, h.below.trans (kk.mono h.below.size)⟩

set_option maxRecDepth 100000 in
set_option maxHeartbeats 2000000 in
theorem dhalf_off (p g L c : Nat) (b : List Int) (dead : Bool) (s : List Int) (k : Int) (w : World) (h : IsHf w p g L c b dead) (ho : dead = true ∨ (dead = false ∧ L < 16384)) :
    Calls Tryd.prog 28 #[.pointer (some ⟨p, 0, none⟩), .agg (arr .u8 s), .int .i64 k] w fun e w' => e = .returned (.tuple #[.int .i64 0, .slice none 0 0, .bool false]) ∧ Below w.heap.size w w' := by
  have hb : Below w.heap.size w (w.alloc (.cells (arr .u8 s) 23)) := (Below.refl _ w).alloc (Nat.le_refl _) _
  obtain ⟨c0, c4, -, -⟩ := h.below hb
  have HB := Lib.hid hb
  clear h hb
  rcases ho with rfl | ⟨rfl, h2⟩
  all_goals
    go_enter Tryd.func28, Tryd.ntmps28
    go_upto_region 1 with fail
    generalize w.alloc (.cells (arr .u8 s) 23) = w0 at HB c0 c4 ⊢
    go_wp2
    go_ret3
    exact ⟨rfl, HB.out⟩

set_option maxRecDepth 100000 in
set_option maxHeartbeats 4000000 in
theorem dhalf_on (p g L c : Nat) (b s : List Int) (k : Nat) (w : World) (h : IsHf w p g L c b false) (hL : 16384 ≤ L) (hk : k = 0 ∨ k = 1) (hsl : s.length = 32) (hsb : bytes s) (hbb : bytes b) (hT : Ha.TabK w) (B : List Int) (hB : B = (b.drop (8192 * k)).take 4148) :
    Calls Tryd.prog 28 #[.pointer (some ⟨p, 0, none⟩), .agg (arr .u8 s), .int .i64 k] w fun e w' =>
      (∃ v, e = .returned (.tuple #[.int .i64 (sel (hok s B) (hn B) 0), v, .bool (hok s B)]) ∧ Own8 w' w.heap.size v (sel (hok s B) (hx B) [])) ∧ Below w.heap.size w w' := by
  have hbl := h.src.len
  obtain ⟨b8, hb8⟩ : ∃ x, x = (b.drop (8192 * k)).take 8192 := ⟨_, rfl⟩
  have hl8 : b8.length = 8192 := by rw [hb8, List.length_take, List.length_drop]; omega
  have e8 : B = b8.take 4148 := by rw [hB, hb8, List.take_take, Nat.min_eq_left (by decide)]
  have hb8b : bytes b8 := by rw [hb8]; exact fun x hx => hbb x (List.mem_of_mem_drop (List.mem_of_mem_take hx))
  rw [show hok s B = hok s b8 by rw [e8, hok_cut s b8 (by omega)], show hn B = hn b8 by rw [e8, hn_cut b8 (by omega)]]
  have hxe : sel (hok s b8) (hx B) [] = sel (hok s b8) (hx b8) [] := by
    cases ho : hok s b8 with
    | false => rfl
    | true =>
      have : hin b8 = true := by unfold hok at ho; simp only [Bool.and_eq_true] at ho; exact ho.1
      rw [e8, hx_cut b8 (by omega) this]
  rw [hxe]
  clear hxe hB e8
  have hb0 : Below w.heap.size w (w.alloc (.cells (arr .u8 s) 23)) := (Below.refl _ w).alloc (Nat.le_refl _) _
  have H0 := h.below hb0
  have hsr : Src (w.alloc (.cells (arr .u8 s) 23)) (some ⟨g, 8192 * k, none⟩) 8192 b8 := by
    have := H0.src.part (8192 * k) 8192 (by omega)
    rw [← hb8] at this
    have e : (⟨g, 0, none⟩ : Addr).add (8192 * k) = ⟨g, 8192 * k, none⟩ := by unfold Addr.add; split <;> simp_all
    rwa [e] at this
  have hcap := h.cap
  have hlt : g < w.heap.size := by
    obtain ⟨a, e, hc⟩ := h.src.cell 0 (by omega)
    cases e
    unfold World.cell? at hc
    rcases Nat.lt_or_ge g w.heap.size with h1 | h1
    · exact h1
    · rw [show ((⟨g, 0, none⟩ : Addr).add 0).block = g from rfl, Array.getElem?_eq_none h1] at hc
      cases hc
  -- the slice
  have hsl8 : ∀ u, (Instr.sliceAt 24 (.slice (some ⟨g, 0, none⟩) L c) (some (.int .i64 ((8192 * k : Nat) : Int))) (some (.int .i64 ((8192 * k + 8192 : Nat) : Int))) none).run Tryd.prog u = .ok (.slice (some ⟨g, 8192 * k, none⟩) 8192 (c - 8192 * k)) u := by
    intro u
    have h1 : ¬ ((8192 * k + 8192 : Nat) : Int) < ((8192 * k : Nat) : Int) := by omega
    have h2 : ¬ ((8192 * k : Nat) : Int) < 0 := by omega
    have h3 : ¬ (c : Int) < ((8192 * k + 8192 : Nat) : Int) := by omega
    have h4 : ¬ ((8192 * k + 8192 : Nat) : Int) < 0 := by omega
    have e2 : ((c : Int) - ((8192 * k : Nat) : Int)).toNat = c - 8192 * k := by omega
    have e3 : ¬ c = 8192 * k := by omega
    rcases hk with rfl | rfl
    · go_simp
      intro h
      exfalso
      omega
    · go_simp
      intro h
      exfalso
      omega
  have hwl : w.heap.size < (w.alloc (.cells (arr .u8 s) 23)).heap.size := by simp
  have hr4 : ∀ u pc, DhR w u s g (8192 * k) (c - 8192 * k) b8 0 pc → Calls Tryd.prog 79 #[.pointer (some ⟨pc, 0, none⟩), .int .i64 4] u fun e w' => ∃ v, e = .returned v ∧ DhR w w' s g (8192 * k) (c - 8192 * k) b8 4 pc := by
    intro u pc hu
    refine (draw_any pc g (8192 * k) (c - 8192 * k) b8 0 false 4 u hu.c (by omega)).mono ?_
    rintro e w' ⟨v, rfl, -, hc, hkk⟩
    have hro : rawOk (b8.drop 0) false 4 = true := rawOk_iff.2 ⟨rfl, by omega, by rw [List.drop_zero]; omega⟩
    have hrl : (rawV (b8.drop 0) false 4).length = 4 := by rw [rawV, if_pos hro, List.drop_zero, List.length_take, show (4 : Int).toNat = 4 from rfl]; omega
    rw [hro, hrl] at hc
    exact ⟨v, rfl, hu.turn hkk hc⟩
  have hi : ∀ (m : Nat), m + 8 ≤ 8192 → ∀ u pc, DhR w u s g (8192 * k) (c - 8192 * k) b8 m pc → Calls Tryd.prog 80 #[.pointer (some ⟨pc, 0, none⟩)] u fun e w' => e = .returned (.int .i64 (intV (b8.drop m) false)) ∧ DhR w w' s g (8192 * k) (c - 8192 * k) b8 (m + 8) pc := by
    intro m hm u pc hu
    refine (dint_any pc g (8192 * k) (c - 8192 * k) b8 m false u hu.c (by omega) hb8b).mono ?_
    rintro e w' ⟨rfl, hc, hkk⟩
    have hro : rawOk (b8.drop m) false 8 = true := rawOk_iff.2 ⟨rfl, by omega, by rw [List.length_drop]; omega⟩
    have hrl : (rawV (b8.drop m) false 8).length = 8 := by rw [rawV, if_pos hro, List.length_take, List.length_drop, show (8 : Int).toNat = 8 from rfl]; omega
    rw [hro, hrl] at hc
    exact ⟨rfl, hu.turn hkk hc⟩
  have hi1 := hi 4 (by decide)
  have hi2 := hi 12 (by decide)
  rw [show intV (b8.drop 4) false = hn b8 from rfl] at hi1
  rw [show intV (b8.drop 12) false = Bk.hz b8 from rfl] at hi2
  have hd0 : ∀ u, Below (w.alloc (.cells (arr .u8 s) 23)).heap.size (w.alloc (.cells (arr .u8 s) 23)) u → ∀ X : World, X = u.alloc (.cells #[.slice (some ⟨g, 8192 * k, none⟩) 8192 (c - 8192 * k), .int .i64 0, .bool false] 130) → DhR w X s g (8192 * k) (c - 8192 * k) b8 0 u.heap.size := by
    rintro u hu X rfl
    have hux : Below u.heap.size u (u.alloc (.cells #[.slice (some ⟨g, 8192 * k, none⟩) 8192 (c - 8192 * k), .int .i64 0, .bool false] 130)) := (Below.refl _ u).alloc (Nat.le_refl _) _
    have hz := hu.size
    simp only [World.size_alloc] at hz
    refine ⟨Below.blk hux (Below.blk hu (blk_new w _) (by simp)) (by omega), ⟨?_, ?_, by omega, by omega, by omega⟩, by omega, hb0.trans ((hu.mono (by simp)).trans (hux.mono (by omega)))⟩
    · rw [blk_new, hl8]; rfl
    · rw [hl8]; exact (hsr.below hu).below hux
  have HR4 := Lib.hid hr4
  have HI1 := Lib.hid hi1
  have HI2 := Lib.hid hi2
  have HD0 := Lib.hid hd0
  have HSL := Lib.hid hsl8
  have HSLN := Lib.hid hsl
  have HTK := Lib.hid hT
  have HB0 := Lib.hid hb0
  have HL8 := Lib.hid hl8
  have HB8 := Lib.hid hb8b
  have c0 := H0.c0
  have c4 := H0.c4
  have hLc : ¬ (L : Int) < 16384 := by omega
  have HCAP : Hid (8192 ≤ c - 8192 * k) := Lib.hid (by rcases hk with rfl | rfl <;> omega)
  clear hr4 hi hi1 hi2 hd0 hsl8 hsl hT hb0 hwl hsr hcap hlt H0 h hbl hb8 hL hbb
  cases hin0 : hin b8 with
  | false =>
    have ho : hok s b8 = false := by rw [hok, hin0]; rfl
    rw [ho]
    have h3 := hin_not.1 hin0
    clear ho hin0
    generalize hn b8 = nn at HI1 h3 ⊢
    generalize Bk.hz b8 = zz at HI2 h3
    generalize hx b8 = xx
    rcases h3 with h3 | ⟨h3, h4⟩ | ⟨h3, h4, h5⟩
    all_goals
      go_enter Tryd.func28, Tryd.ntmps28
      go_upto_region 1 with fail
      have HZ0 := Lib.hid (Below.refl (w.alloc (.cells (arr .u8 s) 23)).heap.size (w.alloc (.cells (arr .u8 s) 23)))
      generalize w.alloc (.cells (arr .u8 s) 23) = w1 at HD0 HB0 HZ0 c0 c4 ⊢
      go_upto_region 3 with fail
      go_upto_region 4 with ((with_reducible show wpList _ _ _ (Oper.mk (some 36) _ _ _ _ _ :: _) _ _); refine wpList_sl rfl _ _ _ _ rfl _ (HSL.out _) ?_)
      clear c0 c4
      go_upto_region 5 with fail
      have hr := HD0.out _ HZ0.out _ rfl
      have HR0 := Lib.hid hr
      clear hr
      have HPC : Hid (w.heap.size ≤ w1.heap.size) := Lib.hid HB0.out.size
      generalize w1.alloc (.cells #[.slice (some ⟨g, _, none⟩) 8192 _, .int .i64 0, .bool false] 130) = w2 at HR0 ⊢
      generalize w1.heap.size = pc at HR0 HPC ⊢
      clear HD0 HZ0
      go_upto_region 6 with (go_at_call 79; refine (HR4.out _ _ HR0.out).mono ?_; rintro e w4 ⟨v4, rfl, hr4⟩; have HR5 := Lib.hid hr4; clear hr4)
      clear HR0 HR4
      go_upto_region 7 with (go_at_call 80; refine (HI1.out _ _ HR5.out).mono ?_; rintro e w5 ⟨rfl, hr5⟩; have HR6 := Lib.hid hr5; clear hr5)
      clear HR5 HI1
      go_upto_region 8 with (go_at_call 80; refine (HI2.out _ _ HR6.out).mono ?_; rintro e w6 ⟨rfl, hr6⟩; have HR7 := Lib.hid hr6; clear hr6)
      clear HR6 HI2
      go_wp2_with fail
      go_ret3
      exact ⟨⟨_, rfl, Own8.nil _ _⟩, HR7.out.below⟩
  | true =>
    obtain ⟨h1, h2, h3⟩ := hin_iff.1 hin0
    obtain ⟨m, hm⟩ := Int.eq_ofNat_of_zero_le h2
    have hm4 : m ≤ 4096 := by omega
    have hn1 : hn b8 ≤ 9223372036854775807 := by
      have : hn b8 = wrap64 _ := rfl
      rw [this]
      unfold wrap64
      omega
    have hxl : (hx b8).length = m := by rw [hx, hm]; simp [HL8.out]; omega
    have hxb : bytes (hx b8) := fun y hy => HB8.out y (List.mem_of_mem_drop (List.mem_of_mem_take hy))
    have hrs : ∀ u pc, DhR w u s g (8192 * k) (c - 8192 * k) b8 20 pc → Calls Tryd.prog 79 #[.pointer (some ⟨pc, 0, none⟩), .int .i64 m] u fun e w' => ∃ sx cx, e = .returned (.slice sx m cx) ∧ Own8 w' w.heap.size (.slice sx m cx) (hx b8) ∧ DhR w w' s g (8192 * k) (c - 8192 * k) b8 (20 + m) pc := by
      intro u pc hu
      refine (draw_any pc g (8192 * k) (c - 8192 * k) b8 20 false m u hu.c (by have := HL8.out; omega)).mono ?_
      rintro e w' ⟨v, rfl, ho, hc, hkk⟩
      have hro : rawOk (b8.drop 20) false (m : Int) = true := rawOk_iff.2 ⟨rfl, by omega, by rw [List.length_drop]; have := HL8.out; omega⟩
      have hrv : rawV (b8.drop 20) false (m : Int) = hx b8 := by rw [rawV, if_pos hro, hx, hm]
      rw [hrv] at ho hc
      rw [hro, hxl] at hc
      obtain ⟨sx, cx, rfl, -⟩ := ho.form
      rw [hxl] at ho ⊢
      exact ⟨sx, cx, rfl, ho.mono hu.below.size, hu.turn hkk hc⟩
    have hrc : ∀ u sx cx, Src u sx m (hx b8) → Ha.TabK u → Calls Tryd.prog 23 #[.agg (arr .u8 s), .int .i64 (hn b8), .slice sx m cx] u fun e w' => ∃ sr cr, e = .returned (.slice sr (52 + m) cr) ∧ Own8 w' u.heap.size (.slice sr (52 + m) cr) (recd s (hn b8) (hx b8)) ∧ Below u.heap.size u w' := by
      intro u sx cx hu hT
      refine (drec_any s (hn b8) sx m cx (hx b8) u HSLN.out hsb ⟨by omega, hn1⟩ (by omega) hu hxb hT).mono ?_
      rintro e w' ⟨v, rfl, ho, hbw⟩
      obtain ⟨sr, cr, rfl, -⟩ := ho.form
      rw [recd_len, hxl] at ho ⊢
      exact ⟨sr, cr, rfl, ho, hbw⟩
    have hq : ((strOfNums (recd s (hn b8) (hx b8))).toList == (strOfNums (b8.take (52 + m))).toList) = hok s b8 := by
      rw [str_eq _ _ (recd_bytes _ _ _ hxb) (fun y hy => HB8.out y (List.mem_of_mem_take hy)), hok, hin0, hm]
      rfl
    have hcv : ∀ (u : World) pc k', DhR w u s g (8192 * k) (c - 8192 * k) b8 k' pc → Src u (some ⟨g, 8192 * k, none⟩) (52 + m) (b8.take (52 + m)) := by
      intro u pc k' hu
      have := hu.c.src
      rw [HL8.out] at this
      exact this.take (52 + m) (by omega)
    have HRS := Lib.hid hrs
    have HRC := Lib.hid hrc
    have HCV := Lib.hid hcv
    have HRL : Hid (recd s (hn b8) (hx b8) = recd s (hn b8) (hx b8)) := Lib.hid rfl
    rw [hm] at HI2
    clear hrs hrc hcv h2 h3 hm hxl hxb hin0 hn1 hsb
    obtain ⟨SB, hSB⟩ : ∃ S, S = strOfNums (b8.take (52 + m)) := ⟨_, rfl⟩
    rw [← hSB] at hq
    have HSB := Lib.hid hSB
    clear hSB HRL
    generalize hok s b8 = ok at hq ⊢
    generalize recd s (hn b8) (hx b8) = rc at HRC hq
    generalize hn b8 = nn at HI1 h1 HRC ⊢
    generalize hx b8 = xx at HRS HRC ⊢
    obtain ⟨SR, hSR⟩ : ∃ S, S = strOfNums rc := ⟨_, rfl⟩
    rw [← hSR] at hq
    have HSR := Lib.hid hSR
    clear hSR
    go_enter Tryd.func28, Tryd.ntmps28
    go_upto_region 1 with fail
    have HZ0 := Lib.hid (Below.refl (w.alloc (.cells (arr .u8 s) 23)).heap.size (w.alloc (.cells (arr .u8 s) 23)))
    generalize w.alloc (.cells (arr .u8 s) 23) = w1 at HD0 HB0 HZ0 c0 c4 ⊢
    go_upto_region 3 with fail
    go_upto_region 4 with ((with_reducible show wpList _ _ _ (Oper.mk (some 36) _ _ _ _ _ :: _) _ _); refine wpList_sl rfl _ _ _ _ rfl _ (HSL.out _) ?_)
    clear c0 c4
    go_upto_region 5 with fail
    have hr := HD0.out _ HZ0.out _ rfl
    have HR0 := Lib.hid hr
    clear hr
    have HPC : Hid (w.heap.size ≤ w1.heap.size) := Lib.hid HB0.out.size
    generalize w1.alloc (.cells #[.slice (some ⟨g, _, none⟩) 8192 _, .int .i64 0, .bool false] 130) = w2 at HR0 ⊢
    generalize w1.heap.size = pc at HR0 HPC ⊢
    clear HD0 HZ0
    go_upto_region 6 with (go_at_call 79; refine (HR4.out _ _ HR0.out).mono ?_; rintro e w4 ⟨v4, rfl, hr4⟩; have HR5 := Lib.hid hr4; clear hr4)
    clear HR0 HR4
    go_upto_region 7 with (go_at_call 80; refine (HI1.out _ _ HR5.out).mono ?_; rintro e w5 ⟨rfl, hr5⟩; have HR6 := Lib.hid hr5; clear hr5)
    clear HR5 HI1
    go_upto_region 8 with (go_at_call 80; refine (HI2.out _ _ HR6.out).mono ?_; rintro e w6 ⟨rfl, hr6⟩; have HR7 := Lib.hid hr6; clear hr6)
    clear HR6 HI2
    go_upto_region 10 with fail
    go_upto_region 11 with (go_at_call 79; refine (HRS.out _ _ HR7.out).mono ?_; rintro e w8 ⟨sx, cx, rfl, ho8, hr8⟩; have HR8 := Lib.hid hr8; have HO8 := Lib.hid ho8; clear ho8 hr8)
    clear HR7 HRS
    go_upto_region 12 with (first | ((with_reducible show wpList _ _ _ (Oper.mk (some 59) _ _ _ _ _ :: _) _ _); refine wpList_load_part rfl 23 _ rfl (w.heap.size) 0 _ 23 (0, 0) _ HR8.out.i rfl .u8 s (arr_part _ _) Tryd.underlying23 rfl (num_i HSLN.out) ?_) | (go_at_call 23; refine (HRC.out _ _ _ (own8_src HO8.out).1 (ktab_below HTK.out HR8.out.below)).mono ?_; rintro e w9 ⟨sr, cr, rfl, ho9, hb9⟩; have HO9 := Lib.hid ho9; have HR9 := Lib.hid (HR8.out.fresh hb9); have HX9 := Lib.hid (HO8.out.below hb9); clear ho9 hb9))
    clear HR8 HO8 HRC
    have hh1 : ¬ ((c - 8192 * k : Nat) : Int) < 52 + (m : Int) := (by have := HCAP.out; omega)
    have hh2 : ((52 + m : Nat) : Int) = 52 + (m : Int) := (by omega)
    have hh3 : (52 + (m : Int)).toNat = 52 + m := (by omega)
    have hh4 : ¬ (52 + (m : Int)) < 0 := (by omega)
    have HK0 := Lib.hid ((Kept.refl (fun _ => False) w9).drew)
    refine wp_region_held_drew (S := (fun w' => Kept (fun _ => False) w9 w')) (by kernel_rfl) (HK0.out) (fun hHeld => ?_)
    refine wpAnyH_take (i := 0) (oi := ({ dst := some 63, op := Op.move (Operand.tmp 14), type := 24, pos := "device.go:35", after := #[], guard := none } : Oper)) (v := .slice sr (52 + m) cr) rfl (by kernel_rfl) (by kernel_rfl) (by kernel_rfl) (fun _ _ _ h => h) (Or.inl ⟨by rfl, ?hy8001⟩) (by assumption) ?rest8001
    case hy8001 => (intro w hSw; (try dsimp only at hSw); go_simp; try (with_reducible rfl))
    (try simp only [World.size_alloc, Act.put, List.setIfInBounds_toArray, List.set_cons_zero, List.set_cons_succ])
    refine wpAnyH_take (i := 1) (oi := ({ dst := some 64, op := Op.convert 24 9 (Operand.tmp 63), type := 9, pos := "device.go:35", after := #[{ on := 0, ground := Ground.data }], guard := none } : Oper)) (v := .string SR) rfl (by kernel_rfl) (by kernel_rfl) (by kernel_rfl) (fun _ _ _ h => h) (Or.inl ⟨by rfl, ?hy8002⟩) (by assumption) ?rest8002
    case hy8002 => (intro w hSw; (try dsimp only at hSw); exact conv_nextk (by rw [HSR.out]; exact (HO9.out.kept hSw (fun _ _ e => e)).str))
    (try simp only [World.size_alloc, Act.put, List.setIfInBounds_toArray, List.set_cons_zero, List.set_cons_succ])
    refine wpAnyH_take (i := 2) (oi := ({ dst := some 65, op := Op.move (Operand.tmp 9), type := 24, pos := "device.go:35", after := #[], guard := none } : Oper)) (v := .slice (some ⟨g, 8192 * k, none⟩) 8192 (c - 8192 * k)) rfl (by kernel_rfl) (by kernel_rfl) (by kernel_rfl) (fun _ _ _ h => h) (Or.inl ⟨by rfl, ?hy8003⟩) (by assumption) ?rest8003
    case hy8003 => (intro w hSw; (try dsimp only at hSw); go_simp; try (with_reducible rfl))
    (try simp only [World.size_alloc, Act.put, List.setIfInBounds_toArray, List.set_cons_zero, List.set_cons_succ])
    refine wpAnyH_take (i := 3) (oi := ({ dst := some 66, op := Op.move (Operand.tmp 14), type := 24, pos := "device.go:35", after := #[], guard := none } : Oper)) (v := .slice sr (52 + m) cr) rfl (by kernel_rfl) (by kernel_rfl) (by kernel_rfl) (fun _ _ _ h => h) (Or.inl ⟨by rfl, ?hy8004⟩) (by assumption) ?rest8004
    case hy8004 => (intro w hSw; (try dsimp only at hSw); go_simp; try (with_reducible rfl))
    (try simp only [World.size_alloc, Act.put, List.setIfInBounds_toArray, List.set_cons_zero, List.set_cons_succ])
    refine wpAnyH_take (i := 4) (oi := ({ dst := some 67, op := Op.call { callee := Callee.builtin Builtin.len, args := #[Operand.tmp 66], argTypes := #[24] }, type := 3, pos := "device.go:35", after := #[{ on := 3, ground := Ground.data }], guard := none } : Oper)) (v := .int .i64 ((52 + m : Nat) : Int)) rfl (by kernel_rfl) (by kernel_rfl) (by kernel_rfl) (fun _ _ _ h => h) (Or.inl ⟨by rfl, ?hy8005⟩) (by assumption) ?rest8005
    case hy8005 => (intro w hSw; (try dsimp only at hSw); go_simp; try (with_reducible rfl))
    (try simp only [World.size_alloc, Act.put, List.setIfInBounds_toArray, List.set_cons_zero, List.set_cons_succ])
    refine wpAnyH_take (i := 5) (oi := ({ dst := some 68, op := Op.slice 24 (Operand.tmp 65) none (some (Operand.tmp 67)) none, type := 24, pos := "device.go:35", after := #[{ on := 2, ground := Ground.data }, { on := 4, ground := Ground.data }], guard := none } : Oper)) (v := .slice (some ⟨g, 8192 * k, none⟩) (52 + m) (c - 8192 * k)) rfl (by kernel_rfl) (by kernel_rfl) (by kernel_rfl) (fun _ _ _ h => h) (Or.inl ⟨by rfl, ?hy8006⟩) (by assumption) ?rest8006
    case hy8006 => (intro w hSw; (try dsimp only at hSw); go_simp; try (with_reducible rfl))
    (try simp only [World.size_alloc, Act.put, List.setIfInBounds_toArray, List.set_cons_zero, List.set_cons_succ])
    refine wpAnyH_take (i := 6) (oi := ({ dst := some 69, op := Op.convert 24 9 (Operand.tmp 68), type := 9, pos := "device.go:35", after := #[{ on := 5, ground := Ground.data }], guard := none } : Oper)) (v := .string SB) rfl (by kernel_rfl) (by kernel_rfl) (by kernel_rfl) (fun _ _ _ h => h) (Or.inl ⟨by rfl, ?hy8007⟩) (by assumption) ?rest8007
    case hy8007 => (intro w hSw; (try dsimp only at hSw); exact conv_nextk (by rw [HSB.out]; exact src_string ((HCV.out _ _ _ HR9.out).kept hSw (fun _ _ => .inr id))))
    (try simp only [World.size_alloc, Act.put, List.setIfInBounds_toArray, List.set_cons_zero, List.set_cons_succ])
    refine wpAnyH_take (i := 7) (oi := ({ dst := some 70, op := Op.binOp BinOp.neq 9 (Operand.tmp 64) (Operand.tmp 69) 9, type := 4, pos := "device.go:35", after := #[{ on := 1, ground := Ground.data }, { on := 6, ground := Ground.data }], guard := none } : Oper)) (v := .bool (!ok)) rfl (by kernel_rfl) (by kernel_rfl) (by kernel_rfl) (fun _ _ _ h => h) (Or.inl ⟨by rfl, ?hy8008⟩) (by assumption) ?rest8008
    case hy8008 => (intro w hSw; (try dsimp only at hSw); go_simp; try (first | (with_reducible rfl) | rw [hq]))
    (try simp only [World.size_alloc, Act.put, List.setIfInBounds_toArray, List.set_cons_zero, List.set_cons_succ])
    refine wpAnyH_done (by kernel_rfl) ?_ _
    (try simp only [Exit.then])
    clear hHeld
    cases ok with
    | true =>
      go_wp2_with fail
      go_ret3
      exact ⟨⟨_, rfl, (HX9.out).drewN 1⟩, Below.drewN HR9.out.below 1⟩
    | false =>
      go_wp2_with fail
      go_ret3
      exact ⟨⟨_, rfl, Own8.nil _ _⟩, Below.drewN HR9.out.below 1⟩
end Go.Proofs.YtoljnogpegemjaaDoor.Bk
