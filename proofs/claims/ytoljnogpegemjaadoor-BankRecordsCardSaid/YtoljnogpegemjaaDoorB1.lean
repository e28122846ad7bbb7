/- Strings of bytes are alike just where the bytes are. No condition. bank.Half: what it answers. Condition: the flash lies there whole; 32 bytes of a secret. bank.Half of a flash that is on: what it answers. Condition: the flash lies there whole; 32 bytes of a secret. A bank in plain words: what a save makes of the flash and the counter. No program here; no condition. otp.New, Root, Secret, Count, Most, Step: what each answers and what it makes of the counter. Condition: the counter lies there whole. otp.Step: what it answers and what it makes of the counter and the flash. Condition: both lie there whole, in different blocks. The document's example of a counter (alive of portcullislaw20): it answers true, in whatever memory. No condition. bank.write: what it answers and what it makes of the flash, the counter and the bank. Condition: they lie there whole, each in a block of its own. bank.Load, Save: what they answer and what they make of the flash, the counter and the bank. Condition: they lie there whole, each in a block of its own. -/
import Derived.Test.YtoljnogpegemjaaDoorSrcL
import Derived.Test.YtoljnogpegemjaaDoorBkA
import Derived.Test.YtoljnogpegemjaaDoorSam
import Derived.Test.YtoljnogpegemjaaDoorCui
import Derived.Test.YtoljnogpegemjaaDoorF1
import Derived.Test.YtoljnogpegemjaaDoorArr
import Derived.Deep.RegionHeld3
namespace Go.Proofs.YtoljnogpegemjaaDoor.Sm
open Go.RowKit

theorem str_inj : ∀ (xs ys : List Int), bytes xs → bytes ys → strOfNums xs = strOfNums ys → xs = ys := by
  intro xs ys hx hy h
  have h2 : (strOfNums xs).data.toList = (strOfNums ys).data.toList := by rw [h]
  rw [strOfNums_data, strOfNums_data] at h2
  have hl : xs.length = ys.length := by have := congrArg List.length h2; simpa using this
  apply List.ext_getElem hl
  intro i h1 h3
  have e := congrArg (fun l => l[i]?) h2
  simp only [List.getElem?_map, List.getElem?_eq_getElem h1, List.getElem?_eq_getElem h3, Option.map_some, Option.some.injEq] at e
  have b1 := hx xs[i] (List.getElem_mem h1)
  have b2 := hy ys[i] (List.getElem_mem h3)
  have e2 := congrArg UInt8.toNat e
  rw [UInt8.toNat_ofNat', UInt8.toNat_ofNat'] at e2
  omega

theorem str_eq (xs ys : List Int) (hx : bytes xs) (hy : bytes ys) : ((strOfNums xs).toList == (strOfNums ys).toList) = decide (xs = ys) := by
  by_cases h : xs = ys
  · rw [h, decide_eq_true rfl, beq_iff_eq]
  · rw [decide_eq_false h, beq_eq_false_iff_ne]
    intro e
    apply h
    apply str_inj xs ys hx hy
    rw [ByteArray.toList_eq, ByteArray.toList_eq] at e
    exact ByteArray.ext (Array.toList_inj.1 e)
end Go.Proofs.YtoljnogpegemjaaDoor.Sm
namespace Go.Proofs.YtoljnogpegemjaaDoor.Bk
open Go.RowKit Wr Sl Sm
set_option linter.unusedSimpArgs false
set_option linter.unusedVariables false

/-- What stands in the bytes of a half: the number, how many bytes, the bytes; is it a record? -/
def hn (b : List Int) : Int := intV (b.drop 4) false
def hz (b : List Int) : Int := intV (b.drop 12) false
def hx (b : List Int) : List Int := (b.drop 20).take (hz b).toNat
def hin (b : List Int) : Bool := decide (0 ≤ hn b) && decide (0 ≤ hz b) && decide (hz b ≤ 4096)
def hok (s b : List Int) : Bool := hin b && decide (recd s (hn b) (hx b) = b.take (52 + (hz b).toNat))
theorem hin_iff {b : List Int} : hin b = true ↔ 0 ≤ hn b ∧ 0 ≤ hz b ∧ hz b ≤ 4096 := by simp [hin, and_assoc]
theorem hin_not {b : List Int} : hin b = false ↔ hn b < 0 ∨ (0 ≤ hn b ∧ hz b < 0) ∨ (0 ≤ hn b ∧ 0 ≤ hz b ∧ 4096 < hz b) := by
  rw [← Bool.not_eq_true, hin_iff]
  omega
theorem hok_mark {s b : List Int} (h : b.take 4 ≠ mk) : hok s b = false := by
  unfold hok
  rw [Bool.and_eq_false_iff]
  right
  rw [decide_eq_false_iff_not]
  intro e
  have := congrArg (List.take 4) e
  rw [List.take_take, Nat.min_eq_left (by omega)] at this
  apply h
  rw [← this]
  simp [recd, body, packL, mk]

theorem half_nil (s : List Int) (k : Int) (w : World) :
    Calls Tryd.prog 24 #[.pointer none, .agg (arr .u8 s), .int .i64 k] w fun e w' => e = .returned (.tuple #[.int .i64 0, .slice none 0 0, .bool false]) ∧ Below w.heap.size w w' := by
  go_enter Tryd.func24, Tryd.ntmps24
  go_wp2
  refine wp_scope_fwd 0 rfl ?_
  go_wp2
  go_step3
  refine ⟨rfl, ?_⟩
  go_wp2
  (try rw [Exit.noGoto_ret])
  go_ret3
  exact ⟨rfl, (Below.refl _ w).alloc (Nat.le_refl _) _⟩

set_option maxRecDepth 100000 in
set_option maxHeartbeats 1000000 in
theorem half_off (p g : Nat) (f : Fl) (s : List Int) (k : Int) (w : World) (h : IsFl w p g f) (ho : f.dead = true ∨ (f.dead = false ∧ f.b.length / 256 < 64) ∨ (f.dead = false ∧ 64 ≤ f.b.length / 256 ∧ k < 0) ∨ (f.dead = false ∧ 64 ≤ f.b.length / 256 ∧ 0 ≤ k ∧ 2 ≤ k)) :
    Calls Tryd.prog 24 #[.pointer (some ⟨p, 0, none⟩), .agg (arr .u8 s), .int .i64 k] w fun e w' => e = .returned (.tuple #[.int .i64 0, .slice none 0 0, .bool false]) ∧ Below w.heap.size w w' := by
  have hb : Below w.heap.size w (w.alloc (.cells (arr .u8 s) 23)) := (Below.refl _ w).alloc (Nat.le_refl _) _
  have H := Lib.hid (h.below hb)
  have hd := fun u (h : IsFl u p g f) => dead_any p g f u h
  have hz := fun u (h : IsFl u p g f) => size_any p g f u h
  generalize f.b.length / 256 = z at ho hz
  have HZ := Lib.hid hz
  clear hz h
  rcases ho with h1 | ⟨h1, h2⟩ | ⟨h1, h2, h3⟩ | ⟨h1, h2, h3, h4⟩
  all_goals
    rw [h1] at hd
    have HD := Lib.hid hd
    clear hd h1
    go_enter Tryd.func24, Tryd.ntmps24
    go_wp2
    refine wp_scope_fwd 0 rfl ?_
    go_wp2_with (first | (go_at_call 72; refine (HD.out _ H.out).mono ?_; rintro e w' ⟨rfl, rfl⟩) | (go_at_call 73; refine (HZ.out _ H.out).mono ?_; rintro e w' ⟨rfl, rfl⟩))
    go_step3
    refine ⟨rfl, ?_⟩
    go_wp2
    (try rw [Exit.noGoto_ret])
    go_ret3
    exact ⟨rfl, hb⟩

/-- What is held while a half is read. -/
structure HfR (w u : World) (s b xs : List Int) (vb : Value) (pc qc : Nat) : Prop where
  i : u.heap[w.heap.size]? = some (.cells (arr .u8 s) 23 (0, 0))
  o : Own8 u w.heap.size vb b
  c : IsCur u pc qc xs false
  n : w.heap.size < pc ∧ ∀ k, vb.ownBlock = some k → k ≠ pc
  below : Below w.heap.size w u
theorem HfR.turn {w u u' : World} {s b xs xs' : List Int} {vb : Value} {pc qc : Nat} (h : HfR w u s b xs vb pc qc) (k : Kept (· = pc) u u') (hc : IsCur u' pc qc xs' false) : HfR w u' s b xs' vb pc qc :=
  ⟨k.blk h.i (by have := h.n.1; omega), h.o.kept k h.n.2, hc, h.n, h.below.trans (k.toBelow h.below.size (by rintro i rfl; exact Nat.le_of_lt h.n.1))⟩
theorem HfR.fresh {w u u' : World} {s b xs : List Int} {vb : Value} {pc qc : Nat} (h : HfR w u s b xs vb pc qc) (k : Below u.heap.size u u') : HfR w u' s b xs vb pc qc :=
  ⟨Below.blk k h.i (blk_lt h.i), h.o.below k, h.c.below k, h.n, h.below.trans (k.mono h.below.size)⟩
theorem raw_len {b : List Int} {n m : Nat} (h : b.length = n + m) : (b.drop n).length = m := by simp [h]
theorem str_mk : strOfNums mk = ⟨#[80, 67, 66, 49]⟩ := by decide +kernel
end Go.Proofs.YtoljnogpegemjaaDoor.Bk
namespace Go.Proofs.YtoljnogpegemjaaDoor.Bk
open Go.RowKit Wr Sl Sm
set_option linter.unusedSimpArgs false
set_option linter.unusedVariables false

theorem read_bytes {f : Fl} (h : f.Ok) (a n : Int) : bytes (f.read a n) := fun x hx => h.by0 x (List.mem_of_mem_drop (List.mem_of_mem_take hx))
set_option maxRecDepth 100000 in
set_option maxHeartbeats 4000000 in
theorem half_on (p g : Nat) (f : Fl) (s : List Int) (k : Nat) (w : World) (h : IsFl w p g f) (hd : f.dead = false) (hl : 16384 ≤ f.b.length) (hk : k < 2) (hsl : s.length = 32) (hsb : bytes s) :
    Calls Tryd.prog 24 #[.pointer (some ⟨p, 0, none⟩), .agg (arr .u8 s), .int .i64 k] w fun e w' =>
      (∃ v, e = .returned (.tuple #[.int .i64 (if hok s (f.read (8192 * k : Nat) 4148) then hn (f.read (8192 * k : Nat) 4148) else 0), v, .bool (hok s (f.read (8192 * k : Nat) 4148))]) ∧ Own8 w' w.heap.size v (if hok s (f.read (8192 * k : Nat) 4148) then hx (f.read (8192 * k : Nat) 4148) else [])) ∧ Below w.heap.size w w' := by
  have hb0 : Below w.heap.size w (w.alloc (.cells (arr .u8 s) 23)) := (Below.refl _ w).alloc (Nat.le_refl _) _
  have H := Lib.hid (h.below hb0)
  have hdd := fun u (h : IsFl u p g f) => dead_any p g f u h
  rw [hd] at hdd
  have hsz := fun u (h : IsFl u p g f) => size_any p g f u h
  obtain ⟨z, hz⟩ : ∃ z, z = f.b.length / 256 := ⟨_, rfl⟩
  have hz64 : 64 ≤ z := by omega
  rw [← hz] at hsz
  have hrd := fun u (h : IsFl u p g f) => read_in p g f (8192 * k) 4148 u h hd (by omega)
  have hbb := read_bytes h.ok ((8192 * k : Nat) : Int) 4148
  obtain ⟨b, hb⟩ : ∃ b, b = f.read ((8192 * k : Nat) : Int) 4148 := ⟨_, rfl⟩
  have hbl : b.length = 4148 := by rw [hb]; simp [Fl.read]; omega
  rw [← hb] at hbb ⊢
  have hrd2 : ∀ u, IsFl u p g f → Calls Tryd.prog 50 #[.pointer (some ⟨p, 0, none⟩), .int .i64 ((k : Int) * 32 * 256), .int .i64 4148] u fun e w' => ∃ sb cb, e = .returned (.tuple #[.slice sb 4148 cb, .bool true]) ∧ Own8 w' u.heap.size (.slice sb 4148 cb) b ∧ 4148 ≤ cb ∧ Below u.heap.size u w' := by
    intro u hu
    have := hrd u hu
    rw [show ((8192 * k : Nat) : Int) = (k : Int) * 32 * 256 by omega] at this hb
    refine this.mono ?_
    rintro e w' ⟨v, rfl, ho, hbw⟩
    rw [show f.read ((k : Int) * 32 * 256) ((4148 : Nat) : Int) = b from hb.symm] at ho
    have ho8 := Own8.of_owns ho
    obtain ⟨sb, cb, rfl, hcb, -⟩ := ho8.form
    rw [hbl] at hcb ho8 ⊢
    exact ⟨sb, cb, rfl, ho8, hcb, hbw⟩
  have hcn := fun (u : World) (sb : Option Addr) (cb : Nat) (h : Src u sb 4148 b) => cnew_any sb 4148 cb b u h (by decide)
  have hr4 : ∀ u vb pc qc, HfR w u s b b vb pc qc → Calls Tryd.prog 54 #[.pointer (some ⟨pc, 0, none⟩), .int .i64 4] u fun e w' => ∃ v, e = .returned v ∧ (convert 24 9 v).run Tryd.prog w' = .ok (.string (strOfNums (b.take 4))) w' ∧ HfR w w' s b (b.drop 4) vb pc qc := by
    intro u vb pc qc hu
    refine (craw_any pc qc b false 4 u hu.c (by omega)).mono ?_
    rintro e w' ⟨v, rfl, ho, hc, hkk⟩
    have hro : rawOk b false 4 = true := rawOk_iff.2 ⟨rfl, by omega, by omega⟩
    rw [rawV, hro] at ho
    rw [rawS, hro] at hc
    exact ⟨v, rfl, ho.str, hu.turn hkk hc⟩
  have hi : ∀ (m : Nat), m + 8 ≤ 4148 → ∀ u vb pc qc, HfR w u s b (b.drop m) vb pc qc → Calls Tryd.prog 55 #[.pointer (some ⟨pc, 0, none⟩)] u fun e w' => e = .returned (.int .i64 (intV (b.drop m) false)) ∧ HfR w w' s b (b.drop (m + 8)) vb pc qc := by
    intro m hm u vb pc qc hu
    have hlm : (b.drop m).length = 4148 - m := by simp [hbl]
    refine (cint_any pc qc (b.drop m) false u hu.c (by omega)).mono ?_
    rintro e w' ⟨rfl, hc, hkk⟩
    have hro : rawOk (b.drop m) false 8 = true := rawOk_iff.2 ⟨rfl, by omega, by omega⟩
    rw [rawS, hro] at hc
    simp only [if_true, Bool.not_true, show (8 : Int).toNat = 8 from rfl, List.drop_drop] at hc
    exact ⟨rfl, hu.turn hkk hc⟩
  have hi1 := hi 4 (by decide)
  have hi2 := hi 12 (by decide)
  rw [show intV (b.drop 4) false = hn b from rfl] at hi1
  rw [show intV (b.drop 12) false = Bk.hz b from rfl] at hi2
  have hq : ((strOfNums (b.take 4)).toList == [80, 67, 66, 49]) = decide (b.take 4 = mk) := by
    have h1 := str_eq (b.take 4) mk (fun x hx => hbb x (List.mem_of_mem_take hx)) (by intro x hx; simp only [mk, List.mem_cons, List.not_mem_nil, or_false] at hx; omega)
    rwa [str_mk, show (⟨#[80, 67, 66, 49]⟩ : ByteArray).toList = [80, 67, 66, 49] by decide +kernel] at h1
  obtain ⟨S4, hS4⟩ : ∃ S, S = strOfNums (b.take 4) := ⟨_, rfl⟩
  rw [← hS4] at hr4 hq
  have HB0 := Lib.hid hb0
  have HRD := Lib.hid hrd2
  have HCN := Lib.hid hcn
  have HR4 := Lib.hid hr4
  have HI1 := Lib.hid hi1
  have HI2' := Lib.hid hi2
  have HD := Lib.hid hdd
  have HZ := Lib.hid hsz
  have HSL := Lib.hid hsl
  have HBB := Lib.hid hbb
  have HBL := Lib.hid hbl
  clear hb0 hrd2 hcn hr4 hi1 hi2 hi hdd hsz hz hrd hb h hl hd hS4 hbb hbl
  have hk0 : (0 : Int) ≤ (k : Int) := by omega
  have hk2 : (k : Int) < 2 := by omega
  by_cases hm : b.take 4 = mk
  · rw [decide_eq_true hm] at hq
    clear hm
    cases hin0 : hin b with
    | false =>
      have ho : hok s b = false := by rw [hok, hin0]; rfl
      rw [ho]
      simp only [Bool.false_eq_true, if_false]
      have h3 := hin_not.1 hin0
      clear ho hin0
      generalize hn b = nn at HI1 h3
      generalize Bk.hz b = zz at HI2' h3
      rcases h3 with h3 | ⟨h3, h4⟩ | ⟨h3, h4, h5⟩
      all_goals
        go_enter Tryd.func24, Tryd.ntmps24
        go_wp2
        refine wp_scope_fwd 0 rfl ?_
        go_upto_region 6 with (first | (go_at_call 72; refine (HD.out _ H.out).mono ?_; rintro e w' ⟨rfl, rfl⟩) | (go_at_call 73; refine (HZ.out _ H.out).mono ?_; rintro e w' ⟨rfl, rfl⟩))
        have HS0 : Hid ((w.alloc (.cells (arr .u8 s) 23)).heap[w.heap.size]? = some (.cells (arr .u8 s) 23 (0, 0))) := Lib.hid (blk_new w _)
        have HZ0 : Hid (w.heap.size < (w.alloc (.cells (arr .u8 s) 23)).heap.size) := Lib.hid (by simp)
        generalize w.alloc (.cells (arr .u8 s) 23) = w1 at H HB0 HS0 HZ0 ⊢
        go_upto_region 7 with (go_at_call 50; refine (HRD.out _ H.out).mono ?_; rintro e w2 ⟨sb, cb, rfl, ho2, hcb, hb2⟩; have HO2 := Lib.hid (ho2.mono (B' := w.heap.size) (by have := HZ0.out; omega)); have HI2 := Lib.hid (Below.blk hb2 HS0.out HZ0.out); have HB2 := Lib.hid (HB0.out.trans (hb2.mono HB0.out.size)); have HL2 := Lib.hid ho2.lt; have HZ2 := Lib.hid hb2.size; clear ho2 hb2)
        go_upto_region 8 with (go_at_call 53; refine (HCN.out _ _ _ (own8_src HO2.out).1).mono ?_; rintro e w3 ⟨pc, qc, rfl, hc3, hp3, hq3, hb3⟩; have HR3 : Hid (HfR w w3 s b b (.slice sb 4148 cb) pc qc) := Lib.hid ⟨Below.blk hb3 HI2.out (by have := HZ0.out; have := HZ2.out; omega), HO2.out.below hb3, hc3, ⟨by have := HZ0.out; have := HZ2.out; omega, fun k e => by have := HO2.out.lt k e; omega⟩, HB2.out.trans (hb3.mono HB2.out.size)⟩; clear hc3 hp3 hq3 hb3)
        clear HO2 HI2 HB2 HL2 HZ2 HS0 HZ0 HB0 HRD HCN
        go_upto_region 9 with (go_at_call 54; refine (HR4.out _ _ _ _ HR3.out).mono ?_; rintro e w4 ⟨v4, rfl, hv4, hr4⟩; have HR5 := Lib.hid hr4; clear hr4)
        clear hv4 HR3 HR4
        go_upto_region 10 with (first | (go_at_call 55; refine (HI1.out _ _ _ _ HR5.out).mono ?_; rintro e w5 ⟨rfl, hr5⟩; have HR6 := Lib.hid hr5; clear hr5 HR5 HI1) | (go_at_call 55; refine (HI2'.out _ _ _ _ HR6.out).mono ?_; rintro e w6 ⟨rfl, hr6⟩; have HR7 := Lib.hid hr6; clear hr6 HR6 HI2'))
        go_wp2_with fail
        go_step3
        refine ⟨rfl, ?_⟩
        go_wp2
        (try rw [Exit.noGoto_ret])
        go_ret3
        exact ⟨⟨_, rfl, Own8.nil _ _⟩, HR7.out.below⟩
    | true =>
      obtain ⟨h1, h2, h3⟩ := hin_iff.1 hin0
      obtain ⟨m, hm⟩ := Int.eq_ofNat_of_zero_le h2
      have hm4 : m ≤ 4096 := by omega
      have hxl : (hx b).length = m := by rw [hx, hm]; simp [HBL.out]; omega
      have hxb : bytes (hx b) := fun y hy => HBB.out y (List.mem_of_mem_drop (List.mem_of_mem_take hy))
      have hrs : ∀ u vb pc qc, HfR w u s b (b.drop 20) vb pc qc → Calls Tryd.prog 54 #[.pointer (some ⟨pc, 0, none⟩), .int .i64 m] u fun e w' => ∃ sx cx, e = .returned (.slice sx m cx) ∧ Own8 w' w.heap.size (.slice sx m cx) (hx b) ∧ HfR w w' s b (b.drop (20 + m)) vb pc qc := by
        intro u vb pc qc hu
        have hl20 : (b.drop 20).length = 4128 := by simp [HBL.out]
        refine (craw_any pc qc (b.drop 20) false m u hu.c (by omega)).mono ?_
        rintro e w' ⟨v, rfl, ho, hc, hkk⟩
        have hro : rawOk (b.drop 20) false (m : Int) = true := rawOk_iff.2 ⟨rfl, by omega, by omega⟩
        rw [rawV, hro] at ho
        rw [rawS, hro] at hc
        simp only [if_true, Bool.not_true, Int.toNat_natCast, List.drop_drop] at hc ho
        rw [show (b.drop 20).take m = hx b by rw [hx, hm]; rfl] at ho
        obtain ⟨sx, cx, rfl, -⟩ := ho.form
        rw [hxl] at ho ⊢
        exact ⟨sx, cx, rfl, ho.mono hu.below.size, hu.turn hkk hc⟩
      have hrc : ∀ u sx cx, Src u sx m (hx b) → Calls Tryd.prog 21 #[.agg (arr .u8 s), .int .i64 (hn b), .slice sx m cx] u fun e w' => ∃ sr cr, e = .returned (.tuple #[.slice sr (52 + m) cr, .int .i64 0]) ∧ Own8 w' u.heap.size (.slice sr (52 + m) cr) (recd s (hn b) (hx b)) ∧ Below u.heap.size u w' := by
        intro u sx cx hu
        refine (record_ok s (hn b) sx m cx (hx b) u HSL.out hsb h1 hm4 hu hxb).mono ?_
        rintro e w' ⟨v, rfl, ho, hbw⟩
        obtain ⟨sr, cr, rfl, -⟩ := ho.form
        rw [recd_len, hxl] at ho ⊢
        exact ⟨sr, cr, rfl, ho, hbw⟩
      have hsm : ∀ u sr cr sb cb, Src u sr (52 + m) (recd s (hn b) (hx b)) → Src u sb 4148 b → Calls Tryd.prog 74 #[.slice sr (52 + m) cr, .slice sb (52 + m) cb] u fun e w' => e = .returned (.bool (hok s b)) ∧ Below u.heap.size u w' := by
        intro u sr cr sb cb k1 k2
        have := same_any' sr sb (52 + m) (52 + m) cr cb (recd s (hn b) (hx b)) (b.take (52 + m)) u k1 (k2.take (52 + m) (by omega)) (recd_bytes _ _ _ hxb) (fun y hy => HBB.out y (List.mem_of_mem_take hy)) (by omega)
        rwa [show decide (recd s (hn b) (hx b) = b.take (52 + m)) = hok s b by rw [hok, hin0, hm]; rfl] at this
      have HRS := Lib.hid hrs
      have HRC := Lib.hid hrc
      have HSM := Lib.hid hsm
      rw [hm] at HI2'
      clear hrs hrc hsm h2 h3 hm hxl hxb hin0
      generalize hok s b = ok at HSM ⊢
      generalize recd s (hn b) (hx b) = rc at HRC HSM
      generalize hn b = nn at HI1 h1 HRC ⊢
      generalize hx b = xx at HRS HRC ⊢
      go_enter Tryd.func24, Tryd.ntmps24
      go_wp2
      refine wp_scope_fwd 0 rfl ?_
      go_upto_region 6 with (first | (go_at_call 72; refine (HD.out _ H.out).mono ?_; rintro e w' ⟨rfl, rfl⟩) | (go_at_call 73; refine (HZ.out _ H.out).mono ?_; rintro e w' ⟨rfl, rfl⟩))
      have HS0 : Hid ((w.alloc (.cells (arr .u8 s) 23)).heap[w.heap.size]? = some (.cells (arr .u8 s) 23 (0, 0))) := Lib.hid (blk_new w _)
      have HZ0 : Hid (w.heap.size < (w.alloc (.cells (arr .u8 s) 23)).heap.size) := Lib.hid (by simp)
      generalize w.alloc (.cells (arr .u8 s) 23) = w1 at H HB0 HS0 HZ0 ⊢
      go_upto_region 7 with (go_at_call 50; refine (HRD.out _ H.out).mono ?_; rintro e w2 ⟨sb, cb, rfl, ho2, hcb, hb2⟩; have HO2 := Lib.hid (ho2.mono (B' := w.heap.size) (by have := HZ0.out; omega)); have HI2 := Lib.hid (Below.blk hb2 HS0.out HZ0.out); have HB2 := Lib.hid (HB0.out.trans (hb2.mono HB0.out.size)); have HL2 := Lib.hid ho2.lt; have HZ2 := Lib.hid hb2.size; clear ho2 hb2)
      go_upto_region 8 with (go_at_call 53; refine (HCN.out _ _ _ (own8_src HO2.out).1).mono ?_; rintro e w3 ⟨pc, qc, rfl, hc3, hp3, hq3, hb3⟩; have HR3 : Hid (HfR w w3 s b b (.slice sb 4148 cb) pc qc) := Lib.hid ⟨Below.blk hb3 HI2.out (by have := HZ0.out; have := HZ2.out; omega), HO2.out.below hb3, hc3, ⟨by have := HZ0.out; have := HZ2.out; omega, fun k e => by have := HO2.out.lt k e; omega⟩, HB2.out.trans (hb3.mono HB2.out.size)⟩; clear hc3 hp3 hq3 hb3)
      clear HO2 HI2 HB2 HL2 HZ2 HS0 HZ0 HB0 HRD HCN
      go_upto_region 9 with (go_at_call 54; refine (HR4.out _ _ _ _ HR3.out).mono ?_; rintro e w4 ⟨v4, rfl, hv4, hr4⟩; have HR5 := Lib.hid hr4; clear hr4)
      clear hv4 HR3 HR4
      go_upto_region 10 with (first | (go_at_call 55; refine (HI1.out _ _ _ _ HR5.out).mono ?_; rintro e w5 ⟨rfl, hr5⟩; have HR6 := Lib.hid hr5; clear hr5 HR5 HI1) | (go_at_call 55; refine (HI2'.out _ _ _ _ HR6.out).mono ?_; rintro e w6 ⟨rfl, hr6⟩; have HR7 := Lib.hid hr6; clear hr6 HR6 HI2'))
      go_upto_region 12 with (go_at_call 54; refine (HRS.out _ _ _ _ HR7.out).mono ?_; rintro e w8 ⟨sx, cx, rfl, ho8, hr8⟩; have HR8 := Lib.hid hr8; have HO8 := Lib.hid ho8; clear ho8 hr8 HR7 HRS)
      go_upto_region 13 with (first | ((with_reducible show wpList _ _ _ (Oper.mk (some 68) _ _ _ _ _ :: _) _ _); refine wpList_load_part rfl 23 _ rfl (w.heap.size) 0 _ 23 (0, 0) _ HR8.out.i rfl .u8 s (arr_part _ _) Tryd.underlying23 rfl (num_i HSL.out) ?_) | (go_at_call 21; refine (HRC.out _ _ _ (own8_src HO8.out).1).mono ?_; rintro e w9 ⟨sr, cr, rfl, ho9, hb9⟩; have HO9 := Lib.hid ho9; have HR9 := Lib.hid (HR8.out.fresh hb9); have HX9 := Lib.hid (HO8.out.below hb9); clear ho9 hb9 HR8 HO8 HRC))
      have hcb2 : ¬ (cb : Int) < 20 + (m : Int) + 32 := (by have := (own8_src HR9.out.o).2.2; omega)
      have e52 : (20 + (m : Int) + 32).toNat = 52 + m := (by omega)
      have h0m : ¬ (20 + (m : Int) + 32) < 0 := (by omega)
      clear hq
      cases ok with
      | true =>
        go_wp2_with (go_at_call 74; refine (HSM.out _ _ _ _ _ (own8_src HO9.out).1 (own8_src HR9.out.o).1).mono ?_; rintro e w10 ⟨rfl, hb10⟩; have HR10 := Lib.hid (HR9.out.fresh hb10); have HX10 := Lib.hid (HX9.out.below hb10); clear hb10)
        (try rw [Exit.noGoto_ret])
        (try rw [jump_ret])
        go_ret3
        exact ⟨⟨_, rfl, HX10.out⟩, HR10.out.below⟩
      | false =>
        go_wp2_with (go_at_call 74; refine (HSM.out _ _ _ _ _ (own8_src HO9.out).1 (own8_src HR9.out.o).1).mono ?_; rintro e w10 ⟨rfl, hb10⟩; have HR10 := Lib.hid (HR9.out.fresh hb10); clear hb10)
        go_step3
        refine ⟨rfl, ?_⟩
        go_wp2
        (try rw [Exit.noGoto_ret])
        go_ret3
        exact ⟨⟨_, rfl, Own8.nil _ _⟩, HR10.out.below⟩
  · rw [decide_eq_false hm] at hq
    rw [hok_mark hm]
    simp only [Bool.false_eq_true, if_false]
    clear hm
    go_enter Tryd.func24, Tryd.ntmps24
    go_wp2
    refine wp_scope_fwd 0 rfl ?_
    go_upto_region 6 with (first | (go_at_call 72; refine (HD.out _ H.out).mono ?_; rintro e w' ⟨rfl, rfl⟩) | (go_at_call 73; refine (HZ.out _ H.out).mono ?_; rintro e w' ⟨rfl, rfl⟩))
    have HS0 : Hid ((w.alloc (.cells (arr .u8 s) 23)).heap[w.heap.size]? = some (.cells (arr .u8 s) 23 (0, 0))) := Lib.hid (blk_new w _)
    have HZ0 : Hid (w.heap.size < (w.alloc (.cells (arr .u8 s) 23)).heap.size) := Lib.hid (by simp)
    generalize w.alloc (.cells (arr .u8 s) 23) = w1 at H HB0 HS0 HZ0 ⊢
    go_upto_region 7 with (go_at_call 50; refine (HRD.out _ H.out).mono ?_; rintro e w2 ⟨sb, cb, rfl, ho2, hcb, hb2⟩; have HO2 := Lib.hid (ho2.mono (B' := w.heap.size) (by have := HZ0.out; omega)); have HI2 := Lib.hid (Below.blk hb2 HS0.out HZ0.out); have HB2 := Lib.hid (HB0.out.trans (hb2.mono HB0.out.size)); have HL2 := Lib.hid ho2.lt; have HZ2 := Lib.hid hb2.size; clear ho2 hb2)
    go_upto_region 8 with (go_at_call 53; refine (HCN.out _ _ _ (own8_src HO2.out).1).mono ?_; rintro e w3 ⟨pc, qc, rfl, hc3, hp3, hq3, hb3⟩; have HR3 : Hid (HfR w w3 s b b (.slice sb 4148 cb) pc qc) := Lib.hid ⟨Below.blk hb3 HI2.out (by have := HZ0.out; have := HZ2.out; omega), HO2.out.below hb3, hc3, ⟨by have := HZ0.out; have := HZ2.out; omega, fun k e => by have := HO2.out.lt k e; omega⟩, HB2.out.trans (hb3.mono HB2.out.size)⟩; clear hc3 hp3 hq3 hb3)
    clear HO2 HI2 HB2 HL2 HZ2 HS0 HZ0 HB0 HRD HCN
    go_wp2_with (go_at_call 54; refine (HR4.out _ _ _ _ HR3.out).mono ?_; rintro e w4 ⟨v4, rfl, hv4, hr4⟩; have HR5 := Lib.hid hr4; clear hr4)
    go_step3
    refine ⟨rfl, ?_⟩
    go_wp2
    (try rw [Exit.noGoto_ret])
    go_ret3
    exact ⟨⟨_, rfl, Own8.nil _ _⟩, HR5.out.below⟩
end Go.Proofs.YtoljnogpegemjaaDoor.Bk
namespace Go.Proofs.YtoljnogpegemjaaDoor.Bk
open Go.RowKit Wr Sl Sm
set_option linter.unusedVariables false

/-- One of two, by a Bool (a definition: a walk does not split it). -/
def sel {α : Type} (b : Bool) (y x : α) : α := if b then y else x
/-- n sectors are erased, from sector k on, till one is not. -/
def wE : Nat → Int → Fl → Fl × Bool
  | 0, _, f => (f, true)
  | n + 1, k, f => if f.eraseOk k then wE n (k + 1) (f.erase k) else (f.erase k, false)
def secs (n : Nat) : Nat := (n + 255) / 256
structure WR where
  f : Fl
  c : Nat
  ok : Bool
/-- What follows behind the erases: the bytes are laid, the counter steps. -/
def wF (E : Fl × Bool) (A : Nat) (R : List Int) (c : Nat) : WR :=
  if E.2 then
    if E.1.progOk A R.length then ⟨(E.1.prog A R).turn, if (E.1.prog A R).turnOk then c + 1 else c, (E.1.prog A R).turnOk⟩ else ⟨E.1.prog A R, c, false⟩
  else ⟨E.1, c, false⟩
/-- Bytes are laid into half t, bound to the counter's next number. -/
def wB (s : List Int) (f : Fl) (c t : Nat) (y : List Int) : WR := wF (wE (secs (52 + y.length)) (32 * t : Nat) f) (8192 * t) (recd s (c + 1) y) c
theorem wE_len : ∀ (n : Nat) (k : Int) (f : Fl), (wE n k f).1.b.length = f.b.length
  | 0, _, _ => rfl
  | n + 1, k, f => by
    unfold wE
    split
    · rw [wE_len n (k + 1), Fl.erase_len]
    · exact Fl.erase_len _ _
theorem wE_Ok : ∀ (n : Nat) (k : Int) (f : Fl), f.Ok → (wE n k f).1.Ok
  | 0, _, _, h => h
  | n + 1, k, f, h => by
    unfold wE
    split
    · exact wE_Ok n (k + 1) _ (h.erase _)
    · exact h.erase _
theorem turn_len (f : Fl) : f.turn.b.length = f.b.length := by
  unfold Fl.turn
  split
  · rfl
  · rw [Fl.step_b]
theorem wB_len (s : List Int) (f : Fl) (c t : Nat) (y : List Int) : (wB s f c t y).f.b.length = f.b.length := by
  unfold wB wF
  split
  · split
    · exact (turn_len _).trans ((Fl.prog_len _ _ _).trans (wE_len _ _ _))
    · exact (Fl.prog_len _ _ _).trans (wE_len _ _ _)
  · exact wE_len _ _ _
end Go.Proofs.YtoljnogpegemjaaDoor.Bk
namespace Go.Proofs.YtoljnogpegemjaaDoor
open Go.RowKit

/-- The cells of a counter. -/
def otpC (f : Value) (r s : List Int) (c m : Int) : Array Value := ([f] ++ (r.map (Value.int .u8) ++ (s.map (Value.int .u8) ++ [Value.int .i64 c, Value.int .i64 m]))).toArray
def IsOtp (w : World) (q : Nat) (f : Value) (r s : List Int) (c m : Int) : Prop := w.heap[q]? = some (.cells (otpC f r s c m) 168 (0, 0)) ∧ r.length = 32 ∧ s.length = 32
theorem otpC_size {f : Value} {r s : List Int} {c m : Int} (hr : r.length = 32) (hs : s.length = 32) : (otpC f r s c m).size = 67 := by simp [otpC, hr, hs]
theorem otpC_0 (f : Value) (r s : List Int) (c m : Int) : (otpC f r s c m)[0]? = some f := by simp [otpC]
theorem otpC_65 {f : Value} {r s : List Int} {c m : Int} (hr : r.length = 32) (hs : s.length = 32) : (otpC f r s c m)[65]? = some (.int .i64 c) := by
  simp only [otpC, List.getElem?_toArray]
  rw [List.getElem?_append_right (by simp), List.getElem?_append_right (by simp [hr]), List.getElem?_append_right (by simp [hr, hs])]
  simp [hr, hs]
theorem otpC_66 {f : Value} {r s : List Int} {c m : Int} (hr : r.length = 32) (hs : s.length = 32) : (otpC f r s c m)[66]? = some (.int .i64 m) := by
  simp only [otpC, List.getElem?_toArray]
  rw [List.getElem?_append_right (by simp), List.getElem?_append_right (by simp [hr]), List.getElem?_append_right (by simp [hr, hs])]
  simp [hr, hs]
theorem otpC_set {f : Value} {r s : List Int} {c m : Int} (hr : r.length = 32) (hs : s.length = 32) (c' : Int) : (otpC f r s c m).setIfInBounds 65 (.int .i64 c') = otpC f r s c' m := by
  simp only [otpC, List.setIfInBounds_toArray]
  congr 1
  rw [List.set_append_right _ _ (by simp), List.set_append_right _ _ (by simp [hr]), List.set_append_right _ _ (by simp [hr, hs])]
  simp [hr, hs]

theorem zero_otp (w : World) : (zeroValue 168).run Tryd.prog w = .ok (.agg (otpC (.pointer none) (List.replicate 32 0) (List.replicate 32 0) 0 0)) w := by kernel_rfl
theorem fill_otp (f : Option Addr) (r s z y : List Int) (hr : r.length = 32) (hs : s.length = 32) (hz : z.length = 32) (hy : y.length = 32) (m : Int) :
    Instr.fill (fun x => #[((0 : Nat), (1 : Nat)), (1, 32), (33, 32), (65, 1), (66, 1)][x]?) (Value.agg (otpC (.pointer none) z y 0 0)).cells
      [(0, .pointer f), (1, .agg (arr .u8 r)), (2, .agg (arr .u8 s)), (4, .int .i64 m)] = some (otpC (.pointer f) r s 0 m) := by
  have c1 : (Value.agg (arr .u8 r)).cells.size = 32 := by simp [Value.cells, arr_size, hr]
  have c2 : (Value.agg (arr .u8 s)).cells.size = 32 := by simp [Value.cells, arr_size, hs]
  have c3 : (Value.int .i64 m).cells.size = 1 := rfl
  have c0 : (Value.pointer f).cells.size = 1 := rfl
  rw [fill_cons _ _ _ _ _ 0 (by rw [c0]; rfl) (by simp [Value.cells, otpC, hz, hy]), fill_cons _ _ _ _ _ 1 (by rw [c1]; rfl) (by simp [Value.cells, arr_size, hr, otpC, hz, hy]), fill_cons _ _ _ _ _ 33 (by rw [c2]; rfl) (by simp [Value.cells, arr_size, hr, hs, otpC, hz, hy]),
    fill_cons _ _ _ _ _ 66 (by rw [c3]; rfl) (by simp [Value.cells, arr_size, hr, hs, otpC, hz, hy])]
  rw [Instr.fill]
  congr 1
  have hR : (r.map (Value.int .u8)).length = 32 := by simp [hr]
  have hS : (s.map (Value.int .u8)).length = 32 := by simp [hs]
  have hZ : (z.map (Value.int .u8)).length = 32 := by simp [hz]
  have hY : (y.map (Value.int .u8)).length = 32 := by simp [hy]
  simp only [otpC, Value.cells, arr]
  generalize r.map (Value.int .u8) = R at hR ⊢
  generalize s.map (Value.int .u8) = S at hS ⊢
  generalize z.map (Value.int .u8) = Z at hZ ⊢
  generalize y.map (Value.int .u8) = Y at hY ⊢
  simp [hR, hS, hZ, hY, List.take_append, List.drop_append, List.take_of_length_le, List.drop_eq_nil_of_le]

theorem build_otp (f : Option Addr) (r s : List Int) (hr : r.length = 32) (hs : s.length = 32) (m : Int) (w : World) :
    (Instr.build 168 #[(0, .pointer f), (1, .agg (arr .u8 r)), (2, .agg (arr .u8 s)), (4, .int .i64 m)]).run Tryd.prog w = .ok (.agg (otpC (.pointer f) r s 0 m)) w := by
  unfold Instr.build
  simp only [Sem.run_bind, zero_otp, Result.andThen_ok, run_underlying Tryd.underlying168]
  refine (congrArg (fun R => Result.andThen R _) (show _ = Result.ok #[(0, 1), (1, 32), (33, 32), (65, 1), (66, 1)] w from ?h)).trans ?_
  case h => kernel_rfl
  simp only [Result.andThen_ok]
  rw [fill_otp f r s _ _ hr hs (by simp) (by simp) m]
  rfl

theorem size_num : (Tryd.prog.info? 23).map (·.size) = some 32 := by kernel_rfl

set_option maxHeartbeats 800000 in
theorem onew_any (f : Option Addr) (r s : List Int) (hr : r.length = 32) (hs : s.length = 32) (m : Int) (w : World) :
    Calls Tryd.prog 66 #[.pointer f, .agg (arr .u8 r), .agg (arr .u8 s), .int .i64 m] w fun e w' =>
      ∃ q, e = .returned (.pointer (some ⟨q, 0, none⟩)) ∧ IsOtp w' q (.pointer f) r s 0 (min (max 0 m) 1048576) ∧ w.heap.size ≤ q ∧ Below w.heap.size w w' := by
  have hb := fun w => build_otp f r s hr hs (min (max 0 m) 1048576) w
  have g1 : ((w.alloc (.cells (arr .u8 r) 23)).alloc (.cells (arr .u8 s) 23)).heap[w.heap.size]? = some (.cells (arr .u8 r) 23 (0, 0)) := blk_alloc (blk_new w _) _
  have g2 : ((w.alloc (.cells (arr .u8 r) 23)).alloc (.cells (arr .u8 s) 23)).heap[w.heap.size + 1]? = some (.cells (arr .u8 s) 23 (0, 0)) := by
    have := blk_new (w.alloc (.cells (arr .u8 r) 23)) (.cells (arr .u8 s) 23)
    rwa [show (w.alloc (.cells (arr .u8 r) 23)).heap.size = w.heap.size + 1 by simp] at this
  have z1 : (Tryd.prog.info? 23).map (·.size) = some (arr .u8 r).size := by rw [arr_size, hr]; exact size_num
  have z2 : (Tryd.prog.info? 23).map (·.size) = some (arr .u8 s).size := by rw [arr_size, hs]; exact size_num
  have G1 := Lib.hid g1
  have G2 := Lib.hid g2
  have Z1 := Lib.hid z1
  have Z2 := Lib.hid z2
  have HR := Lib.hid hr
  have HS := Lib.hid hs
  have HB := Lib.hid hb
  clear g1 g2 z1 z2 hr hs hb
  go_enter Tryd.func66, Tryd.ntmps66
  go_wp2_with (first | ((with_reducible show wpList _ _ _ (Oper.mk (some 10) _ _ _ _ _ :: _) _ _); refine wpList_load_row rfl 23 _ rfl _ rfl 23 (arr .u8 r) (0, 0) _ G1.out Tryd.underlying23 rfl Z1.out ?_) | ((with_reducible show wpList _ _ _ (Oper.mk (some 11) _ _ _ _ _ :: _) _ _); refine wpList_load_row rfl 23 _ rfl _ rfl 23 (arr .u8 s) (0, 0) _ G2.out Tryd.underlying23 rfl Z2.out ?_) | ((with_reducible show wpList _ _ _ (Oper.mk (some 15) _ _ _ _ _ :: _) _ _); refine wpList_build rfl 168 _ rfl #[(0, .pointer f), (1, .agg (arr .u8 r)), (2, .agg (arr .u8 s)), (4, .int .i64 (min (max 0 m) 1048576))] rfl _ (HB.out _) ?_))
  go_ret
  refine ⟨w.heap.size + 1 + 1, rfl, ⟨?_, HR.out, HS.out⟩, by omega, (((Below.refl _ w).alloc (Nat.le_refl _) _).alloc (by simp) _).alloc (by simp; omega) _⟩
  have := blk_new ((w.alloc (.cells (arr .u8 r) 23)).alloc (.cells (arr .u8 s) 23)) (.cells (otpC (.pointer f) r s 0 (min (max 0 m) 1048576)) 168)
  rwa [show ((w.alloc (.cells (arr .u8 r) 23)).alloc (.cells (arr .u8 s) 23)).heap.size = w.heap.size + 1 + 1 by simp] at this

theorem IsOtp.kept {T : Nat → Prop} {w w' : World} {q : Nat} {f : Value} {r s : List Int} {c m : Int} (h : IsOtp w q f r s c m) (k : Kept T w w') (hq : ¬ T q) : IsOtp w' q f r s c m := ⟨k.blk h.1 hq, h.2⟩
theorem IsOtp.below {w w' : World} {q : Nat} {f : Value} {r s : List Int} {c m : Int} (h : IsOtp w q f r s c m) (k : Below w.heap.size w w') : IsOtp w' q f r s c m := ⟨Below.blk k h.1 (blk_lt h.1), h.2⟩
theorem IsOtp.cs {w : World} {q : Nat} {f : Value} {r s : List Int} {c m : Int} (h : IsOtp w q f r s c m) :
    w.cell? ⟨q, 0, none⟩ = some f ∧ w.cell? ⟨q, 65, none⟩ = some (.int .i64 c) ∧ w.cell? ⟨q, 66, none⟩ = some (.int .i64 m) :=
  ⟨by rw [cell_blk h.1, otpC_0], by rw [cell_blk h.1, otpC_65 h.2.1 h.2.2], by rw [cell_blk h.1, otpC_66 h.2.1 h.2.2]⟩
theorem IsOtp.root {w : World} {q : Nat} {f : Value} {r s : List Int} {c m : Int} (h : IsOtp w q f r s c m) : w.rangeAt q 1 (r.map (Value.int .u8)) := by
  intro j v hj
  rw [cell_blk h.1]
  have hl : j < (r.map (Value.int .u8)).length := (List.getElem?_eq_some_iff.1 hj).1
  simp only [otpC, List.getElem?_toArray]
  rw [List.getElem?_append_right (by simp), List.getElem?_append_left (by simp at hl ⊢; omega), ← hj]
  congr 1
  simp
theorem IsOtp.secret {w : World} {q : Nat} {f : Value} {r s : List Int} {c m : Int} (h : IsOtp w q f r s c m) : w.rangeAt q 33 (s.map (Value.int .u8)) := by
  intro j v hj
  rw [cell_blk h.1]
  have hl : j < (s.map (Value.int .u8)).length := (List.getElem?_eq_some_iff.1 hj).1
  have hr := h.2.1
  simp only [otpC, List.getElem?_toArray]
  rw [List.getElem?_append_right (by simp <;> omega), List.getElem?_append_right (by simp [hr] <;> omega), List.getElem?_append_left (by simp [hr] at hl ⊢ <;> omega), ← hj]
  congr 1
  simp [hr] <;> omega

theorem ocount_any (q : Nat) (f : Value) (r s : List Int) (c m : Int) (w : World) (h : IsOtp w q f r s c m) :
    Calls Tryd.prog 67 #[.pointer (some ⟨q, 0, none⟩)] w fun e w' => e = .returned (.int .i64 c) ∧ w = w' := by
  obtain ⟨c0, c1, c2⟩ := h.cs
  go_enter Tryd.func67, Tryd.ntmps67
  go_wp2
  go_ret
  exact ⟨rfl, rfl⟩
theorem omost_any (q : Nat) (f : Value) (r s : List Int) (c m : Int) (w : World) (h : IsOtp w q f r s c m) :
    Calls Tryd.prog 83 #[.pointer (some ⟨q, 0, none⟩)] w fun e w' => e = .returned (.int .i64 m) ∧ w = w' := by
  obtain ⟨c0, c1, c2⟩ := h.cs
  go_enter Tryd.func83, Tryd.ntmps83
  go_wp2
  go_ret
  exact ⟨rfl, rfl⟩

set_option maxRecDepth 100000 in
set_option maxHeartbeats 800000 in
theorem osecret_any (q : Nat) (f : Value) (r s : List Int) (c m : Int) (w : World) (h : IsOtp w q f r s c m) :
    Calls Tryd.prog 114 #[.pointer (some ⟨q, 0, none⟩)] w fun e w' => e = .returned (.agg (arr .u8 s)) ∧ Below w.heap.size w w' := by
  have hrg := fun o => World.rangeAt_alloc h.secret o
  have hl : (s.map (Value.int .u8)).length = 32 := by rw [List.length_map]; exact h.2.2
  have z1 : (Tryd.prog.info? 23).map (·.size) = some (s.map (Value.int .u8)).length := by rw [hl]; exact size_num
  have z2 : (Tryd.prog.info? 23).map (·.size) = some (s.map (Value.int .u8)).toArray.size := by rw [List.size_toArray, hl]; exact size_num
  have ht : ∀ Z : Array Value, Z.size = 32 → (w.alloc (.cells Z 23)).there w.heap.size 0 (s.map (Value.int .u8)).toArray.size := by
    intro Z hZ j hj
    rw [List.size_toArray, hl] at hj
    rw [cell_blk (blk_new w _), Nat.zero_add]
    exact ⟨by rw [Array.getElem?_eq_getElem (by omega)]; rfl, free_blk (blk_new w _) _⟩
  have h1 : (s.map (Value.int .u8)).toArray.all (·.oneCell') = true := all_oneCell_toArray (by intro v hv; obtain ⟨y, _, rfl⟩ := List.mem_map.1 hv; rfl)
  have hfin : ∀ Z : Array Value, Z.size = 32 → ((w.alloc (.cells Z 23)).setCells w.heap.size 0 (s.map (Value.int .u8)).toArray.toList).heap[w.heap.size]? = some (.cells (s.map (Value.int .u8)).toArray 23 (0, 0)) := by
    intro Z hZ
    rw [blk_setCells _ _ _ _ 0 _ _ (blk_new w _) (by simp [hZ] at hl ⊢; omega)]
    congr 2
    simp at hl ⊢
    omega
  have hbel : ∀ Z : Array Value, Below w.heap.size w ((w.alloc (.cells Z 23)).setCells w.heap.size 0 (s.map (Value.int .u8)).toArray.toList) := fun Z =>
    (kept_setCells (T := fun _ => False) w.heap.size _ 0 _ ((Kept.refl _ w).alloc _) (.inr (Nat.le_refl _))).toBelow (Nat.le_refl _) (fun _ h => h.elim)
  have HRG := Lib.hid hrg
  have Z1 := Lib.hid z1
  have Z2 := Lib.hid z2
  have HT := Lib.hid ht
  have H1 := Lib.hid h1
  have HFIN := Lib.hid hfin
  have HBEL := Lib.hid hbel
  clear hrg z1 z2 ht h1 hfin hbel hl
  go_enter Tryd.func114, Tryd.ntmps114
  go_wp2_with (first | ((with_reducible show wpList _ _ _ (Oper.mk (some 6) _ _ _ _ _ :: _) _ _); refine wpList_load_mid rfl 23 _ rfl q 33 rfl (s.map (Value.int .u8)) _ (HRG.out _) Tryd.underlying23 rfl Z1.out ?_) | ((with_reducible show wpList _ _ _ (Oper.mk none _ _ _ _ _ :: _) _ _); refine wpList_store_mid rfl 23 _ _ rfl w.heap.size 0 (s.map (Value.int .u8)).toArray rfl rfl (HT.out _ rfl) Z2.out H1.out ?_; generalize hW : World.setCells _ _ _ _ = w2; have HW := Lib.hid hW; clear hW))
  have hg2 : w2.heap[w.heap.size]? = some (.cells (s.map (Value.int .u8)).toArray 23 (0, 0)) := by rw [← HW.out]; exact HFIN.out _ rfl
  have hb2 : Below w.heap.size w w2 := by rw [← HW.out]; exact HBEL.out _
  (try simp only [Exit.inBlock, Exit.then])
  refine bodyPost_ret (results_cell_row rfl _ _ w.heap.size 23 (s.map (Value.int .u8)).toArray (0, 0) _ rfl hg2 Tryd.underlying23 rfl Z2.out) rfl ?_
  exact ⟨rfl, hb2⟩

end Go.Proofs.YtoljnogpegemjaaDoor
namespace Go.Proofs.YtoljnogpegemjaaDoor
open Go.RowKit

theorem IsOtp.drewN {w : World} {q : Nat} {f : Value} {r s : List Int} {c m : Int} (h : IsOtp w q f r s c m) (n : Nat) : IsOtp (w.drewN n) q f r s c m := h
theorem IsOtp.fr {w : World} {q : Nat} {f : Value} {r s : List Int} {c m : Int} (h : IsOtp w q f r s c m) (o : Nat) : w.frozen? ⟨q, o, none⟩ = false := free_blk h.1 o

set_option maxHeartbeats 800000 in
theorem ostep_full (q : Nat) (f : Value) (r s : List Int) (c m : Int) (w : World) (h : IsOtp w q f r s c m) (hc : c = m) :
    Calls Tryd.prog 113 #[.pointer (some ⟨q, 0, none⟩)] w fun e w' => e = .returned (.int .i64 19) ∧ ∃ n, w' = w.drewN n := by
  subst hc
  obtain ⟨c0, c1, c2⟩ := h.cs
  go_enter Tryd.func113, Tryd.ntmps113
  go_wp2
  go_quiet (fail)
  go_wp2
  go_ret
  exact ⟨rfl, _, rfl⟩

set_option maxHeartbeats 800000 in
theorem ostep_nil (q : Nat) (r s : List Int) (c m : Int) (w : World) (h : IsOtp w q (.pointer none) r s c m) (hc : (c == m) = false) :
    Calls Tryd.prog 113 #[.pointer (some ⟨q, 0, none⟩)] w fun e w' => e = .returned (.int .i64 8) ∧ ∃ n, w' = w.drewN n := by
  obtain ⟨c0, c1, c2⟩ := h.cs
  go_enter Tryd.func113, Tryd.ntmps113
  go_wp2
  go_quiet (fail)
  go_wp2
  go_ret
  exact ⟨rfl, _, rfl⟩

set_option maxHeartbeats 800000 in
theorem ostep_no (q p g : Nat) (t : Fl) (r s : List Int) (c m : Int) (w : World) (h : IsOtp w q (.pointer (some ⟨p, 0, none⟩)) r s c m) (hf : IsFl w p g t) (hqp : q ≠ p) (hc : (c == m) = false) (ht : t.turnOk = false) :
    Calls Tryd.prog 113 #[.pointer (some ⟨q, 0, none⟩)] w fun e w' =>
      e = .returned (.int .i64 8) ∧ IsFl w' p g t.turn ∧ IsOtp w' q (.pointer (some ⟨p, 0, none⟩)) r s c m ∧ Kept (fun x => x = p ∨ x = q) w w' ∧ w'.heap.size = w.heap.size := by
  obtain ⟨c0, c1, c2⟩ := h.cs
  have htu := fun n => turn_any p g t (w.drewN n) (hf.drewN n)
  rw [ht] at htu
  have HTU := Lib.hid htu
  clear htu ht
  go_enter Tryd.func113, Tryd.ntmps113
  go_wp2
  go_quiet (fail)
  go_wp2_with (go_at_call 141; refine (HTU.out _).mono ?_; rintro e w1 ⟨rfl, hf1, hk1, hz1⟩; have HZ1 := Lib.hid hz1; clear hz1)
  go_ret
  exact ⟨rfl, hf1, h.kept (w := w) ⟨hk1.os, hk1.tape, hk1.output, hk1.size, hk1.block⟩ hqp, (show Kept _ w w1 from ⟨hk1.os, hk1.tape, hk1.output, hk1.size, fun k a b => hk1.block k a (fun e => b (.inl e))⟩), HZ1.out⟩

set_option maxHeartbeats 800000 in
theorem ostep_ok (q p g : Nat) (t : Fl) (r s : List Int) (c m : Int) (w : World) (h : IsOtp w q (.pointer (some ⟨p, 0, none⟩)) r s c m) (hf : IsFl w p g t) (hqp : q ≠ p) (hqg : q ≠ g) (hc : (c == m) = false) (ht : t.turnOk = true) (hb : 0 ≤ c ∧ c ≤ 1048576) :
    Calls Tryd.prog 113 #[.pointer (some ⟨q, 0, none⟩)] w fun e w' =>
      e = .returned (.int .i64 0) ∧ IsFl w' p g t.turn ∧ IsOtp w' q (.pointer (some ⟨p, 0, none⟩)) r s (c + 1) m ∧ Kept (fun x => x = p ∨ x = q) w w' ∧ w'.heap.size = w.heap.size := by
  obtain ⟨c0, c1, c2⟩ := h.cs
  obtain ⟨b0, b1⟩ := hb
  have htu := fun n => turn_any p g t (w.drewN n) (hf.drewN n)
  rw [ht] at htu
  have HTU := Lib.hid htu
  clear htu ht
  go_enter Tryd.func113, Tryd.ntmps113
  go_wp2
  go_quiet (fail)
  go_wp2_with (go_at_call 141; refine (HTU.out _).mono ?_; rintro e w1 ⟨rfl, hf1, hk1, hz1⟩; have HZ1 := Lib.hid hz1; clear hz1; have ho1 : IsOtp w1 q (.pointer (some ⟨p, 0, none⟩)) r s c m := h.kept (w := w) ⟨hk1.os, hk1.tape, hk1.output, hk1.size, hk1.block⟩ hqp; have d1 := ho1.cs.2.1; have d2 := ho1.fr 65)
  go_ret
  have hk : Kept (fun x => x = p ∨ x = q) w w1 := ⟨hk1.os, hk1.tape, hk1.output, hk1.size, fun k a b => hk1.block k a (fun e => b (.inl e))⟩
  refine ⟨rfl, ?_, ⟨?_, ho1.2⟩, hk.setCell (p := ⟨q, 65, none⟩) (.inl (.inr rfl)) _, ?_⟩
  · obtain ⟨sp, hs⟩ := hf1.row
    exact ⟨blk_setCell_ne hf1.st _ (fun e => hqp e.symm), ⟨sp, blk_setCell_ne hs _ (fun e => hqg e.symm)⟩, hf1.ne, hf1.ok⟩
  · rw [blk_setCell ho1.1, otpC_set ho1.2.1 ho1.2.2]
  · rw [size_setCell]; exact HZ1.out

end Go.Proofs.YtoljnogpegemjaaDoor
namespace Go.Proofs.YtoljnogpegemjaaDoor
open Go.RowKit

def one (x : Int) : List Int := x :: List.replicate 31 0
theorem one_len (x : Int) : (one x).length = 32 := by simp [one]
theorem build_one (x : Int) (w : World) : (Instr.build 23 #[(0, .int .u8 x)]).run Tryd.prog w = .ok (.agg (arr .u8 (one x))) w := by kernel_rfl
theorem two_le {p q B : Nat} (hp : B ≤ p) (hq : B ≤ q) : ∀ i, (i = p ∨ i = q) → B ≤ i := by rintro i (rfl | rfl) <;> assumption

end Go.Proofs.YtoljnogpegemjaaDoor
namespace Go.Proofs.YtoljnogpegemjaaDoor.Bk
open Go.RowKit Wr Sl Sm
set_option linter.unusedSimpArgs false
set_option linter.unusedVariables false

def far (a : Option Addr) (n p g o q : Nat) : Prop := ∀ b, a = some b → n = 0 ∨ (b.block ≠ p ∧ b.block ≠ g ∧ b.block ≠ o ∧ b.block ≠ q)
structure Apart (p g o q : Nat) : Prop where
  ne : p ≠ g ∧ p ≠ o ∧ p ≠ q ∧ g ≠ o ∧ g ≠ q ∧ o ≠ q
/-- The flash, the counter and the bank. -/
structure Sys (w : World) (p g o q : Nat) (r s : List Int) (f : Fl) (c m : Nat) (x : List Int) (hf : Int) (dd : Bool) : Prop where
  fl : IsFl w p g f
  ot : IsOtp w o (.pointer (some ⟨p, 0, none⟩)) r s c m
  bk : ∃ sa cc, w.heap[q]? = some (.cells #[.pointer (some ⟨p, 0, none⟩), .pointer (some ⟨o, 0, none⟩), .slice sa x.length cc, .int .i64 hf, .bool dd] 132 (0, 0)) ∧ Src w sa x.length x ∧ x.length ≤ cc ∧ far sa x.length p g o q
  xs : bytes x ∧ x.length ≤ 4096
theorem src_far {T : Nat → Prop} {w w' : World} {p g o q : Nat} {sa : Option Addr} {n : Nat} {xs : List Int} (h : Src w sa n xs) (hfr : far sa n p g o q) (k : Kept T w w') (hT : ∀ i, T i → i = p ∨ i = g ∨ i = o ∨ i = q) : Src w' sa n xs :=
  h.kept k (fun a e => by
    rcases hfr a e with h0 | h0
    · exact .inl h0
    · exact .inr (fun t => by have := hT _ t; omega))
theorem Sys.cs {w : World} {p g o q : Nat} {r s : List Int} {f : Fl} {c m : Nat} {x : List Int} {hf : Int} {dd : Bool} (h : Sys w p g o q r s f c m x hf dd) :
    w.cell? ⟨q, 0, none⟩ = some (.pointer (some ⟨p, 0, none⟩)) ∧ w.cell? ⟨q, 1, none⟩ = some (.pointer (some ⟨o, 0, none⟩)) ∧ w.cell? ⟨q, 3, none⟩ = some (.int .i64 hf) ∧ w.cell? ⟨q, 4, none⟩ = some (.bool dd) := by
  obtain ⟨sa, cc, h1, -⟩ := h.bk
  exact ⟨cell_blk h1 0, cell_blk h1 1, cell_blk h1 3, cell_blk h1 4⟩
theorem Sys.fr {w : World} {p g o q : Nat} {r s : List Int} {f : Fl} {c m : Nat} {x : List Int} {hf : Int} {dd : Bool} (h : Sys w p g o q r s f c m x hf dd) (i : Nat) : w.frozen? ⟨q, i, none⟩ = false := by
  obtain ⟨sa, cc, h1, -⟩ := h.bk
  exact free_blk h1 i
/-- Some of the blocks have turned, the bank's own not. -/
theorem Sys.turn {T : Nat → Prop} {w w' : World} {p g o q : Nat} {r s : List Int} {f f' : Fl} {c c' m : Nat} {x : List Int} {hf : Int} {dd : Bool} (h : Sys w p g o q r s f c m x hf dd) (k : Kept T w w') (hT : ∀ i, T i → i = p ∨ i = g ∨ i = o ∨ i = q) (hq : ¬ T q)
    (hf' : IsFl w' p g f') (ho' : IsOtp w' o (.pointer (some ⟨p, 0, none⟩)) r s c' m) : Sys w' p g o q r s f' c' m x hf dd := by
  obtain ⟨sa, cc, h1, h2, h3, h4⟩ := h.bk
  exact ⟨hf', ho', ⟨sa, cc, k.blk h1 hq, src_far h2 h4 k hT, h3, h4⟩, h.xs⟩
theorem Sys.below {w w' : World} {p g o q : Nat} {r s : List Int} {f : Fl} {c m : Nat} {x : List Int} {hf : Int} {dd : Bool} (h : Sys w p g o q r s f c m x hf dd) (k : Below w.heap.size w w') : Sys w' p g o q r s f c m x hf dd :=
  h.turn (T := fun _ => False) (Kept.of_below k) (fun _ e => e.elim) id (h.fl.below k) (h.ot.below k)
theorem Sys.drewN {w : World} {p g o q : Nat} {r s : List Int} {f : Fl} {c m : Nat} {x : List Int} {hf : Int} {dd : Bool} (h : Sys w p g o q r s f c m x hf dd) (n : Nat) : Sys (w.drewN n) p g o q r s f c m x hf dd :=
  h.turn (T := fun _ => False) ((Kept.refl _ w).drewN n) (fun _ e => e.elim) id (h.fl.drewN n) (h.ot.drewN n)
theorem Sys.lt {w : World} {p g o q : Nat} {r s : List Int} {f : Fl} {c m : Nat} {x : List Int} {hf : Int} {dd : Bool} (h : Sys w p g o q r s f c m x hf dd) : p < w.heap.size ∧ g < w.heap.size ∧ o < w.heap.size ∧ q < w.heap.size := by
  obtain ⟨sa, cc, h1, -⟩ := h.bk
  exact ⟨h.fl.lt.1, h.fl.lt.2, blk_lt h.ot.1, blk_lt h1⟩

/-- The bank keeps new bytes. -/
theorem Sys.save {w : World} {p g o q B : Nat} {r s : List Int} {f : Fl} {c m : Nat} {x y : List Int} {hf : Int} {dd : Bool} {v : Value} (h : Sys w p g o q r s f c m x hf dd) (ha : Apart p g o q) (hv : Own8 w B v y) (hB : p < B ∧ g < B ∧ o < B ∧ q < B) (hy : bytes y) (hl : y.length ≤ 4096) (t : Int) :
    Sys ((w.setCell ⟨q, 2, none⟩ v).setCell ⟨q, 3, none⟩ (.int .i64 t)) p g o q r s f c m y t dd ∧ Kept (fun i => i = q) w ((w.setCell ⟨q, 2, none⟩ v).setCell ⟨q, 3, none⟩ (.int .i64 t)) := by
  have hk : Kept (fun i => i = q) w ((w.setCell ⟨q, 2, none⟩ v).setCell ⟨q, 3, none⟩ (.int .i64 t)) := ((Kept.refl _ w).at _ _).at _ _
  have hne := ha.ne
  have ho := hv.kept hk (fun k e => by have := hv.lt k e; omega)
  obtain ⟨sa, cc, h1, h2, h3, h4⟩ := h.bk
  obtain ⟨sv, cv, rfl, hcv, -, hsv, hor⟩ := ho.form
  refine ⟨⟨h.fl.kept hk (by omega) (by omega), h.ot.kept hk (by omega), ⟨sv, cv, ?_, hsv, hcv, ?_⟩, hy, hl⟩, hk⟩
  · rw [blk_setCell (blk_setCell h1 _)]
    simp
  · intro b e
    rcases hor with ⟨rfl, -, -⟩ | ⟨k, rfl, hk1, -⟩
    · cases e
    · cases e
      exact .inr (by show k ≠ p ∧ k ≠ g ∧ k ≠ o ∧ k ≠ q; omega)
theorem Sys.c2 {w : World} {p g o q : Nat} {r s : List Int} {f : Fl} {c m : Nat} {x : List Int} {hf : Int} {dd : Bool} (h : Sys w p g o q r s f c m x hf dd) :
    ∃ sa cc, w.cell? ⟨q, 2, none⟩ = some (.slice sa x.length cc) ∧ Src w sa x.length x ∧ x.length ≤ cc ∧ far sa x.length p g o q := by
  obtain ⟨sa, cc, h1, h2⟩ := h.bk
  exact ⟨sa, cc, cell_blk h1 2, h2⟩

set_option maxRecDepth 100000 in
set_option maxHeartbeats 4000000 in
theorem write_any (p g o q : Nat) (r s : List Int) (f : Fl) (c m t : Nat) (x : List Int) (dd : Bool) (sx : Option Addr) (n cx : Nat) (y : List Int) (w : World) (h : Sys w p g o q r s f c m x (1 - (t : Int)) dd) (ha : Apart p g o q) (ht : t < 2) (hc : c < m) (hm : m ≤ 1048576) (hsb : bytes s)
    (hy : Src w sx n y) (hfy : far sx n p g o q) (hyb : bytes y) (hn : n ≤ 4096) (hnc : n ≤ cx) :
    Calls Tryd.prog 84 #[.pointer (some ⟨q, 0, none⟩), .slice sx n cx] w fun e w' => e = .returned (.int .i64 (sel (wB s f c t y).ok 0 8)) ∧
      Sys w' p g o q r s (wB s f c t y).f (wB s f c t y).c m (sel (wB s f c t y).ok y x) (sel (wB s f c t y).ok (t : Int) (1 - (t : Int))) dd ∧ Kept (fun i => i = p ∨ i = g ∨ i = o ∨ i = q) w w' := by
  have hyl := hy.len
  have hsl := h.ot.2.2
  obtain ⟨q0, q1, q3, q4⟩ := h.cs
  have hrec : ∀ u, Src u sx n y → Calls Tryd.prog 21 #[.agg (arr .u8 s), .int .i64 ((c : Int) + 1), .slice sx n cx] u fun e w' => ∃ sr cr, e = .returned (.tuple #[.slice sr (52 + n) cr, .int .i64 0]) ∧ Own8 w' u.heap.size (.slice sr (52 + n) cr) (recd s ((c : Int) + 1) y) ∧ Below u.heap.size u w' := by
    intro u hu
    refine (record_ok s ((c : Int) + 1) sx n cx y u hsl hsb (by omega) hn hu hyb).mono ?_
    rintro e w' ⟨v, rfl, ho, hbw⟩
    obtain ⟨sr, cr, rfl, -⟩ := ho.form
    rw [recd_len, hyl] at ho ⊢
    exact ⟨sr, cr, rfl, ho, hbw⟩
  have hRl : (recd s ((c : Int) + 1) y).length = 52 + n := by rw [recd_len, hyl]
  obtain ⟨E, hE⟩ : ∃ E, E = wE (secs (52 + n)) (32 * t : Nat) f := ⟨_, rfl⟩
  have hWB : wB s f c t y = wF E (8192 * t) (recd s ((c : Int) + 1) y) c := by rw [wB, hyl, ← hE]
  rw [hWB]
  have hN1 : ∀ i, i < secs (52 + n) ↔ 256 * i < 52 + n := by intro i; unfold secs; omega
  obtain ⟨N, hN⟩ : ∃ N, N = secs (52 + n) := ⟨_, rfl⟩
  rw [← hN] at hN1 hE
  generalize recd s ((c : Int) + 1) y = R at hrec hRl ⊢
  have HRL := Lib.hid hRl
  have HE := Lib.hid hE
  have HN1 := Lib.hid hN1
  have hN20 : N ≤ 20 := by rw [hN]; unfold secs; omega
  clear hRl hE hWB hN1 hN hyl hsl hsb
  have HREC := Lib.hid hrec
  have H := Lib.hid h
  have HY := Lib.hid hy
  have HFY := Lib.hid hfy
  have HA := Lib.hid ha
  clear hrec h hy hfy ha
  go_enter Tryd.func84, Tryd.ntmps84
  go_upto_region 1 with fail
  have HD := Lib.hid (H.out.drewN 1)
  have HYD : Hid (Src w.drew sx n y) := Lib.hid (HY.out.below (Below.drewN (Below.refl _ w) 1))
  have BD : Hid (Below w.heap.size w w.drew) := Lib.hid (Below.drewN (Below.refl _ w) 1)
  refine wp_region_held_drew (S := (fun w' => w'.cell? ⟨q, 1, none⟩ = some (.pointer (some ⟨o, 0, none⟩)))) (by kernel_rfl) (q1) (fun hHeld => ?_)
  refine wpAnyH_take (i := 0) (oi := (⟨some 11, _, _, _, _, none⟩ : Oper)) (v := .pointer (some ⟨q, 0, none⟩)) rfl (by kernel_rfl) (by kernel_rfl) (by kernel_rfl) (fun _ _ _ h => h) (Or.inl ⟨by rfl, ?hy101⟩) (by assumption) ?rest101
  case hy101 => (intro u hSu; (try dsimp only at hSu); go_simp; try (with_reducible rfl))
  (try simp only [Act.put, List.setIfInBounds_toArray, List.set_cons_zero, List.set_cons_succ])
  refine wpAnyH_take (i := 1) (oi := (⟨some 12, _, _, _, _, none⟩ : Oper)) (v := .pointer (some ⟨q, 0, none⟩)) rfl (by kernel_rfl) (by kernel_rfl) (by kernel_rfl) (fun _ _ _ h => h) (Or.inl ⟨by rfl, ?hy102⟩) (by assumption) ?rest102
  case hy102 => (intro u hSu; (try dsimp only at hSu); go_simp; try (with_reducible rfl))
  (try simp only [Act.put, List.setIfInBounds_toArray, List.set_cons_zero, List.set_cons_succ])
  refine wpAnyH_take (i := 2) (oi := (⟨some 13, _, _, _, _, none⟩ : Oper)) (v := .pointer (some ⟨q, 1, none⟩)) rfl (by kernel_rfl) (by kernel_rfl) (by kernel_rfl) (fun _ _ _ h => h) (Or.inl ⟨by rfl, ?hy103⟩) (by assumption) ?rest103
  case hy103 => (intro u hSu; (try dsimp only at hSu); go_simp; try (with_reducible rfl))
  (try simp only [Act.put, List.setIfInBounds_toArray, List.set_cons_zero, List.set_cons_succ])
  refine wpAnyH_take (i := 3) (oi := (⟨some 14, _, _, _, _, none⟩ : Oper)) (v := .pointer (some ⟨o, 0, none⟩)) rfl (by kernel_rfl) (by kernel_rfl) (by kernel_rfl) (fun _ _ _ h => h) (Or.inl ⟨by rfl, ?hy104⟩) (by assumption) ?rest104
  case hy104 => (intro u hSu; (try dsimp only at hSu); go_simp; try (with_reducible rfl))
  (try simp only [Act.put, List.setIfInBounds_toArray, List.set_cons_zero, List.set_cons_succ])
  refine wpAnyH_take (i := 5) (oi := (⟨some 16, _, _, _, _, none⟩ : Oper)) (v := .pointer (some ⟨q, 0, none⟩)) rfl (by kernel_rfl) (by kernel_rfl) (by kernel_rfl) (fun _ _ _ h => h) (Or.inl ⟨by rfl, ?hy105⟩) (by assumption) ?rest105
  case hy105 => (intro u hSu; (try dsimp only at hSu); go_simp; try (with_reducible rfl))
  (try simp only [Act.put, List.setIfInBounds_toArray, List.set_cons_zero, List.set_cons_succ])
  refine wpAnyH_take (i := 6) (oi := (⟨some 17, _, _, _, _, none⟩ : Oper)) (v := .pointer (some ⟨q, 0, none⟩)) rfl (by kernel_rfl) (by kernel_rfl) (by kernel_rfl) (fun _ _ _ h => h) (Or.inl ⟨by rfl, ?hy106⟩) (by assumption) ?rest106
  case hy106 => (intro u hSu; (try dsimp only at hSu); go_simp; try (with_reducible rfl))
  (try simp only [Act.put, List.setIfInBounds_toArray, List.set_cons_zero, List.set_cons_succ])
  refine wpAnyH_take (i := 7) (oi := (⟨some 18, _, _, _, _, none⟩ : Oper)) (v := .pointer (some ⟨q, 1, none⟩)) rfl (by kernel_rfl) (by kernel_rfl) (by kernel_rfl) (fun _ _ _ h => h) (Or.inl ⟨by rfl, ?hy107⟩) (by assumption) ?rest107
  case hy107 => (intro u hSu; (try dsimp only at hSu); go_simp; try (with_reducible rfl))
  (try simp only [Act.put, List.setIfInBounds_toArray, List.set_cons_zero, List.set_cons_succ])
  refine wpAnyH_take (i := 8) (oi := (⟨some 19, _, _, _, _, none⟩ : Oper)) (v := .pointer (some ⟨o, 0, none⟩)) rfl (by kernel_rfl) (by kernel_rfl) (by kernel_rfl) (fun _ _ _ h => h) (Or.inl ⟨by rfl, ?hy108⟩) (by assumption) ?rest108
  case hy108 => (intro u hSu; (try dsimp only at hSu); go_simp; try (with_reducible rfl))
  (try simp only [Act.put, List.setIfInBounds_toArray, List.set_cons_zero, List.set_cons_succ])
  refine wpAnyH_take (i := 11) (oi := (⟨some 22, _, _, _, _, none⟩ : Oper)) (v := .slice sx n cx) rfl (by kernel_rfl) (by kernel_rfl) (by kernel_rfl) (fun _ _ _ h => h) (Or.inl ⟨by rfl, ?hy109⟩) (by assumption) ?rest109
  case hy109 => (intro u hSu; (try dsimp only at hSu); go_simp; try (with_reducible rfl))
  (try simp only [Act.put, List.setIfInBounds_toArray, List.set_cons_zero, List.set_cons_succ])
  refine wpAnyH_ready (rs := [4]) (by kernel_rfl) (by simp) ?_
  refine AllReadyH.cons (o := (⟨some 15, _, _, _, _, none⟩ : Oper)) rfl (fun K hK => ?_) AllReadyH.nil
  go_simp
  go_at_call 114
  refine (osecret_any o _ r s c m _ HD.out.ot).mono ?_
  rintro e w2 ⟨rfl, hb2⟩
  have H2 := Lib.hid (HD.out.below hb2)
  have Y2 := Lib.hid (HYD.out.below hb2)
  have B2 := Lib.hid (BD.out.trans (hb2.mono BD.out.size))
  clear hb2
  (try dsimp only)
  refine hK.out _ _ (H2.out.cs.2.1) (fun hHeld => ?_)
  clear hK K
  (try simp only [Act.put, List.setIfInBounds_toArray, List.set_cons_zero, List.set_cons_succ])
  refine wpAnyH_ready (rs := [9]) (by kernel_rfl) (by simp) ?_
  refine AllReadyH.cons (o := (⟨some 20, _, _, _, _, none⟩ : Oper)) rfl (fun K hK => ?_) AllReadyH.nil
  go_simp
  go_at_call 67
  refine (ocount_any o _ r s c m _ H2.out.ot).mono ?_
  rintro e w' ⟨rfl, rfl⟩
  (try dsimp only)
  refine hK.out _ _ (H2.out.cs.2.1) (fun hHeld => ?_)
  clear hK K
  (try simp only [Act.put, List.setIfInBounds_toArray, List.set_cons_zero, List.set_cons_succ])
  refine wpAnyH_take (i := 10) (oi := (⟨some 21, _, _, _, _, none⟩ : Oper)) (v := .int .i64 ((c : Int) + 1)) rfl (by kernel_rfl) (by kernel_rfl) (by kernel_rfl) (fun _ _ _ h => h) (Or.inl ⟨by rfl, ?hy110⟩) (by assumption) ?rest110
  case hy110 => (intro u hSu; (try dsimp only at hSu); go_simp; exact IntWalk.i64_in _ (by omega))
  (try simp only [Act.put, List.setIfInBounds_toArray, List.set_cons_zero, List.set_cons_succ])
  refine wpAnyH_ready (rs := [12]) (by kernel_rfl) (by simp) ?_
  refine AllReadyH.cons (o := (⟨some 23, _, _, _, _, none⟩ : Oper)) rfl (fun K hK => ?_) AllReadyH.nil
  go_simp
  go_at_call 21
  refine (HREC.out _ Y2.out).mono ?_
  rintro e w3 ⟨sr, cr, rfl, ho3, hb3⟩
  have H3 := Lib.hid (H2.out.below hb3)
  have Y3 := Lib.hid (Y2.out.below hb3)
  have B3 := Lib.hid (B2.out.trans (hb3.mono B2.out.size))
  have O3 := Lib.hid ho3
  have Z3 := Lib.hid (Nat.le_trans B2.out.size (Nat.le_refl _))
  clear ho3 hb3
  (try dsimp only)
  refine hK.out _ _ (H3.out.cs.2.1) (fun hHeld => ?_)
  clear hK K
  (try simp only [Act.put, List.setIfInBounds_toArray, List.set_cons_zero, List.set_cons_succ])
  refine wpAnyH_take (i := 13) (oi := (⟨some 10, _, _, _, _, none⟩ : Oper)) (v := .tuple #[.slice sr (52 + n) cr, .int .i64 0]) rfl (by kernel_rfl) (by kernel_rfl) (by kernel_rfl) (fun _ _ _ h => h) (Or.inl ⟨by rfl, ?hy111⟩) (by assumption) ?rest111
  case hy111 => (intro u hSu; (try dsimp only at hSu); go_simp; try (with_reducible rfl))
  (try simp only [Act.put, List.setIfInBounds_toArray, List.set_cons_zero, List.set_cons_succ])
  refine wpAnyH_take (i := 14) (oi := (⟨some 24, _, _, _, _, none⟩ : Oper)) (v := .slice sr (52 + n) cr) rfl (by kernel_rfl) (by kernel_rfl) (by kernel_rfl) (fun _ _ _ h => h) (Or.inl ⟨by rfl, ?hy112⟩) (by assumption) ?rest112
  case hy112 => (intro u hSu; (try dsimp only at hSu); go_simp; try (with_reducible rfl))
  (try simp only [Act.put, List.setIfInBounds_toArray, List.set_cons_zero, List.set_cons_succ])
  refine wpAnyH_take (i := 15) (oi := (⟨some 25, _, _, _, _, none⟩ : Oper)) (v := .int .i64 0) rfl (by kernel_rfl) (by kernel_rfl) (by kernel_rfl) (fun _ _ _ h => h) (Or.inl ⟨by rfl, ?hy113⟩) (by assumption) ?rest113
  case hy113 => (intro u hSu; (try dsimp only at hSu); go_simp; try (with_reducible rfl))
  (try simp only [Act.put, List.setIfInBounds_toArray, List.set_cons_zero, List.set_cons_succ])
  refine wpAnyH_take (i := 16) (oi := (⟨some 5, _, _, _, _, none⟩ : Oper)) (v := .slice sr (52 + n) cr) rfl (by kernel_rfl) (by kernel_rfl) (by kernel_rfl) (fun _ _ _ h => h) (Or.inl ⟨by rfl, ?hy114⟩) (by assumption) ?rest114
  case hy114 => (intro u hSu; (try dsimp only at hSu); go_simp; try (with_reducible rfl))
  (try simp only [Act.put, List.setIfInBounds_toArray, List.set_cons_zero, List.set_cons_succ])
  refine wpAnyH_take (i := 17) (oi := (⟨some 6, _, _, _, _, none⟩ : Oper)) (v := .int .i64 0) rfl (by kernel_rfl) (by kernel_rfl) (by kernel_rfl) (fun _ _ _ h => h) (Or.inl ⟨by rfl, ?hy115⟩) (by assumption) ?rest115
  case hy115 => (intro u hSu; (try dsimp only at hSu); go_simp; try (with_reducible rfl))
  (try simp only [Act.put, List.setIfInBounds_toArray, List.set_cons_zero, List.set_cons_succ])
  refine wpAnyH_done (by kernel_rfl) ?_ _
  (try simp only [Exit.then])
  clear HD HYD BD HREC
  have HO3 : Hid (∀ k, (Value.slice sr (52 + n) cr).ownBlock = some k → k ≠ p ∧ k ≠ g ∧ k ≠ o ∧ k ≠ q) := Lib.hid (fun k e => by
    have h1 := O3.out.lt k e
    have h2 := H2.out.lt
    omega)
  have HZ2 : Hid (w.heap.size ≤ w2.heap.size) := Lib.hid B2.out.size
  clear H2 Y2 B2
  clear q0 q1 q3 q4 hHeld
  obtain ⟨d0, d1, d3, d4⟩ := H3.out.cs
  have e0 : (1 : Int) - (1 - (t : Int)) = t := by omega
  have e1 : ((t : Int) * 32 * 256) = ((8192 * t : Nat) : Int) := by omega
  go_wp2_with fail
  clear d0 d1 d3 d4
  go_loopw [9] (fun v wr => ∃ i : Nat, i ≤ N ∧ v = .int .i64 ((256 * i : Nat) : Int) ∧ ∃ fi : Fl, Sys wr p g o q r s fi c m x (1 - (t : Int)) dd ∧ wE (N - i) ((32 * t + i : Nat) : Int) fi = E ∧ Own8 wr w.heap.size (.slice sr (52 + n) cr) R ∧ Src wr sx n y ∧ Kept (fun i => i = p ∨ i = g ∨ i = o ∨ i = q) w wr) (fun v _ => 6000 - (intOf v).toNat)
  case atStart => exact ⟨0, Nat.zero_le _, by simp, f, H3.out, by rw [Nat.sub_zero, Nat.add_zero]; exact HE.out.symm, O3.out.mono HZ2.out, Y3.out, Kept.of_below B3.out⟩
  case round =>
    obtain ⟨i, hi, rfl, fi, hs, he, ho, hy, hk⟩ := hrel
    by_cases hlt : i < N
    · have hlt2 : 256 * i < 52 + n := (HN1.out i).1 hlt
      obtain ⟨d0, d1, d3, d4⟩ := hs.cs
      have e2 : (8192 * (t : Int) + 256 * (i : Int)) / 256 = ((32 * t + i : Nat) : Int) := by omega
      have hlt3 : 256 * (i : Int) < 52 + (n : Int) := by omega
      rw [show N - i = (N - (i + 1)) + 1 by omega, wE] at he
      have her := fun u h => erase_any p g fi ((32 * t + i : Nat) : Int) u h
      have HS := Lib.hid hs
      have HO := Lib.hid ho
      have HYi := Lib.hid hy
      have HK := Lib.hid hk
      have HKT : Hid (∀ x, (x = p ∨ x = g) → x = p ∨ x = g ∨ x = o ∨ x = q) := Lib.hid (fun x h => by omega)
      have HNQ : Hid (¬ (q = p ∨ q = g) ∧ ¬ (o = p ∨ o = g)) := Lib.hid (by have := HA.out.ne; omega)
      by_cases hok : fi.eraseOk ((32 * t + i : Nat) : Int) = true
      · rw [if_pos hok] at he
        rw [hok] at her
        have HER := Lib.hid her
        have HEi := Lib.hid he
        clear her hs he ho hy hk hok
        go_wp2_with (go_at_call 93; rw [e2]; refine (HER.out _ HS.out.fl).mono ?_; rintro e w4 ⟨rfl, hf4, hk4, -⟩; have HS4 := Lib.hid (HS.out.turn hk4 HKT.out HNQ.out.1 hf4 (HS.out.ot.kept hk4 HNQ.out.2)); have HO4 := Lib.hid (HO.out.kept hk4 (fun k e => by have := HO3.out k e; omega)); have HY4 := Lib.hid (src_far HYi.out HFY.out hk4 HKT.out); have HK4 := Lib.hid (HK.out.trans (hk4.mono (fun x _ h => HKT.out x h))); clear hf4 hk4)
        go_roundw
        case rel => exact ⟨i + 1, by omega, by go_num, _, HS4.out, by rw [show ((32 * t + (i + 1) : Nat) : Int) = ((32 * t + i : Nat) : Int) + 1 by omega]; exact HEi.out, HO4.out, HY4.out, HK4.out⟩
        case measure => simp [intOf]; omega
      · rw [if_neg hok] at he
        rw [Bool.not_eq_true] at hok
        rw [hok] at her
        have HER := Lib.hid her
        have HEi := Lib.hid he
        clear her hs he ho hy hk hok
        go_wp2_with (go_at_call 93; rw [e2]; refine (HER.out _ HS.out.fl).mono ?_; rintro e w4 ⟨rfl, hf4, hk4, -⟩; have HS4 := Lib.hid (HS.out.turn hk4 HKT.out HNQ.out.1 hf4 (HS.out.ot.kept hk4 HNQ.out.2)); have HK4 := Lib.hid (HK.out.trans (hk4.mono (fun x _ h => HKT.out x h))); clear hf4 hk4)
        go_ret
        have he := HEi.out
        subst he
        exact ⟨rfl, HS4.out, HK4.out⟩
    · obtain rfl : N = i := by omega
      have hge : ¬ 256 * (N : Int) < 52 + (n : Int) := by
        have := mt (HN1.out N).2 (Nat.lt_irrefl N)
        omega
      rw [Nat.sub_self, wE] at he
      subst he
      have hrl := HRL.out
      have HS := Lib.hid hs
      have HO := Lib.hid ho
      have HYi := Lib.hid hy
      have HK := Lib.hid hk
      obtain ⟨d0, d1, d3, d4⟩ := hs.cs
      clear hs ho hy hk HE
      obtain ⟨hs1, hs2, hs3⟩ := own8_src HO.out
      have hsn : sr = none → 52 + n = 0 ∧ cr = 0 := fun e => by
        obtain ⟨_, e1, -⟩ := (own8_src HO.out).1.cell 0 (by omega)
        rw [e] at e1
        cases e1
      have hel : elseW sr (52 + n) p g := fun a e => by
        subst e
        have := HO3.out a.block rfl
        exact .inr (by omega)
      have hpr := fun u (h : IsFl u p g fi) (h2 : Src u sr (52 + n) R) => prog_any p g fi ((8192 * t : Nat) : Int) sr (52 + n) cr R u h h2 hel hs3 hsn
      have HS1 := Lib.hid hs1
      have e5 : ((8192 * t : Nat) : Int) = 8192 * (t : Int) := by omega
      have HKT : Hid (∀ x, (x = p ∨ x = g) → x = p ∨ x = g ∨ x = o ∨ x = q) := Lib.hid (fun x h => by omega)
      have HKO : Hid (∀ x, (x = p ∨ x = o) → x = p ∨ x = g ∨ x = o ∨ x = q) := Lib.hid (fun x h => by omega)
      have HNQ : Hid (¬ (q = p ∨ q = g) ∧ ¬ (o = p ∨ o = g) ∧ ¬ (q = p ∨ q = o) ∧ ¬ (g = p ∨ g = o)) := Lib.hid (by have := HA.out.ne; omega)
      cases hpo : fi.progOk ((8192 * t : Nat) : Int) ((52 + n : Nat) : Int) with
      | false =>
        have HW : Hid (wF (fi, true) (8192 * t) R c = ⟨fi.prog ((8192 * t : Nat) : Int) R, c, false⟩) := Lib.hid (by unfold wF; simp only [if_true]; rw [hrl, hpo]; rfl)
        rw [hpo, e5] at hpr
        rw [e5] at HW
        have HPR := Lib.hid hpr
        clear hpr hs1 hs2 hs3 hsn hel hpo hrl e5
        go_wp2_with (go_at_call 94; refine (HPR.out _ HS.out.fl HS1.out).mono ?_; rintro e w4 ⟨rfl, hf4, hk4, -⟩; have HS4 := Lib.hid (HS.out.turn hk4 HKT.out HNQ.out.1 hf4 (HS.out.ot.kept hk4 HNQ.out.2.1)); have HK4 := Lib.hid (HK.out.trans (hk4.mono (fun x _ h => HKT.out x h))); clear hf4 hk4)
        go_ret
        rw [HW.out]
        exact ⟨rfl, HS4.out, HK4.out⟩
      | true =>
        have hcm : ((c : Int) == (m : Int)) = false := by rw [beq_eq_false_iff_ne]; omega
        have HCM := Lib.hid hcm
        cases hto : (fi.prog ((8192 * t : Nat) : Int) R).turnOk with
        | false =>
          have HW : Hid (wF (fi, true) (8192 * t) R c = ⟨(fi.prog ((8192 * t : Nat) : Int) R).turn, c, false⟩) := Lib.hid (by unfold wF; simp only [if_true]; rw [hrl, hpo]; simp only [if_true]; rw [hto]; rfl)
          have hst := fun u h1 h2 => ostep_no o p g (fi.prog ((8192 * t : Nat) : Int) R) r s c m u h1 h2 (by have := HA.out.ne; omega) HCM.out hto
          rw [hpo, e5] at hpr
          rw [e5] at HW hst
          have HPR := Lib.hid hpr
          have HST := Lib.hid hst
          clear hpr hs1 hs2 hs3 hsn hel hpo hrl e5 hto hst hcm
          go_wp2_with (first | (go_at_call 94; refine (HPR.out _ HS.out.fl HS1.out).mono ?_; rintro e w4 ⟨rfl, hf4, hk4, -⟩; have HS4 := Lib.hid (HS.out.turn hk4 HKT.out HNQ.out.1 hf4 (HS.out.ot.kept hk4 HNQ.out.2.1)); have HK4 := Lib.hid (HK.out.trans (hk4.mono (fun x _ h => HKT.out x h))); obtain ⟨c0, c1, c3, c4⟩ := HS4.out.cs; clear hf4 hk4) | (go_at_call 113; refine (HST.out _ HS4.out.ot HS4.out.fl).mono ?_; rintro e w5 ⟨rfl, hf5, ho5, hk5, -⟩; have HS5 := Lib.hid (HS4.out.turn hk5 HKO.out HNQ.out.2.2.1 hf5 ho5); have HK5 := Lib.hid (HK4.out.trans (hk5.mono (fun x _ h => HKO.out x h))); clear hf5 ho5 hk5))
          go_ret
          rw [HW.out]
          exact ⟨rfl, HS5.out, HK5.out⟩
        | true =>
          have HW : Hid (wF (fi, true) (8192 * t) R c = ⟨(fi.prog ((8192 * t : Nat) : Int) R).turn, c + 1, true⟩) := Lib.hid (by unfold wF; simp only [if_true]; rw [hrl, hpo]; simp only [if_true]; rw [hto]; rfl)
          have hst := fun u h1 h2 => ostep_ok o p g (fi.prog ((8192 * t : Nat) : Int) R) r s c m u h1 h2 (by have := HA.out.ne; omega) (by have := HA.out.ne; omega) HCM.out hto (by omega)
          have hcl := fun u h => clone_all sx n cx y u h (by omega)
          rw [hpo, e5] at hpr
          rw [e5] at HW hst
          have HPR := Lib.hid hpr
          have HST := Lib.hid hst
          have HCL := Lib.hid hcl
          have HYB := Lib.hid hyb
          have hcc : ((c : Int) + 1) = ((c + 1 : Nat) : Int) := by omega
          have HCC := Lib.hid hcc
          have HYL : Hid (y.length ≤ 4096) := Lib.hid (by rw [HYi.out.len]; exact hn)
          clear hpr hs1 hs2 hs3 hsn hel hpo hrl e5 hto hst hcm hcl hyb hcc
          go_upto_region 13 with (first | (go_at_call 94; refine (HPR.out _ HS.out.fl HS1.out).mono ?_; rintro e w4 ⟨rfl, hf4, hk4, -⟩; have HS4 := Lib.hid (HS.out.turn hk4 HKT.out HNQ.out.1 hf4 (HS.out.ot.kept hk4 HNQ.out.2.1)); have HY4 := Lib.hid (src_far HYi.out HFY.out hk4 HKT.out); have HK4 := Lib.hid (HK.out.trans (hk4.mono (fun x _ h => HKT.out x h))); obtain ⟨c0, c1, c3, c4⟩ := HS4.out.cs; clear hf4 hk4) | (go_at_call 113; refine (HST.out _ HS4.out.ot HS4.out.fl).mono ?_; rintro e w5 ⟨rfl, hf5, ho5, hk5, -⟩; rw [HCC.out] at ho5; have HS5 := Lib.hid (HS4.out.turn hk5 HKO.out HNQ.out.2.2.1 hf5 ho5); have HY5 := Lib.hid (src_far HY4.out HFY.out hk5 HKO.out); have HK5 := Lib.hid (HK4.out.trans (hk5.mono (fun x _ h => HKO.out x h))); clear hf5 ho5 hk5))
          clear c0 c1 c3 c4 d0 d1 d3 d4
          go_wp2_with (go_at_call 82; refine (HCL.out _ HY5.out).mono ?_; rintro e w6 ⟨v6, rfl, ho6, hb6⟩; obtain ⟨sv6, cv6, e6, -⟩ := ho6.form; subst e6; have HS6 := Lib.hid (HS5.out.below hb6); obtain ⟨fin1, fin2⟩ := HS6.out.save HA.out ho6 HS5.out.lt HYB.out HYL.out (t : Int); have FIN := Lib.hid (And.intro fin1 ((HK5.out.trans (Kept.of_below hb6)).trans (fin2.mono (fun x _ h => (.inr (.inr (.inr h)) : x = p ∨ x = g ∨ x = o ∨ x = q))))); obtain ⟨sa6, cc6, k2, -⟩ := HS6.out.c2; obtain ⟨k0, k1, k3, k4⟩ := HS6.out.cs; have k5 := HS6.out.fr 2; have k6 := HS6.out.fr 3; clear fin1 fin2 ho6 hb6)
          go_ret
          rw [HW.out]
          exact ⟨rfl, FIN.out⟩
end Go.Proofs.YtoljnogpegemjaaDoor.Bk
namespace Go.Proofs.YtoljnogpegemjaaDoor.Bk
open Go.RowKit Wr Sl Sm
set_option linter.unusedSimpArgs false
set_option linter.unusedVariables false

theorem Sys.flag {w : World} {p g o q : Nat} {r s : List Int} {f : Fl} {c m : Nat} {x : List Int} {hf : Int} {dd : Bool} (h : Sys w p g o q r s f c m x hf dd) (ha : Apart p g o q) (d : Bool) :
    Sys (w.setCell ⟨q, 4, none⟩ (.bool d)) p g o q r s f c m x hf d ∧ Kept (fun i => i = q) w (w.setCell ⟨q, 4, none⟩ (.bool d)) := by
  have hk : Kept (fun i => i = q) w (w.setCell ⟨q, 4, none⟩ (.bool d)) := (Kept.refl _ w).at _ _
  have hne := ha.ne
  obtain ⟨sa, cc, h1, h2, h3, h4⟩ := h.bk
  refine ⟨⟨h.fl.kept hk (by omega) (by omega), h.ot.kept hk (by omega), ⟨sa, cc, ?_, src_far h2 h4 hk (by rintro i rfl; omega), h3, h4⟩, h.xs⟩, hk⟩
  rw [blk_setCell h1]
  simp
theorem load_any (p g o q : Nat) (r s : List Int) (f : Fl) (c m : Nat) (x : List Int) (hf : Int) (dd : Bool) (w : World) (h : Sys w p g o q r s f c m x hf dd) :
    Calls Tryd.prog 33 #[.pointer (some ⟨q, 0, none⟩)] w fun e w' => ∃ v, e = .returned v ∧ Own8 w' w.heap.size v x ∧ Below w.heap.size w w' := by
  obtain ⟨sa, cc, c2, hs, hc, -⟩ := h.c2
  have hxl := h.xs.2
  have hcl := clone_all sa x.length cc x w hs (by omega)
  have HCL := Lib.hid hcl
  clear h hs hcl
  generalize x.length = xl at HCL c2 hxl hc
  go_enter Tryd.func33, Tryd.ntmps33
  go_wp2_with (go_at_call 82; refine HCL.out.mono ?_; rintro e w1 ⟨v1, rfl, ho1, hb1⟩)
  go_ret
  exact ⟨_, rfl, ho1, hb1⟩

theorem save_long (q : Nat) (sx : Option Addr) (n cx : Nat) (w : World) (hn : 4096 < n) :
    Calls Tryd.prog 31 #[.pointer (some ⟨q, 0, none⟩), .slice sx n cx] w fun e w' => e = .returned (.int .i64 3) ∧ w = w' := by
  go_enter Tryd.func31, Tryd.ntmps31
  go_wp2
  go_ret
  exact ⟨rfl, rfl⟩
theorem save_off (p g o q : Nat) (r s : List Int) (f : Fl) (c m : Nat) (x : List Int) (hf : Int) (dd : Bool) (sx : Option Addr) (n cx : Nat) (w : World) (h : Sys w p g o q r s f c m x hf dd) (hn : n ≤ 4096) (hd : dd = true ∨ (dd = false ∧ f.dead = true)) :
    Calls Tryd.prog 31 #[.pointer (some ⟨q, 0, none⟩), .slice sx n cx] w fun e w' => e = .returned (.int .i64 8) ∧ w = w' := by
  obtain ⟨c0, c1, c3, c4⟩ := h.cs
  have hde := dead_any p g f w h.fl
  rcases hd with rfl | ⟨rfl, h2⟩
  · clear h hde
    go_enter Tryd.func31, Tryd.ntmps31
    go_wp2
    go_ret
    exact ⟨rfl, rfl⟩
  · rw [h2] at hde
    have HDE := Lib.hid hde
    clear h hde h2
    go_enter Tryd.func31, Tryd.ntmps31
    go_wp2_with (go_at_call 72; refine HDE.out.mono ?_; rintro e w' ⟨rfl, rfl⟩)
    go_ret
    exact ⟨rfl, rfl⟩

set_option maxRecDepth 100000 in
set_option maxHeartbeats 2000000 in
theorem save_full (p g o q : Nat) (r s : List Int) (f : Fl) (c m : Nat) (x : List Int) (hf : Int) (sx : Option Addr) (n cx : Nat) (w : World) (h : Sys w p g o q r s f c m x hf false) (hn : n ≤ 4096) (hd : f.dead = false) (hcm : c = m) :
    Calls Tryd.prog 31 #[.pointer (some ⟨q, 0, none⟩), .slice sx n cx] w fun e w' => e = .returned (.int .i64 19) ∧ ∃ n, w' = w.drewN n := by
  subst hcm
  obtain ⟨c0, c1, c3, c4⟩ := h.cs
  have hde := dead_any p g f w h.fl
  rw [hd] at hde
  have HDE := Lib.hid hde
  have HD := Lib.hid (h.drewN 1)
  clear h hde hd
  go_enter Tryd.func31, Tryd.ntmps31
  go_upto_region 5 with (go_at_call 72; refine HDE.out.mono ?_; rintro e w' ⟨rfl, rfl⟩)
  refine wp_region_held_drew (S := (fun w' => w' = w.drewN 1)) (by kernel_rfl) (rfl) (fun hHeld => ?_)
  refine wpAnyH_take (i := 0) (oi := (⟨some 23, _, _, _, _, none⟩ : Oper)) (v := .pointer (some ⟨q, 0, none⟩)) rfl (by kernel_rfl) (by kernel_rfl) (by kernel_rfl) (fun _ _ _ h => h) (Or.inl ⟨by rfl, ?hy101⟩) (by assumption) ?rest101
  case hy101 => (intro u hSu; (try dsimp only at hSu); go_simp; try (with_reducible rfl))
  (try simp only [Act.put, List.setIfInBounds_toArray, List.set_cons_zero, List.set_cons_succ])
  refine wpAnyH_take (i := 1) (oi := (⟨some 24, _, _, _, _, none⟩ : Oper)) (v := .pointer (some ⟨q, 0, none⟩)) rfl (by kernel_rfl) (by kernel_rfl) (by kernel_rfl) (fun _ _ _ h => h) (Or.inl ⟨by rfl, ?hy102⟩) (by assumption) ?rest102
  case hy102 => (intro u hSu; (try dsimp only at hSu); go_simp; try (with_reducible rfl))
  (try simp only [Act.put, List.setIfInBounds_toArray, List.set_cons_zero, List.set_cons_succ])
  refine wpAnyH_take (i := 2) (oi := (⟨some 25, _, _, _, _, none⟩ : Oper)) (v := .pointer (some ⟨q, 1, none⟩)) rfl (by kernel_rfl) (by kernel_rfl) (by kernel_rfl) (fun _ _ _ h => h) (Or.inl ⟨by rfl, ?hy103⟩) (by assumption) ?rest103
  case hy103 => (intro u hSu; (try dsimp only at hSu); go_simp; try (with_reducible rfl))
  (try simp only [Act.put, List.setIfInBounds_toArray, List.set_cons_zero, List.set_cons_succ])
  refine wpAnyH_take (i := 3) (oi := (⟨some 26, _, _, _, _, none⟩ : Oper)) (v := .pointer (some ⟨o, 0, none⟩)) rfl (by kernel_rfl) (by kernel_rfl) (by kernel_rfl) (fun _ _ _ h => h) (Or.inl ⟨by rfl, ?hy104⟩) (by assumption) ?rest104
  case hy104 => (intro u hSu; (try dsimp only at hSu); subst hSu; have q1 := HD.out.cs.2.1; go_simp; try (with_reducible rfl))
  (try simp only [Act.put, List.setIfInBounds_toArray, List.set_cons_zero, List.set_cons_succ])
  refine wpAnyH_take (i := 5) (oi := (⟨some 28, _, _, _, _, none⟩ : Oper)) (v := .pointer (some ⟨q, 0, none⟩)) rfl (by kernel_rfl) (by kernel_rfl) (by kernel_rfl) (fun _ _ _ h => h) (Or.inl ⟨by rfl, ?hy105⟩) (by assumption) ?rest105
  case hy105 => (intro u hSu; (try dsimp only at hSu); go_simp; try (with_reducible rfl))
  (try simp only [Act.put, List.setIfInBounds_toArray, List.set_cons_zero, List.set_cons_succ])
  refine wpAnyH_take (i := 6) (oi := (⟨some 29, _, _, _, _, none⟩ : Oper)) (v := .pointer (some ⟨q, 0, none⟩)) rfl (by kernel_rfl) (by kernel_rfl) (by kernel_rfl) (fun _ _ _ h => h) (Or.inl ⟨by rfl, ?hy106⟩) (by assumption) ?rest106
  case hy106 => (intro u hSu; (try dsimp only at hSu); go_simp; try (with_reducible rfl))
  (try simp only [Act.put, List.setIfInBounds_toArray, List.set_cons_zero, List.set_cons_succ])
  refine wpAnyH_take (i := 7) (oi := (⟨some 30, _, _, _, _, none⟩ : Oper)) (v := .pointer (some ⟨q, 1, none⟩)) rfl (by kernel_rfl) (by kernel_rfl) (by kernel_rfl) (fun _ _ _ h => h) (Or.inl ⟨by rfl, ?hy107⟩) (by assumption) ?rest107
  case hy107 => (intro u hSu; (try dsimp only at hSu); go_simp; try (with_reducible rfl))
  (try simp only [Act.put, List.setIfInBounds_toArray, List.set_cons_zero, List.set_cons_succ])
  refine wpAnyH_take (i := 8) (oi := (⟨some 31, _, _, _, _, none⟩ : Oper)) (v := .pointer (some ⟨o, 0, none⟩)) rfl (by kernel_rfl) (by kernel_rfl) (by kernel_rfl) (fun _ _ _ h => h) (Or.inl ⟨by rfl, ?hy108⟩) (by assumption) ?rest108
  case hy108 => (intro u hSu; (try dsimp only at hSu); subst hSu; have q1 := HD.out.cs.2.1; go_simp; try (with_reducible rfl))
  (try simp only [Act.put, List.setIfInBounds_toArray, List.set_cons_zero, List.set_cons_succ])
  refine wpAnyH_ready (rs := [4]) (by kernel_rfl) (by simp) ?_
  refine AllReadyH.cons (o := (⟨some 27, _, _, _, _, none⟩ : Oper)) rfl (fun K hK => ?_) AllReadyH.nil
  go_simp
  go_at_call 67
  refine (ocount_any o _ r s c c _ HD.out.ot).mono ?_
  rintro e w' ⟨rfl, rfl⟩
  (try dsimp only)
  refine hK.out _ _ (rfl) (fun hHeld => ?_)
  clear hK K
  (try simp only [Act.put, List.setIfInBounds_toArray, List.set_cons_zero, List.set_cons_succ])
  refine wpAnyH_ready (rs := [9]) (by kernel_rfl) (by simp) ?_
  refine AllReadyH.cons (o := (⟨some 32, _, _, _, _, none⟩ : Oper)) rfl (fun K hK => ?_) AllReadyH.nil
  go_simp
  go_at_call 83
  refine (omost_any o _ r s c c _ HD.out.ot).mono ?_
  rintro e w' ⟨rfl, rfl⟩
  (try dsimp only)
  refine hK.out _ _ (rfl) (fun hHeld => ?_)
  clear hK K
  (try simp only [Act.put, List.setIfInBounds_toArray, List.set_cons_zero, List.set_cons_succ])
  refine wpAnyH_take (i := 10) (oi := (⟨some 33, _, _, _, _, none⟩ : Oper)) (v := .bool true) rfl (by kernel_rfl) (by kernel_rfl) (by kernel_rfl) (fun _ _ _ h => h) (Or.inl ⟨by rfl, ?hy109⟩) (by assumption) ?rest109
  case hy109 => (intro u hSu; (try dsimp only at hSu); go_simp; try (with_reducible rfl))
  (try simp only [Act.put, List.setIfInBounds_toArray, List.set_cons_zero, List.set_cons_succ])
  refine wpAnyH_take (i := 11) (oi := (⟨some 22, _, _, _, _, none⟩ : Oper)) (v := .bool true) rfl (by kernel_rfl) (by kernel_rfl) (by kernel_rfl) (fun _ _ _ h => h) (Or.inl ⟨by rfl, ?hy110⟩) (by assumption) ?rest110
  case hy110 => (intro u hSu; (try dsimp only at hSu); go_simp; try (with_reducible rfl))
  (try simp only [Act.put, List.setIfInBounds_toArray, List.set_cons_zero, List.set_cons_succ])
  refine wpAnyH_done (by kernel_rfl) ?_ _
  (try simp only [Exit.then])
  clear hHeld
  go_wp2_with fail
  go_ret
  exact ⟨rfl, 1, rfl⟩

/-- What a save answers and leaves, where the counter steps on. -/
theorem save_go (p g o q : Nat) (r s : List Int) (f : Fl) (c m t : Nat) (x : List Int) (sx : Option Addr) (n cx : Nat) (y : List Int) (w : World) (h : Sys w p g o q r s f c m x (1 - (t : Int)) false) (ha : Apart p g o q) (ht : t < 2) (hc : c < m) (hm : m ≤ 1048576) (hsb : bytes s)
    (hy : Src w sx n y) (hfy : far sx n p g o q) (hyb : bytes y) (hn : n ≤ 4096) (hnc : n ≤ cx) (hd : f.dead = false) :
    Calls Tryd.prog 31 #[.pointer (some ⟨q, 0, none⟩), .slice sx n cx] w fun e w' => e = .returned (.int .i64 (sel (wB s f c t y).ok 0 8)) ∧
      Sys w' p g o q r s (wB s f c t y).f (wB s f c t y).c m (sel (wB s f c t y).ok y x) (sel (wB s f c t y).ok (t : Int) (1 - (t : Int))) (!(wB s f c t y).ok) ∧ Kept (fun i => i = p ∨ i = g ∨ i = o ∨ i = q) w w' := by
  obtain ⟨c0, c1, c3, c4⟩ := h.cs
  have hde := dead_any p g f w h.fl
  rw [hd] at hde
  have HDE := Lib.hid hde
  have HD := Lib.hid (h.drewN 1)
  have hwr := write_any p g o q r s f c m t x false sx n cx y (w.drewN 1) (h.drewN 1) ha ht hc hm hsb (hy.below (Below.drewN (Below.refl _ w) 1)) hfy hyb hn hnc
  have hcm : ((c : Int) == (m : Int)) = false := by rw [beq_eq_false_iff_ne]; omega
  generalize wB s f c t y = R at hwr ⊢
  obtain ⟨f', c', ok⟩ := R
  have HWR := Lib.hid hwr
  have HA := Lib.hid ha
  have HN1 : Hid (Kept (fun i => i = p ∨ i = g ∨ i = o ∨ i = q) w (w.drewN 1)) := Lib.hid ((Kept.refl _ w).drewN 1)
  clear h hde hd hy hfy hyb hwr hsb ha
  cases ok with
  | true =>
    go_enter Tryd.func31, Tryd.ntmps31
    go_upto_region 5 with (go_at_call 72; refine HDE.out.mono ?_; rintro e w' ⟨rfl, rfl⟩)
    refine wp_region_held_drew (S := (fun w' => w' = w.drewN 1)) (by kernel_rfl) (rfl) (fun hHeld => ?_)
    refine wpAnyH_take (i := 0) (oi := (⟨some 23, _, _, _, _, none⟩ : Oper)) (v := .pointer (some ⟨q, 0, none⟩)) rfl (by kernel_rfl) (by kernel_rfl) (by kernel_rfl) (fun _ _ _ h => h) (Or.inl ⟨by rfl, ?hy111⟩) (by assumption) ?rest111
    case hy111 => (intro u hSu; (try dsimp only at hSu); go_simp; try (with_reducible rfl))
    (try simp only [Act.put, List.setIfInBounds_toArray, List.set_cons_zero, List.set_cons_succ])
    refine wpAnyH_take (i := 1) (oi := (⟨some 24, _, _, _, _, none⟩ : Oper)) (v := .pointer (some ⟨q, 0, none⟩)) rfl (by kernel_rfl) (by kernel_rfl) (by kernel_rfl) (fun _ _ _ h => h) (Or.inl ⟨by rfl, ?hy112⟩) (by assumption) ?rest112
    case hy112 => (intro u hSu; (try dsimp only at hSu); go_simp; try (with_reducible rfl))
    (try simp only [Act.put, List.setIfInBounds_toArray, List.set_cons_zero, List.set_cons_succ])
    refine wpAnyH_take (i := 2) (oi := (⟨some 25, _, _, _, _, none⟩ : Oper)) (v := .pointer (some ⟨q, 1, none⟩)) rfl (by kernel_rfl) (by kernel_rfl) (by kernel_rfl) (fun _ _ _ h => h) (Or.inl ⟨by rfl, ?hy113⟩) (by assumption) ?rest113
    case hy113 => (intro u hSu; (try dsimp only at hSu); go_simp; try (with_reducible rfl))
    (try simp only [Act.put, List.setIfInBounds_toArray, List.set_cons_zero, List.set_cons_succ])
    refine wpAnyH_take (i := 3) (oi := (⟨some 26, _, _, _, _, none⟩ : Oper)) (v := .pointer (some ⟨o, 0, none⟩)) rfl (by kernel_rfl) (by kernel_rfl) (by kernel_rfl) (fun _ _ _ h => h) (Or.inl ⟨by rfl, ?hy114⟩) (by assumption) ?rest114
    case hy114 => (intro u hSu; (try dsimp only at hSu); subst hSu; have q1 := HD.out.cs.2.1; go_simp; try (with_reducible rfl))
    (try simp only [Act.put, List.setIfInBounds_toArray, List.set_cons_zero, List.set_cons_succ])
    refine wpAnyH_take (i := 5) (oi := (⟨some 28, _, _, _, _, none⟩ : Oper)) (v := .pointer (some ⟨q, 0, none⟩)) rfl (by kernel_rfl) (by kernel_rfl) (by kernel_rfl) (fun _ _ _ h => h) (Or.inl ⟨by rfl, ?hy115⟩) (by assumption) ?rest115
    case hy115 => (intro u hSu; (try dsimp only at hSu); go_simp; try (with_reducible rfl))
    (try simp only [Act.put, List.setIfInBounds_toArray, List.set_cons_zero, List.set_cons_succ])
    refine wpAnyH_take (i := 6) (oi := (⟨some 29, _, _, _, _, none⟩ : Oper)) (v := .pointer (some ⟨q, 0, none⟩)) rfl (by kernel_rfl) (by kernel_rfl) (by kernel_rfl) (fun _ _ _ h => h) (Or.inl ⟨by rfl, ?hy116⟩) (by assumption) ?rest116
    case hy116 => (intro u hSu; (try dsimp only at hSu); go_simp; try (with_reducible rfl))
    (try simp only [Act.put, List.setIfInBounds_toArray, List.set_cons_zero, List.set_cons_succ])
    refine wpAnyH_take (i := 7) (oi := (⟨some 30, _, _, _, _, none⟩ : Oper)) (v := .pointer (some ⟨q, 1, none⟩)) rfl (by kernel_rfl) (by kernel_rfl) (by kernel_rfl) (fun _ _ _ h => h) (Or.inl ⟨by rfl, ?hy117⟩) (by assumption) ?rest117
    case hy117 => (intro u hSu; (try dsimp only at hSu); go_simp; try (with_reducible rfl))
    (try simp only [Act.put, List.setIfInBounds_toArray, List.set_cons_zero, List.set_cons_succ])
    refine wpAnyH_take (i := 8) (oi := (⟨some 31, _, _, _, _, none⟩ : Oper)) (v := .pointer (some ⟨o, 0, none⟩)) rfl (by kernel_rfl) (by kernel_rfl) (by kernel_rfl) (fun _ _ _ h => h) (Or.inl ⟨by rfl, ?hy118⟩) (by assumption) ?rest118
    case hy118 => (intro u hSu; (try dsimp only at hSu); subst hSu; have q1 := HD.out.cs.2.1; go_simp; try (with_reducible rfl))
    (try simp only [Act.put, List.setIfInBounds_toArray, List.set_cons_zero, List.set_cons_succ])
    refine wpAnyH_ready (rs := [4]) (by kernel_rfl) (by simp) ?_
    refine AllReadyH.cons (o := (⟨some 27, _, _, _, _, none⟩ : Oper)) rfl (fun K hK => ?_) AllReadyH.nil
    go_simp
    go_at_call 67
    refine (ocount_any o _ r s c m _ HD.out.ot).mono ?_
    rintro e w' ⟨rfl, rfl⟩
    (try dsimp only)
    refine hK.out _ _ (rfl) (fun hHeld => ?_)
    clear hK K
    (try simp only [Act.put, List.setIfInBounds_toArray, List.set_cons_zero, List.set_cons_succ])
    refine wpAnyH_ready (rs := [9]) (by kernel_rfl) (by simp) ?_
    refine AllReadyH.cons (o := (⟨some 32, _, _, _, _, none⟩ : Oper)) rfl (fun K hK => ?_) AllReadyH.nil
    go_simp
    go_at_call 83
    refine (omost_any o _ r s c m _ HD.out.ot).mono ?_
    rintro e w' ⟨rfl, rfl⟩
    (try dsimp only)
    refine hK.out _ _ (rfl) (fun hHeld => ?_)
    clear hK K
    (try simp only [Act.put, List.setIfInBounds_toArray, List.set_cons_zero, List.set_cons_succ])
    refine wpAnyH_take (i := 10) (oi := (⟨some 33, _, _, _, _, none⟩ : Oper)) (v := .bool false) rfl (by kernel_rfl) (by kernel_rfl) (by kernel_rfl) (fun _ _ _ h => h) (Or.inl ⟨by rfl, ?hy119⟩) (by assumption) ?rest119
    case hy119 => (intro u hSu; (try dsimp only at hSu); go_simp; try (with_reducible rfl))
    (try simp only [Act.put, List.setIfInBounds_toArray, List.set_cons_zero, List.set_cons_succ])
    refine wpAnyH_take (i := 11) (oi := (⟨some 22, _, _, _, _, none⟩ : Oper)) (v := .bool false) rfl (by kernel_rfl) (by kernel_rfl) (by kernel_rfl) (fun _ _ _ h => h) (Or.inl ⟨by rfl, ?hy120⟩) (by assumption) ?rest120
    case hy120 => (intro u hSu; (try dsimp only at hSu); go_simp; try (with_reducible rfl))
    (try simp only [Act.put, List.setIfInBounds_toArray, List.set_cons_zero, List.set_cons_succ])
    refine wpAnyH_done (by kernel_rfl) ?_ _
    (try simp only [Exit.then])
    clear hHeld
    go_wp2_with (go_at_call 84; refine HWR.out.mono ?_; rintro e w5 ⟨rfl, hs5, hk5⟩; obtain ⟨k1, k2⟩ := hs5.flag HA.out false; have FIN := Lib.hid (And.intro k1 ((HN1.out.trans (hk5.mono (fun x _ h => h))).trans (k2.mono (fun x _ h => (.inr (.inr (.inr h)) : x = p ∨ x = g ∨ x = o ∨ x = q))))); obtain ⟨-, -, -, q4⟩ := hs5.cs; have q5 := hs5.fr 4; clear k1 k2 hs5 hk5; simp only [sel, if_true, Bool.false_eq_true, if_false])
    go_ret
    exact ⟨rfl, FIN.out⟩
  | false =>
    go_enter Tryd.func31, Tryd.ntmps31
    go_upto_region 5 with (go_at_call 72; refine HDE.out.mono ?_; rintro e w' ⟨rfl, rfl⟩)
    refine wp_region_held_drew (S := (fun w' => w' = w.drewN 1)) (by kernel_rfl) (rfl) (fun hHeld => ?_)
    refine wpAnyH_take (i := 0) (oi := (⟨some 23, _, _, _, _, none⟩ : Oper)) (v := .pointer (some ⟨q, 0, none⟩)) rfl (by kernel_rfl) (by kernel_rfl) (by kernel_rfl) (fun _ _ _ h => h) (Or.inl ⟨by rfl, ?hy121⟩) (by assumption) ?rest121
    case hy121 => (intro u hSu; (try dsimp only at hSu); go_simp; try (with_reducible rfl))
    (try simp only [Act.put, List.setIfInBounds_toArray, List.set_cons_zero, List.set_cons_succ])
    refine wpAnyH_take (i := 1) (oi := (⟨some 24, _, _, _, _, none⟩ : Oper)) (v := .pointer (some ⟨q, 0, none⟩)) rfl (by kernel_rfl) (by kernel_rfl) (by kernel_rfl) (fun _ _ _ h => h) (Or.inl ⟨by rfl, ?hy122⟩) (by assumption) ?rest122
    case hy122 => (intro u hSu; (try dsimp only at hSu); go_simp; try (with_reducible rfl))
    (try simp only [Act.put, List.setIfInBounds_toArray, List.set_cons_zero, List.set_cons_succ])
    refine wpAnyH_take (i := 2) (oi := (⟨some 25, _, _, _, _, none⟩ : Oper)) (v := .pointer (some ⟨q, 1, none⟩)) rfl (by kernel_rfl) (by kernel_rfl) (by kernel_rfl) (fun _ _ _ h => h) (Or.inl ⟨by rfl, ?hy123⟩) (by assumption) ?rest123
    case hy123 => (intro u hSu; (try dsimp only at hSu); go_simp; try (with_reducible rfl))
    (try simp only [Act.put, List.setIfInBounds_toArray, List.set_cons_zero, List.set_cons_succ])
    refine wpAnyH_take (i := 3) (oi := (⟨some 26, _, _, _, _, none⟩ : Oper)) (v := .pointer (some ⟨o, 0, none⟩)) rfl (by kernel_rfl) (by kernel_rfl) (by kernel_rfl) (fun _ _ _ h => h) (Or.inl ⟨by rfl, ?hy124⟩) (by assumption) ?rest124
    case hy124 => (intro u hSu; (try dsimp only at hSu); subst hSu; have q1 := HD.out.cs.2.1; go_simp; try (with_reducible rfl))
    (try simp only [Act.put, List.setIfInBounds_toArray, List.set_cons_zero, List.set_cons_succ])
    refine wpAnyH_take (i := 5) (oi := (⟨some 28, _, _, _, _, none⟩ : Oper)) (v := .pointer (some ⟨q, 0, none⟩)) rfl (by kernel_rfl) (by kernel_rfl) (by kernel_rfl) (fun _ _ _ h => h) (Or.inl ⟨by rfl, ?hy125⟩) (by assumption) ?rest125
    case hy125 => (intro u hSu; (try dsimp only at hSu); go_simp; try (with_reducible rfl))
    (try simp only [Act.put, List.setIfInBounds_toArray, List.set_cons_zero, List.set_cons_succ])
    refine wpAnyH_take (i := 6) (oi := (⟨some 29, _, _, _, _, none⟩ : Oper)) (v := .pointer (some ⟨q, 0, none⟩)) rfl (by kernel_rfl) (by kernel_rfl) (by kernel_rfl) (fun _ _ _ h => h) (Or.inl ⟨by rfl, ?hy126⟩) (by assumption) ?rest126
    case hy126 => (intro u hSu; (try dsimp only at hSu); go_simp; try (with_reducible rfl))
    (try simp only [Act.put, List.setIfInBounds_toArray, List.set_cons_zero, List.set_cons_succ])
    refine wpAnyH_take (i := 7) (oi := (⟨some 30, _, _, _, _, none⟩ : Oper)) (v := .pointer (some ⟨q, 1, none⟩)) rfl (by kernel_rfl) (by kernel_rfl) (by kernel_rfl) (fun _ _ _ h => h) (Or.inl ⟨by rfl, ?hy127⟩) (by assumption) ?rest127
    case hy127 => (intro u hSu; (try dsimp only at hSu); go_simp; try (with_reducible rfl))
    (try simp only [Act.put, List.setIfInBounds_toArray, List.set_cons_zero, List.set_cons_succ])
    refine wpAnyH_take (i := 8) (oi := (⟨some 31, _, _, _, _, none⟩ : Oper)) (v := .pointer (some ⟨o, 0, none⟩)) rfl (by kernel_rfl) (by kernel_rfl) (by kernel_rfl) (fun _ _ _ h => h) (Or.inl ⟨by rfl, ?hy128⟩) (by assumption) ?rest128
    case hy128 => (intro u hSu; (try dsimp only at hSu); subst hSu; have q1 := HD.out.cs.2.1; go_simp; try (with_reducible rfl))
    (try simp only [Act.put, List.setIfInBounds_toArray, List.set_cons_zero, List.set_cons_succ])
    refine wpAnyH_ready (rs := [4]) (by kernel_rfl) (by simp) ?_
    refine AllReadyH.cons (o := (⟨some 27, _, _, _, _, none⟩ : Oper)) rfl (fun K hK => ?_) AllReadyH.nil
    go_simp
    go_at_call 67
    refine (ocount_any o _ r s c m _ HD.out.ot).mono ?_
    rintro e w' ⟨rfl, rfl⟩
    (try dsimp only)
    refine hK.out _ _ (rfl) (fun hHeld => ?_)
    clear hK K
    (try simp only [Act.put, List.setIfInBounds_toArray, List.set_cons_zero, List.set_cons_succ])
    refine wpAnyH_ready (rs := [9]) (by kernel_rfl) (by simp) ?_
    refine AllReadyH.cons (o := (⟨some 32, _, _, _, _, none⟩ : Oper)) rfl (fun K hK => ?_) AllReadyH.nil
    go_simp
    go_at_call 83
    refine (omost_any o _ r s c m _ HD.out.ot).mono ?_
    rintro e w' ⟨rfl, rfl⟩
    (try dsimp only)
    refine hK.out _ _ (rfl) (fun hHeld => ?_)
    clear hK K
    (try simp only [Act.put, List.setIfInBounds_toArray, List.set_cons_zero, List.set_cons_succ])
    refine wpAnyH_take (i := 10) (oi := (⟨some 33, _, _, _, _, none⟩ : Oper)) (v := .bool false) rfl (by kernel_rfl) (by kernel_rfl) (by kernel_rfl) (fun _ _ _ h => h) (Or.inl ⟨by rfl, ?hy129⟩) (by assumption) ?rest129
    case hy129 => (intro u hSu; (try dsimp only at hSu); go_simp; try (with_reducible rfl))
    (try simp only [Act.put, List.setIfInBounds_toArray, List.set_cons_zero, List.set_cons_succ])
    refine wpAnyH_take (i := 11) (oi := (⟨some 22, _, _, _, _, none⟩ : Oper)) (v := .bool false) rfl (by kernel_rfl) (by kernel_rfl) (by kernel_rfl) (fun _ _ _ h => h) (Or.inl ⟨by rfl, ?hy130⟩) (by assumption) ?rest130
    case hy130 => (intro u hSu; (try dsimp only at hSu); go_simp; try (with_reducible rfl))
    (try simp only [Act.put, List.setIfInBounds_toArray, List.set_cons_zero, List.set_cons_succ])
    refine wpAnyH_done (by kernel_rfl) ?_ _
    (try simp only [Exit.then])
    clear hHeld
    go_wp2_with (go_at_call 84; refine HWR.out.mono ?_; rintro e w5 ⟨rfl, hs5, hk5⟩; obtain ⟨k1, k2⟩ := hs5.flag HA.out true; have FIN := Lib.hid (And.intro k1 ((HN1.out.trans (hk5.mono (fun x _ h => h))).trans (k2.mono (fun x _ h => (.inr (.inr (.inr h)) : x = p ∨ x = g ∨ x = o ∨ x = q))))); obtain ⟨-, -, -, q4⟩ := hs5.cs; have q5 := hs5.fr 4; clear k1 k2 hs5 hk5; simp only [sel, if_true, Bool.false_eq_true, if_false])
    go_ret
    exact ⟨rfl, FIN.out⟩
end Go.Proofs.YtoljnogpegemjaaDoor.Bk
