/- portcullislaw21.Pair.Poke, BankTurned. Conditions: 32 bytes of each secret; the bytes lie there; the table holds what its text lays. -/
import Derived.Test.YtoljnogpegemjaaDoorBkL
import Derived.Test.YtoljnogpegemjaaDoorRkD
import Derived.Test.YtoljnogpegemjaaDoorRfE
namespace Go.Proofs.YtoljnogpegemjaaDoor.Bk
open Go.RowKit Wr Sl Sm
set_option linter.unusedSimpArgs false
set_option linter.unusedVariables false

theorem rowI_srcb {w : World} {a : Option Addr} {len cap : Nat} {zs : List Int} (h : RowI .u8 w a len cap zs) : Src w a len (zs.take len) ∧ bytes (zs.take len) ∧ len ≤ cap := by
  rcases h with ⟨rfl, rfl, rfl, rfl⟩ | ⟨x, rfl, hl, hm, hz, hc, hw⟩
  · exact ⟨⟨rfl, fun i hi => absurd hi (by omega)⟩, fun x hx => by simp at hx, Nat.le_refl _⟩
  · refine ⟨⟨by simp; omega, fun i hi => ⟨x, rfl, ?_⟩⟩, fun y hy => wf_u8 (hw y (List.mem_of_mem_take hy)), hl⟩
    rw [hc i (by omega)]
    simp [List.getD, hi]
theorem Blk.keptF {w wr w' : World} {l : List (Nat × Array Value × TypeId)} {T : Nat → Prop} (h : Blk w wr l) (k : Kept T wr w') (hT : ∀ i, T i → w.heap.size ≤ i) (hne : ∀ e ∈ l, ¬ T e.1) : Blk w w' l := by
  refine ⟨fun i g c t hi => ?_, h.inj, h.below.trans (k.toBelow h.below.size hT)⟩
  obtain ⟨h1, h2⟩ := h.mem i g c t hi
  exact ⟨k.blk h1 (hne _ (List.mem_of_getElem? hi)), h2⟩
def Four (p g pr gr : Nat) (x : Nat) : Prop := (x = p ∨ x = g) ∨ x = pr ∨ x = gr
/-- Both flashes, of one state. -/
structure Two (w : World) (p g pr gr : Nat) (f : Fl) : Prop where
  fl : IsFl w p g f
  rf : IsRf w pr gr f
  ne : p ≠ pr ∧ p ≠ gr ∧ g ≠ pr ∧ g ≠ gr
theorem Two.below {w w' : World} {p g pr gr : Nat} {f : Fl} (h : Two w p g pr gr f) (k : Below w.heap.size w w') : Two w' p g pr gr f := ⟨h.fl.below k, h.rf.below k, h.ne⟩
theorem Two.lt {w : World} {p g pr gr : Nat} {f : Fl} (h : Two w p g pr gr f) : p < w.heap.size ∧ g < w.heap.size ∧ pr < w.heap.size ∧ gr < w.heap.size := ⟨h.fl.lt.1, h.fl.lt.2, h.rf.lt.1, h.rf.lt.2⟩
set_option maxHeartbeats 1000000 in
theorem ppoke_any (p g pr gr : Nat) (po pq : Option Addr) (f : Fl) (a : Int) (sa : Option Addr) (n c : Nat) (xs : List Int) (w : World) (h : Two w p g pr gr f) (hs : Src w sa n xs) (hse : ∀ x, sa = some x → n = 0 ∨ (x.block ≠ p ∧ x.block ≠ g)) (hx : bytes xs) :
    Calls Tryd.prog 27 #[.agg #[.pointer (some ⟨p, 0, none⟩), .pointer po, .pointer (some ⟨pr, 0, none⟩), .pointer pq], .int .i64 a, .slice sa n c] w fun e w' => e = .returned (.tuple #[]) ∧ Two w' p g pr gr (f.poke a xs) ∧ Kept (Four p g pr gr) w w' := by
  have hb : Below w.heap.size w (w.alloc (.cells #[.pointer (some ⟨p, 0, none⟩), .pointer po, .pointer (some ⟨pr, 0, none⟩), .pointer pq] 53)) := (Below.refl _ w).alloc (Nat.le_refl _) _
  have HB := Lib.hid hb
  have H := Lib.hid (h.below hb)
  have HS := Lib.hid (hs.below hb)
  have HL := Lib.hid h.lt
  have HN := Lib.hid h.ne
  have hp1 := fun u (h : IsFl u p g f) (hs : Src u sa n xs) => poke_any p g f a sa n c xs u h hs hx
  have hp2 := fun u (h : IsRf u pr gr f) (hs : Src u sa n xs) => rpoke_any pr gr f a sa n c xs u h hs hx
  obtain ⟨f1, hf1⟩ : ∃ x, x = f.poke a xs := ⟨_, rfl⟩
  obtain ⟨ok, hok⟩ : ∃ x, x = f.pokeOk a n := ⟨_, rfl⟩
  rw [← hf1, ← hok] at hp1 hp2
  rw [← hf1]
  have HP1 := Lib.hid hp1
  have HP2 := Lib.hid hp2
  have HC := Lib.hid (blk_new w (.cells #[.pointer (some ⟨p, 0, none⟩), .pointer po, .pointer (some ⟨pr, 0, none⟩), .pointer pq] 53))
  clear h hs hp1 hp2 hf1 hok hb hx
  go_enter Tryd.func27, Tryd.ntmps27
  go_upto_region 1 with fail
  generalize w.alloc (.cells #[.pointer (some ⟨p, 0, none⟩), .pointer po, .pointer (some ⟨pr, 0, none⟩), .pointer pq] 53) = w1 at HB H HS HC ⊢
  have x0 : w1.cell? ⟨w.heap.size, 0, none⟩ = some (.pointer (some ⟨p, 0, none⟩)) := cell_blk HC.out 0
  go_upto_region 2 with (go_at_call 26; refine (HP1.out _ H.out.fl HS.out).mono ?_; rintro e w2 ⟨rfl, hf2, hk2, -⟩; have HF2 := Lib.hid hf2; have HR2 := Lib.hid (H.out.rf.kept hk2 (by have := HN.out; rintro (e | e) <;> omega) (by have := HN.out; rintro (e | e) <;> omega)); have HS2 := Lib.hid (HS.out.kept hk2 (fun x e => by rcases hse x e with h | h; exact .inl h; exact .inr (by rintro (e | e); exact h.1 e; exact h.2 e))); have x2 : w2.cell? ⟨w.heap.size, 2, none⟩ = some (.pointer (some ⟨pr, 0, none⟩)) := cell_blk (hk2.blk HC.out (by have := HL.out; rintro (e | e) <;> omega)) 2; have HK2 := Lib.hid hk2; clear hf2 hk2)
  clear x0
  go_wp2_with (go_at_call 78; go_loud (refine (HP2.out _ HR2.out HS2.out).mono ?_; rintro e w3 ⟨rfl, hf3, hk3, -⟩; have HF3 := Lib.hid (HF2.out.kept hk3 (by have := HN.out; rintro (e | e) <;> omega) (by have := HN.out; rintro (e | e) <;> omega)); have HR3 := Lib.hid hf3; have HK3 := Lib.hid hk3; clear hf3 hk3))
  go_end0
  refine ⟨rfl, ⟨HF3.out, HR3.out, HN.out⟩, ?_⟩
  have h1 : Kept (Four p g pr gr) w w1 := Kept.of_below HB.out
  exact (h1.trans (HK2.out.mono (fun _ _ h => .inl h))).trans (HK3.out.mono (fun _ _ h => .inr h))

set_option maxRecDepth 100000 in
set_option maxHeartbeats 2000000 in
theorem turned_early (s t : List Int) (n at' by' : Int) (sx : Option Addr) (xn cx : Nat) (w : World) (h : n < 0 ∨ (0 ≤ n ∧ 500 < xn) ∨ (0 ≤ n ∧ xn ≤ 500 ∧ at' < 0) ∨ (0 ≤ n ∧ xn ≤ 500 ∧ 0 ≤ at' ∧ by' = 0)) :
    Calls Tryd.prog 6 #[.agg (arr .u8 s), .agg (arr .u8 t), .int .i64 n, .slice sx xn cx, .int .i64 at', .int .u8 by'] w fun e w' => e = .returned (.bool true) ∧ Below w.heap.size w w' := by
  have HI0 := Lib.hid (Blk.two w (arr .u8 s) (arr .u8 t) 23 23)
  rcases h with h1 | ⟨h1, h2⟩ | ⟨h1, h2, h3⟩ | ⟨h1, h2, h3, rfl⟩
  all_goals
    go_enter Tryd.func6, Tryd.ntmps6
    go_upto_region 1 with fail
    (try simp only [World.size_alloc])
    generalize ((w.alloc (.cells (arr .u8 s) 23)).alloc (.cells (arr .u8 t) 23)) = wb at HI0 ⊢
    go_wp2_with (go_at_call 20; refine (alive21_any _).mono ?_; rintro e w1 ⟨rfl, hb1⟩; have HI1 := Lib.hid (HI0.out.kept hb1); clear hb1)
    go_ret
    exact ⟨rfl, HI1.out.below⟩

/-- What a half answers in both: the number, the bytes, is it a record. -/
def hA (f : Fl) (s : List Int) (k : Nat) : Int := sel (hok s (f.read (8192 * k : Nat) 4148)) (hn (f.read (8192 * k : Nat) 4148)) 0
def hB (f : Fl) (s : List Int) (k : Nat) : List Int := sel (hok s (f.read (8192 * k : Nat) 4148)) (hx (f.read (8192 * k : Nat) 4148)) []
def hC (f : Fl) (s : List Int) (k : Nat) : Bool := hok s (f.read (8192 * k : Nat) 4148)
theorem half_both {p g pr gr : Nat} {f : Fl} {s : List Int} {k : Nat} (hd : f.dead = false) (hl : 16384 ≤ f.b.length) (hk : k = 0 ∨ k = 1) (hsl : s.length = 32) (hsb : bytes s) :
    (∀ u, IsFl u p g f → Calls Tryd.prog 24 #[.pointer (some ⟨p, 0, none⟩), .agg (arr .u8 s), .int .i64 k] u fun e w' => (∃ v, e = .returned (.tuple #[.int .i64 (hA f s k), v, .bool (hC f s k)]) ∧ Own8 w' u.heap.size v (hB f s k)) ∧ Below u.heap.size u w') ∧
    (∀ u, IsRf u pr gr f → Ha.TabK u → Calls Tryd.prog 28 #[.pointer (some ⟨pr, 0, none⟩), .agg (arr .u8 s), .int .i64 k] u fun e w' => (∃ v, e = .returned (.tuple #[.int .i64 (hA f s k), v, .bool (hC f s k)]) ∧ Own8 w' u.heap.size v (hB f s k)) ∧ Below u.heap.size u w') := by
  refine ⟨fun u h => ?_, fun u h hT => ?_⟩
  · exact half_on p g f s k u h hd hl (by omega) hsl hsb
  · have h1 := Bk.IsRf.half h
    rw [hd] at h1
    have := dhalf_on pr gr _ _ f.b s k u h1 hl hk hsl hsb h.ok.by0 hT (f.read (8192 * k : Nat) 4148) (by unfold Fl.read; rw [Int.toNat_natCast]; rfl)
    exact this

set_option maxRecDepth 100000 in
set_option maxHeartbeats 4000000 in
theorem turned_go (s t : List Int) (n at' : Int) (by' : Int) (sx : Option Addr) (xn cx : Nat) (x : List Int) (w : World) (hsl : s.length = 32) (hsb : bytes s) (htl : t.length = 32) (htb : bytes t) (hs : Src w sx xn x) (hxb : bytes x) (hn : 0 ≤ n ∧ n ≤ 9223372036854775807) (hxn : xn ≤ 500) (hat : 0 ≤ at') (hby : 0 < by' ∧ by' ≤ 255) (hT : Ha.TabK w) :
    Calls Tryd.prog 6 #[.agg (arr .u8 s), .agg (arr .u8 t), .int .i64 n, .slice sx xn cx, .int .i64 at', .int .u8 by'] w fun e w' => e = .returned (.bool true) ∧ Below w.heap.size w w' := by
  have hrec : ∀ u, Src u sx xn x → Ha.TabK u → Calls Tryd.prog 23 #[.agg (arr .u8 s), .int .i64 n, .slice sx xn cx] u fun e w' => ∃ gr' cr, e = .returned (.slice (some ⟨gr', 0, none⟩) (52 + xn) cr) ∧ u.heap.size ≤ gr' ∧ gr' < w'.heap.size ∧ Src w' (some ⟨gr', 0, none⟩) (52 + xn) (recd s n x) ∧ Below u.heap.size u w' := by
    intro u h1 h2
    refine (drec_any s n sx xn cx x u hsl hsb ⟨by omega, hn.2⟩ (by omega) h1 hxb h2).mono ?_
    rintro e w' ⟨v, rfl, ho, hb⟩
    obtain ⟨sa, c, rfl, -, -, h3, hor⟩ := ho.form
    rw [recd_len, hs.len] at h3 ⊢
    rcases hor with ⟨-, h0, -⟩ | ⟨g, rfl, h4, h5⟩
    · have := recd_len s n x
      rw [h0] at this
      simp at this
      omega
    · exact ⟨g, c, rfl, h4, h5, h3, hb⟩
  have hrb := recd_bytes s n x hxb
  have hnew := fun w => begins_any 64 9 (List.replicate 32 0) s (by simp) hsl w
  obtain ⟨f0, hf0⟩ : ∃ f, f = Fl.new 64 := ⟨_, rfl⟩
  obtain ⟨r0, hr⟩ : ∃ r, r = List.replicate 32 (0 : Int) := ⟨_, rfl⟩
  have hb0 := fun w => build_no w
  have hrl : r0.length = 32 := by rw [hr]; simp
  have hc0 : f0.dead = false ∧ f0.b.length = 16384 := by rw [hf0]; exact ⟨rfl, by simp [Fl.new]; decide⟩
  rw [← hf0, ← hr] at hnew
  rw [← hr] at hb0
  clear hf0 hr
  obtain ⟨R, hR⟩ : ∃ R, R = recd s n x := ⟨_, rfl⟩
  rw [← hR] at hrec hrb
  have hRl : R.length = 52 + xn := by rw [hR, recd_len, hs.len]
  obtain ⟨f1, hf1⟩ : ∃ f, f = f0.poke 0 R := ⟨_, rfl⟩
  have hp1 := fun (p g pr gr : Nat) (po pq : Option Addr) (a : Addr) (c : Nat) (u : World) (h : Two u p g pr gr f0) (hs : Src u (some a) (52 + xn) R) (hse : a.block ≠ p ∧ a.block ≠ g) => ppoke_any p g pr gr po pq f0 0 (some a) (52 + xn) c R u h hs (fun x e => by cases e; exact .inr hse) hrb
  rw [← hf1] at hp1
  have hc1 : f1.dead = false ∧ f1.b.length = 16384 := by
    rw [hf1, Fl.poke_len]
    refine ⟨?_, hc0.2⟩
    unfold Fl.poke
    split
    · exact hc0.1
    · exact hc0.1
  have hh1 := fun (p g pr gr : Nat) => half_both (p := p) (g := g) (pr := pr) (gr := gr) (f := f1) (s := t) (k := 0) hc1.1 (by omega) (.inl rfl) htl htb
  -- the place
  obtain ⟨K, hK⟩ : ∃ K : Nat, at' % ((52 + xn : Nat) : Int) = (K : Int) ∧ K < 52 + xn := by
    refine ⟨(at' % ((52 + xn : Nat) : Int)).toNat, ?_, ?_⟩
    · have := Int.emod_nonneg at' (show ((52 + xn : Nat) : Int) ≠ 0 by omega)
      omega
    · have := Int.emod_lt_of_pos at' (show (0 : Int) < ((52 + xn : Nat) : Int) by omega)
      have := Int.emod_nonneg at' (show ((52 + xn : Nat) : Int) ≠ 0 by omega)
      omega
  obtain ⟨y, hy⟩ : ∃ y, y = bits .xor .u8 (R.getD K 0) by' := ⟨_, rfl⟩
  have hyb : 0 ≤ y ∧ y ≤ 255 := by rw [hy]; exact xor_byte _ _
  obtain ⟨f2, hf2⟩ : ∃ f, f = f1.poke K [y] := ⟨_, rfl⟩
  have hp2 := fun (p g pr gr : Nat) (po pq : Option Addr) (a : Addr) (c : Nat) (u : World) (h : Two u p g pr gr f1) (hs : Src u (some a) 1 [y]) (hse : a.block ≠ p ∧ a.block ≠ g) => ppoke_any p g pr gr po pq f1 K (some a) 1 c [y] u h hs (fun x e => by cases e; exact .inr hse) (by intro z hz; simp only [List.mem_singleton] at hz; subst hz; exact hyb)
  rw [← hf2] at hp2
  have hc2 : f2.dead = false ∧ f2.b.length = 16384 := by
    rw [hf2, Fl.poke_len]
    refine ⟨?_, hc1.2⟩
    unfold Fl.poke
    split
    · exact hc1.1
    · exact hc1.1
  have hh2 := fun (p g pr gr : Nat) => half_both (p := p) (g := g) (pr := pr) (gr := gr) (f := f2) (s := s) (k := 0) hc2.1 (by omega) (.inl rfl) hsl hsb
  generalize hA f1 t 0 = a1 at hh1
  generalize hB f1 t 0 = b1 at hh1
  generalize hC f1 t 0 = c1 at hh1
  generalize hA f2 s 0 = a2 at hh2
  generalize hB f2 s 0 = b2 at hh2
  generalize hC f2 s 0 = c2 at hh2
  have HREC := Lib.hid hrec
  have HN := Lib.hid hnew
  have HB0 := Lib.hid hb0
  have HP1 := Lib.hid hp1
  have HP2 := Lib.hid hp2
  have HH1 := Lib.hid hh1
  have HH2 := Lib.hid hh2
  have HSL := Lib.hid hsl
  have HTL := Lib.hid htl
  have HS := Lib.hid hs
  have HTK := Lib.hid hT
  have HRL := Lib.hid hRl
  have HK := Lib.hid hK
  have HY := Lib.hid hy
  have hmd : at' % (52 + (xn : Int)) = (K : Int) := by rw [show (52 + (xn : Int)) = ((52 + xn : Nat) : Int) by omega]; exact hK.1
  have hz1 : ¬ (52 + (xn : Int)) = 0 := by omega
  have hz2 : ¬ ((52 + xn : Nat) : Int) = 0 := by omega
  have hk1 : (K : Int) < ((52 + xn : Nat) : Int) := by omega
  have hk2 : ¬ (52 + (xn : Int)) ≤ (K : Int) := by omega
  have hb1 : ¬ by' = 0 := by omega
  have hb2 : (by' == 0) = false := by rw [beq_eq_false_iff_ne]; omega
  have hx5 : ¬ (500 : Int) < (xn : Int) := by omega
  have HI0 := Lib.hid (Blk.two w (arr .u8 s) (arr .u8 t) 23 23)
  clear hrec hrb hnew hb0 hp1 hp2 hh1 hh2 hsl hsb htl htb hs hxb hT hRl hK hy hR hf1 hf2 hc0 hc1 hc2 hyb hxn
  go_enter Tryd.func6, Tryd.ntmps6
  go_upto_region 1 with fail
  (try simp only [World.size_alloc])
  generalize ((w.alloc (.cells (arr .u8 s) 23)).alloc (.cells (arr .u8 t) 23)) = wb at HI0 ⊢
  go_upto_region 4 with (go_at_call 20; refine (alive21_any _).mono ?_; rintro e w1 ⟨rfl, hb1⟩; have HI1 := Lib.hid (HI0.out.kept hb1); clear hb1)
  clear hx5 hb1 hb2
  go_upto_region 5 with (first | ((with_reducible show wpList _ _ _ (Oper.mk (some 50) _ _ _ _ _ :: _) _ _); refine wpList_load_part rfl 23 _ rfl (w.heap.size) 0 _ 23 (0, 0) _ (HI1.out.get 0 rfl) rfl .u8 s (arr_part _ _) Tryd.underlying23 rfl (num_i HSL.out) ?_) | (go_at_call 23; refine (HREC.out _ (HS.out.below HI1.out.below) (ktab_below HTK.out HI1.out.below)).mono ?_; rintro e w2 ⟨G, cr, rfl, hg1, hg2, hs2, hb2⟩; have HI2 := Lib.hid (HI1.out.kept hb2); have HS2 := Lib.hid hs2; have HG2 := Lib.hid (And.intro hg1 hg2); clear hg1 hg2 hs2 hb2))
  go_upto_region 6 with (first | ((with_reducible show wpList _ _ _ (Oper.mk (some 54) _ _ _ _ _ :: _) _ _); refine wpList_build (by rfl) 23 _ rfl #[] rfl _ (HB0.out _) ?_) | ((with_reducible show wpList _ _ _ (Oper.mk (some 55) _ _ _ _ _ :: _) _ _); refine wpList_load_part rfl 23 _ rfl (w.heap.size) 0 _ 23 (0, 0) _ (HI2.out.get 0 rfl) rfl .u8 s (arr_part _ _) Tryd.underlying23 rfl (num_i HSL.out) ?_) | (go_at_call 25; refine (HN.out _).mono ?_; rintro e w3 ⟨p, g, o, pr, gr, qr, rfl, h2, h3, h4⟩; have HI3 := Lib.hid (HI2.out.kept h4); have HS3 := Lib.hid (HS2.out.below h4); have HT3 : Hid (Two w3 p g pr gr f0) := Lib.hid ⟨h2.fl, h2.rf, by have := h3.ne; omega⟩; have HX3 := Lib.hid h3; have HZ3 := Lib.hid h4.size; clear h2 h3 h4))
  have HB4 : Hid (Below w3.heap.size w3 (w3.alloc (.cells #[.pointer (some ⟨p, 0, none⟩), .pointer (some ⟨o, 0, none⟩), .pointer (some ⟨pr, 0, none⟩), .pointer (some ⟨qr, 0, none⟩)] 53))) := Lib.hid ((Below.refl _ w3).alloc (Nat.le_refl _) _)
  have HI4 := Lib.hid (HI3.out.alloc #[.pointer (some ⟨p, 0, none⟩), .pointer (some ⟨o, 0, none⟩), .pointer (some ⟨pr, 0, none⟩), .pointer (some ⟨qr, 0, none⟩)] 53)
  have HS4 := Lib.hid (HS3.out.below HB4.out)
  have HT4 := Lib.hid (HT3.out.below HB4.out)
  have HLT : Hid (w.heap.size < p ∧ w.heap.size + 1 < p ∧ w.heap.size < g ∧ w.heap.size + 1 < g ∧ w.heap.size < pr ∧ w.heap.size + 1 < pr ∧ w.heap.size < gr ∧ w.heap.size + 1 < gr ∧ G < p ∧ G < g ∧ G < pr ∧ G < gr ∧ w.heap.size < G ∧ w.heap.size + 1 < G ∧ p < w3.heap.size ∧ g < w3.heap.size ∧ pr < w3.heap.size ∧ gr < w3.heap.size) := Lib.hid (by
    have q1 := HI1.out.lt 0 rfl
    have q2 := HI1.out.lt 1 rfl
    have q3 := HG2.out
    have q4 := HX3.out.low
    have q5 := HT3.out.lt
    refine ⟨?_, ?_, ?_, ?_, ?_, ?_, ?_, ?_, ?_, ?_, ?_, ?_, ?_, ?_, ?_, ?_, ?_, ?_⟩ <;> omega)
  clear HB4 HI3 HS3 HT3 HS2 HG2 HX3 HZ3
  generalize w3.alloc (.cells #[.pointer (some ⟨p, 0, none⟩), .pointer (some ⟨o, 0, none⟩), .pointer (some ⟨pr, 0, none⟩), .pointer (some ⟨qr, 0, none⟩)] 53) = w4 at HI4 HS4 HT4 ⊢
  generalize w3.heap.size = pb at HI4 HLT ⊢
  have y0 : w4.cell? ⟨pb, 0, none⟩ = some (.pointer (some ⟨p, 0, none⟩)) := cell_blk (HI4.out.get 2 rfl) 0
  have y1 : w4.cell? ⟨pb, 1, none⟩ = some (.pointer (some ⟨o, 0, none⟩)) := cell_blk (HI4.out.get 2 rfl) 1
  have y2 : w4.cell? ⟨pb, 2, none⟩ = some (.pointer (some ⟨pr, 0, none⟩)) := cell_blk (HI4.out.get 2 rfl) 2
  have y3 : w4.cell? ⟨pb, 3, none⟩ = some (.pointer (some ⟨qr, 0, none⟩)) := cell_blk (HI4.out.get 2 rfl) 3
  go_upto_region 7 with (go_at_call 27; go_loud (refine (HP1.out _ _ _ _ _ _ _ _ _ HT4.out HS4.out (show G ≠ p ∧ G ≠ g from by have := HLT.out; exact ⟨by omega, by omega⟩)).mono ?_; rintro e w5 ⟨rfl, ht5, hk5⟩; have HI5 := Lib.hid (Blk.keptF HI4.out hk5 (fun i hi => by have := HLT.out; rcases hi with (rfl | rfl) | rfl | rfl <;> omega) (by intro e he; simp only [List.cons_append, List.nil_append, List.mem_cons, List.not_mem_nil, or_false] at he; have := HLT.out; rcases he with rfl | rfl | rfl <;> (rintro ((e | e) | e | e) <;> (simp only at e; omega)))); have HS5 := Lib.hid (HS4.out.kept hk5 (fun a e => .inr (by cases e; have := HLT.out; rintro ((e | e) | e | e) <;> (simp only at e; omega)))); have HT5 := Lib.hid ht5; clear ht5 hk5))
  clear y0 y1 y2 y3 HI4 HS4 HT4
  have y0 : w5.cell? ⟨pb, 0, none⟩ = some (.pointer (some ⟨p, 0, none⟩)) := cell_blk (HI5.out.get 2 rfl) 0
  go_upto_region 8 with (first | ((with_reducible show wpList _ _ _ (Oper.mk (some 63) _ _ _ _ _ :: _) _ _); refine wpList_load_part rfl 23 _ rfl (w.heap.size + 1) 0 _ 23 (0, 0) _ (HI5.out.get 1 rfl) rfl .u8 t (arr_part _ _) Tryd.underlying23 rfl (num_i HTL.out) ?_) | (go_at_call 24; refine ((HH1.out p g pr gr).1 _ HT5.out.fl).mono ?_; rintro e w6 ⟨⟨v6, rfl, -⟩, hb6⟩; have HI6 := Lib.hid (HI5.out.kept hb6); have HS6 := Lib.hid (HS5.out.below hb6); have HT6 := Lib.hid (HT5.out.below hb6); clear hb6))
  clear y0 HI5 HS5 HT5
  have y2 : w6.cell? ⟨pb, 2, none⟩ = some (.pointer (some ⟨pr, 0, none⟩)) := cell_blk (HI6.out.get 2 rfl) 2
  go_upto_region 9 with (first | ((with_reducible show wpList _ _ _ (Oper.mk (some 71) _ _ _ _ _ :: _) _ _); refine wpList_load_part rfl 23 _ rfl (w.heap.size + 1) 0 _ 23 (0, 0) _ (HI6.out.get 1 rfl) rfl .u8 t (arr_part _ _) Tryd.underlying23 rfl (num_i HTL.out) ?_) | (go_at_call 28; refine ((HH1.out p g pr gr).2 _ HT6.out.rf (ktab_below HTK.out HI6.out.below)).mono ?_; rintro e w7 ⟨⟨v7, rfl, -⟩, hb7⟩; have HI7 := Lib.hid (HI6.out.kept hb7); have HS7 := Lib.hid (HS6.out.below hb7); have HT7 := Lib.hid (HT6.out.below hb7); clear hb7))
  clear y2 HI6 HS6 HT6
  go_upto_region 10 with fail
  rw [hmd]
  clear hmd
  obtain ⟨ad, ead, xk⟩ := HS7.out.cell K HK.out.2
  cases ead
  have eK : (⟨G, 0, none⟩ : Addr).add K = ⟨G, K, none⟩ := by unfold Addr.add; split <;> simp_all
  rw [eK] at xk
  clear eK
  have y0 : w7.cell? ⟨pb, 0, none⟩ = some (.pointer (some ⟨p, 0, none⟩)) := cell_blk (HI7.out.get 2 rfl) 0
  have y1 : w7.cell? ⟨pb, 1, none⟩ = some (.pointer (some ⟨o, 0, none⟩)) := cell_blk (HI7.out.get 2 rfl) 1
  have y2 : w7.cell? ⟨pb, 2, none⟩ = some (.pointer (some ⟨pr, 0, none⟩)) := cell_blk (HI7.out.get 2 rfl) 2
  have y3 : w7.cell? ⟨pb, 3, none⟩ = some (.pointer (some ⟨qr, 0, none⟩)) := cell_blk (HI7.out.get 2 rfl) 3
  have HPB : Hid (p < pb ∧ g < pb ∧ pr < pb ∧ gr < pb) := Lib.hid (by have := HLT.out; exact ⟨by omega, by omega, by omega, by omega⟩)
  have HK0 := Lib.hid ((Kept.refl (Four p g pr gr) w7).drew)
  have HBd := Lib.hid (HI7.out.drew)
  have HSd : Hid (Src w7.drew (some ⟨G, 0, none⟩) (52 + xn) R) := Lib.hid ⟨HS7.out.len, HS7.out.cell⟩
  have HTd : Hid (Two w7.drew p g pr gr f1) := Lib.hid ⟨HT7.out.fl.drewN 1, HT7.out.rf.drewN 1, HT7.out.ne⟩
  refine wp_region_held_drew (S := (fun w' => Kept (Four p g pr gr) w7 w')) (by kernel_rfl) (HK0.out) (fun hHeld => ?_)
  generalize w7.drew = wd at HK0 HBd HSd HTd hHeld ⊢
  refine wpAnyH_take (i := 0) (oi := ({ dst := some 80, op := Op.load 53 (Operand.tmp 15), type := 53, pos := "more.go:50", after := #[], guard := none } : Oper)) (v := .agg #[.pointer (some ⟨p, 0, none⟩), .pointer (some ⟨o, 0, none⟩), .pointer (some ⟨pr, 0, none⟩), .pointer (some ⟨qr, 0, none⟩)]) rfl (by kernel_rfl) (by kernel_rfl) (by kernel_rfl) (fun _ _ _ h => h) (Or.inl ⟨by rfl, ?hy8001⟩) (by assumption) ?rest8001
  case hy8001 => (intro w hSw; (try dsimp only at hSw); have z0 := hSw.cellX y0 (by have := HPB.out; rintro ((e | e) | e | e) <;> (simp only at e; omega)); have z1 := hSw.cellX y1 (by have := HPB.out; rintro ((e | e) | e | e) <;> (simp only at e; omega)); have z2 := hSw.cellX y2 (by have := HPB.out; rintro ((e | e) | e | e) <;> (simp only at e; omega)); have z3 := hSw.cellX y3 (by have := HPB.out; rintro ((e | e) | e | e) <;> (simp only at e; omega)); go_simp; try (with_reducible rfl))
  (try simp only [World.size_alloc, Act.put, List.setIfInBounds_toArray, List.set_cons_zero, List.set_cons_succ])
  refine wpAnyH_take (i := 1) (oi := ({ dst := some 81, op := Op.move (Operand.tmp 22), type := 3, pos := "more.go:50", after := #[], guard := none } : Oper)) (v := .int .i64 K) rfl (by kernel_rfl) (by kernel_rfl) (by kernel_rfl) (fun _ _ _ h => h) (Or.inl ⟨by rfl, ?hy8002⟩) (by assumption) ?rest8002
  case hy8002 => (intro w hSw; (try dsimp only at hSw); go_simp; try (with_reducible rfl))
  (try simp only [World.size_alloc, Act.put, List.setIfInBounds_toArray, List.set_cons_zero, List.set_cons_succ])
  refine wpAnyH_take (i := 2) (oi := ({ dst := some 82, op := Op.move (Operand.tmp 14), type := 24, pos := "more.go:50", after := #[], guard := none } : Oper)) (v := .slice (some ⟨G, 0, none⟩) (52 + xn) cr) rfl (by kernel_rfl) (by kernel_rfl) (by kernel_rfl) (fun _ _ _ h => h) (Or.inl ⟨by rfl, ?hy8003⟩) (by assumption) ?rest8003
  case hy8003 => (intro w hSw; (try dsimp only at hSw); go_simp; try (with_reducible rfl))
  (try simp only [World.size_alloc, Act.put, List.setIfInBounds_toArray, List.set_cons_zero, List.set_cons_succ])
  refine wpAnyH_take (i := 3) (oi := ({ dst := some 83, op := Op.move (Operand.tmp 22), type := 3, pos := "more.go:50", after := #[], guard := none } : Oper)) (v := .int .i64 K) rfl (by kernel_rfl) (by kernel_rfl) (by kernel_rfl) (fun _ _ _ h => h) (Or.inl ⟨by rfl, ?hy8004⟩) (by assumption) ?rest8004
  case hy8004 => (intro w hSw; (try dsimp only at hSw); go_simp; try (with_reducible rfl))
  (try simp only [World.size_alloc, Act.put, List.setIfInBounds_toArray, List.set_cons_zero, List.set_cons_succ])
  refine wpAnyH_take (i := 4) (oi := ({ dst := some 84, op := Op.indexAddr 24 (Operand.tmp 82) (Operand.tmp 83), type := 0, pos := "more.go:50", after := #[{ on := 2, ground := Ground.data }, { on := 3, ground := Ground.data }], guard := none } : Oper)) (v := .pointer (some ⟨G, K, none⟩)) rfl (by kernel_rfl) (by kernel_rfl) (by kernel_rfl) (fun _ _ _ h => h) (Or.inl ⟨by rfl, ?hy8005⟩) (by assumption) ?rest8005
  case hy8005 => (intro w hSw; (try dsimp only at hSw); go_simp; try (with_reducible rfl))
  (try simp only [World.size_alloc, Act.put, List.setIfInBounds_toArray, List.set_cons_zero, List.set_cons_succ])
  refine wpAnyH_take (i := 5) (oi := ({ dst := some 85, op := Op.load 5 (Operand.tmp 84), type := 5, pos := "more.go:50", after := #[{ on := 4, ground := Ground.data }], guard := none } : Oper)) (v := .int .u8 (R.getD K 0)) rfl (by kernel_rfl) (by kernel_rfl) (by kernel_rfl) (fun _ _ _ h => h) (Or.inl ⟨by rfl, ?hy8006⟩) (by assumption) ?rest8006
  case hy8006 => (intro w hSw; (try dsimp only at hSw); have z := hSw.cellX xk (by have := HLT.out; rintro ((e | e) | e | e) <;> (simp only at e; omega)); go_simp; try (with_reducible rfl))
  (try simp only [World.size_alloc, Act.put, List.setIfInBounds_toArray, List.set_cons_zero, List.set_cons_succ])
  refine wpAnyH_take (i := 6) (oi := ({ dst := some 86, op := Op.move (Operand.tmp 5), type := 5, pos := "more.go:50", after := #[], guard := none } : Oper)) (v := .int .u8 by') rfl (by kernel_rfl) (by kernel_rfl) (by kernel_rfl) (fun _ _ _ h => h) (Or.inl ⟨by rfl, ?hy8007⟩) (by assumption) ?rest8007
  case hy8007 => (intro w hSw; (try dsimp only at hSw); go_simp; try (with_reducible rfl))
  (try simp only [World.size_alloc, Act.put, List.setIfInBounds_toArray, List.set_cons_zero, List.set_cons_succ])
  refine wpAnyH_take (i := 7) (oi := ({ dst := some 87, op := Op.binOp BinOp.xor 5 (Operand.tmp 85) (Operand.tmp 86) 5, type := 5, pos := "more.go:50", after := #[{ on := 5, ground := Ground.data }, { on := 6, ground := Ground.data }], guard := none } : Oper)) (v := .int .u8 y) rfl (by kernel_rfl) (by kernel_rfl) (by kernel_rfl) (fun _ _ _ h => h) (Or.inl ⟨by rfl, ?hy8008⟩) (by assumption) ?rest8008
  case hy8008 => (intro w hSw; (try dsimp only at hSw); have := HY.out; go_simp; try (first | (with_reducible rfl) | rw [this]))
  (try simp only [World.size_alloc, Act.put, List.setIfInBounds_toArray, List.set_cons_zero, List.set_cons_succ])
  refine wpAnyH_ready (rs := [8]) (by kernel_rfl) (by simp) ?_
  refine AllReadyH.cons (o := ({ dst := some 88, op := Op.buildSlice 24 1 #[(0, Operand.tmp 87)], type := 24, pos := "more.go:50", after := #[{ on := 7, ground := Ground.data }], guard := none } : Oper)) rfl (fun K hK => ?_) AllReadyH.nil
  go_simp
  have hb9 : Below wd.heap.size wd (wd.alloc (.cells #[.int .u8 y] 5)) := (Below.refl _ _).alloc (Nat.le_refl _) _
  have hr9 : Src (wd.alloc (.cells #[.int .u8 y] 5)) (some ⟨wd.heap.size, 0, none⟩) 1 [y] := src_row (blk_new _ _) rfl rfl
  have hp9 : wd.heap.size ≠ p ∧ wd.heap.size ≠ g := by have := HTd.out.lt; exact ⟨by omega, by omega⟩
  have HY801 := Lib.hid (HBd.out.kept hb9)
  have HQ801 := Lib.hid (HK0.out.trans (Kept.of_below hb9))
  have HR8 := Lib.hid hr9
  have HT8 := Lib.hid (HTd.out.below hb9)
  have HP8 := Lib.hid hp9
  clear hb9 hr9 hp9
  generalize wd.alloc (.cells #[.int .u8 y] 5) = y801 at HY801 HQ801 HR8 HT8 ⊢
  generalize wd.heap.size = gy at HR8 HP8 ⊢
  refine hK.out _ _ (HQ801.out) (fun hHeld => ?_)
  clear hK K
  (try simp only [World.size_alloc, Act.put, List.setIfInBounds_toArray, List.set_cons_zero, List.set_cons_succ])
  refine wpAnyH_ready (rs := [9]) (by kernel_rfl) (by simp) ?_
  refine AllReadyH.cons (o := ({ dst := some 89, op := Op.call { callee := Callee.value (Operand.func 27), args := #[Operand.tmp 80, Operand.tmp 81, Operand.tmp 88], argTypes := #[53, 3, 24] }, type := 0, pos := "more.go:50", after := #[{ on := 0, ground := Ground.data }, { on := 1, ground := Ground.data }, { on := 8, ground := Ground.data }], guard := none } : Oper)) rfl (fun K hK => ?_) AllReadyH.nil
  go_simp
  go_at_call 27
  refine (HP2.out _ _ _ _ _ _ _ _ _ HT8.out HR8.out HP8.out).mono ?_
  rintro e y802 ⟨rfl, ht9, hk9⟩
  have HT9 := Lib.hid ht9
  have HQ802 := Lib.hid (HQ801.out.trans hk9)
  have HY802 := Lib.hid (Blk.keptF HY801.out hk9 (fun i hi => by have := HLT.out; rcases hi with (rfl | rfl) | rfl | rfl <;> omega) (by intro e he; simp only [List.cons_append, List.nil_append, List.mem_cons, List.not_mem_nil, or_false] at he; have := HLT.out; rcases he with rfl | rfl | rfl <;> (rintro ((e | e) | e | e) <;> (simp only at e; omega))))
  clear ht9 hk9
  (try dsimp only)
  refine hK.out _ _ (HQ802.out) (fun hHeld => ?_)
  clear hK K
  (try simp only [World.size_alloc, Act.put, List.setIfInBounds_toArray, List.set_cons_zero, List.set_cons_succ])
  refine wpAnyH_done (by kernel_rfl) ?_ _
  (try simp only [Exit.then])
  have HI9 := HY802
  clear y0 y1 y2 y3 xk hHeld
  generalize y802 = w9 at HI9 HT9 ⊢
  clear hz1 hz2 hk1 hk2
  have y0 : w9.cell? ⟨pb, 0, none⟩ = some (.pointer (some ⟨p, 0, none⟩)) := cell_blk (HI9.out.get 2 rfl) 0
  go_upto_region 12 with (first | ((with_reducible show wpList _ _ _ (Oper.mk (some 93) _ _ _ _ _ :: _) _ _); refine wpList_load_part rfl 23 _ rfl (w.heap.size) 0 _ 23 (0, 0) _ (HI9.out.get 0 rfl) rfl .u8 s (arr_part _ _) Tryd.underlying23 rfl (num_i HSL.out) ?_) | (go_at_call 24; refine ((HH2.out p g pr gr).1 _ HT9.out.fl).mono ?_; rintro e w10 ⟨⟨v10, rfl, ho10⟩, hb10⟩; have HI10 := Lib.hid (HI9.out.kept hb10); have HT10 := Lib.hid (HT9.out.below hb10); have HO10 := Lib.hid ho10; clear hb10 ho10))
  clear y0
  have y2 : w10.cell? ⟨pb, 2, none⟩ = some (.pointer (some ⟨pr, 0, none⟩)) := cell_blk (HI10.out.get 2 rfl) 2
  go_upto_region 13 with (first | ((with_reducible show wpList _ _ _ (Oper.mk (some 101) _ _ _ _ _ :: _) _ _); refine wpList_load_part rfl 23 _ rfl (w.heap.size) 0 _ 23 (0, 0) _ (HI10.out.get 0 rfl) rfl .u8 s (arr_part _ _) Tryd.underlying23 rfl (num_i HSL.out) ?_) | (go_at_call 28; refine ((HH2.out p g pr gr).2 _ HT10.out.rf (ktab_below HTK.out HI10.out.below)).mono ?_; rintro e w11 ⟨⟨v11, rfl, ho11⟩, hb11⟩; have HI11 := Lib.hid (HI10.out.kept hb11); have HO11 := Lib.hid ho11; have t1 := (HO10.out.below hb11).str; clear hb11 ho11))
  clear y2
  have t2 := HO11.out.str
  generalize strOfNums b2 = SB at t1 t2
  have q1 : (SB.toList == SB.toList) = true := beq_self_eq_true _
  have q2 : (a2 == a2) = true := beq_self_eq_true _
  have q3 : (c1 == c1) = true := beq_self_eq_true _
  have q4 : (c2 == c2) = true := beq_self_eq_true _
  cases c1 <;> cases c2
  all_goals
    go_wp2_with fail
    go_ret
    exact ⟨rfl, HI11.out.below⟩

/-- BankTurned, at every input. -/
theorem turned21_any (s t : List Int) (n at' by' : Int) (sx : Option Addr) (xn cx : Nat) (x : List Int) (w : World) (hsl : s.length = 32) (hsb : bytes s) (htl : t.length = 32) (htb : bytes t) (hs : Src w sx xn x) (hxb : bytes x) (hn : n ≤ 9223372036854775807) (hby : 0 ≤ by' ∧ by' ≤ 255) (hT : Ha.TabK w) :
    Calls Tryd.prog 6 #[.agg (arr .u8 s), .agg (arr .u8 t), .int .i64 n, .slice sx xn cx, .int .i64 at', .int .u8 by'] w fun e w' => e = .returned (.bool true) ∧ Below w.heap.size w w' := by
  by_cases h : n < 0 ∨ (0 ≤ n ∧ 500 < xn) ∨ (0 ≤ n ∧ xn ≤ 500 ∧ at' < 0) ∨ (0 ≤ n ∧ xn ≤ 500 ∧ 0 ≤ at' ∧ by' = 0)
  · exact turned_early s t n at' by' sx xn cx w h
  · exact turned_go s t n at' by' sx xn cx x w hsl hsb htl htb hs hxb ⟨by omega, hn⟩ (by omega) (by omega) (by omega) hT
end Go.Proofs.YtoljnogpegemjaaDoor.Bk
