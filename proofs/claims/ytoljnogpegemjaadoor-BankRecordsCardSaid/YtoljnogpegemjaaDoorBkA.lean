/- bank.Record: what it answers. Condition: 32 bytes of a secret; the bytes lie there. -/
import Derived.Test.YtoljnogpegemjaaDoorMaB
import Derived.Test.YtoljnogpegemjaaDoorPak
import Derived.Test.YtoljnogpegemjaaDoorL1
import Derived.Lib.SlBytesConst
namespace Go.Proofs.YtoljnogpegemjaaDoor.Bk
open Go.RowKit Wr Sl
set_option linter.unusedSimpArgs false
set_option linter.unusedVariables false

def mk : List Int := [80, 67, 66, 49]
def nm : List Int := [98, 97, 110, 107, 1]
/-- A record's bytes ahead of its sum; all its bytes. -/
def body (n : Int) (x : List Int) : List Int := packL mk [n, (x.length : Int)] ++ x
def recd (s : List Int) (n : Int) (x : List Int) : List Int := body n x ++ mac (mac s nm) (body n x)
theorem body_len (n : Int) (x : List Int) : (body n x).length = 20 + x.length := by
  rw [body, List.length_append, packL_len]
  show 4 + 8 * 2 + _ = _
  omega
theorem recd_len (s : List Int) (n : Int) (x : List Int) : (recd s n x).length = 52 + x.length := by
  rw [recd, List.length_append, body_len, mac_len]
  omega
theorem body_bytes (n : Int) (x : List Int) (hx : bytes x) : bytes (body n x) := by
  intro y hy
  rcases List.mem_append.1 hy with h | h
  · rcases List.mem_append.1 h with h | h
    · simp only [mk, List.mem_cons, List.not_mem_nil, or_false] at h
      omega
    · obtain ⟨z, _, hz⟩ := List.mem_flatMap.1 h
      exact be8_bytes z y hz
  · exact hx y h
theorem recd_bytes (s : List Int) (n : Int) (x : List Int) (hx : bytes x) : bytes (recd s n x) := by
  intro y hy
  rcases List.mem_append.1 hy with h | h
  · exact body_bytes n x hx y h
  · exact mac_bytes _ _ y h
theorem srcI_two (w : World) (x y : Int) : SrcI (w.alloc (.cells #[.int .i64 x, .int .i64 y] 3)) (some ⟨w.heap.size, 0, none⟩) 2 [x, y] := by
  refine ⟨rfl, fun i hi => ⟨_, rfl, ?_⟩⟩
  have e : (⟨w.heap.size, 0, none⟩ : Addr).add i = ⟨w.heap.size, i, none⟩ := by unfold Addr.add; split <;> simp_all
  rw [e, cell_blk (blk_new w _)]
  have : i = 0 ∨ i = 1 := by omega
  rcases this with rfl | rfl <;> rfl
theorem conv_mk (w : World) : (convert 24 24 (.slice (some ⟨w.heap.size, 0, none⟩) 4 4)).run Tryd.prog (w.alloc (.cells #[.int .u8 80, .int .u8 67, .int .u8 66, .int .u8 49] 5)) = .ok (.slice (some ⟨w.heap.size, 0, none⟩) 4 4) (w.alloc (.cells #[.int .u8 80, .int .u8 67, .int .u8 66, .int .u8 49] 5 (4, 5))) :=
  Lib.run_convert_bytes_const w 24 5 #[.int .u8 80, .int .u8 67, .int .u8 66, .int .u8 49] 4 4 Tryd.underlying24 Tryd.underlying5
theorem src_mk4 (w : World) : Src (w.alloc (.cells #[.int .u8 80, .int .u8 67, .int .u8 66, .int .u8 49] 5 (4, 5))) (some ⟨w.heap.size, 0, none⟩) 4 mk :=
  src_row (blk_new w _) rfl rfl

theorem own8_src {w : World} {B n c : Nat} {sa : Option Addr} {xs : List Int} (h : Own8 w B (.slice sa n c) xs) : Src w sa n xs ∧ n = xs.length ∧ n ≤ c := by
  obtain ⟨sb, d, e, h1, -, h2, -⟩ := h.form
  cases e
  exact ⟨h2, rfl, h1⟩
theorem blk_grown {w wr w' : World} {l : List (Nat × Array Value × TypeId)} {r : Option Nat} (h : Blk w wr l) (hg : wr.grownBy w' r) (hne : ∀ e ∈ l, some e.1 ≠ r) (hb : Below w.heap.size w w') : Blk w w' l := by
  refine ⟨fun i g c t hi => ?_, h.inj, hb⟩
  obtain ⟨h1, h2⟩ := h.mem i g c t hi
  refine ⟨?_, h2⟩
  rw [hg.block g (h.lt i hi) (hne _ (List.mem_of_getElem? hi))]
  exact h1
theorem record_neg (s : List Int) (n : Int) (sa : Option Addr) (m c : Nat) (w : World) (hn : n < 0) :
    Calls Tryd.prog 21 #[.agg (arr .u8 s), .int .i64 n, .slice sa m c] w fun e w' => e = .returned (.tuple #[.slice none 0 0, .int .i64 1]) ∧ Below w.heap.size w w' := by
  go_enter Tryd.func21, Tryd.ntmps21
  go_wp2
  go_ret2
  exact ⟨rfl, (Below.refl _ w).alloc (Nat.le_refl _) _⟩
theorem record_long (s : List Int) (n : Int) (sa : Option Addr) (m c : Nat) (w : World) (hn : 0 ≤ n) (hm : 4096 < m) :
    Calls Tryd.prog 21 #[.agg (arr .u8 s), .int .i64 n, .slice sa m c] w fun e w' => e = .returned (.tuple #[.slice none 0 0, .int .i64 3]) ∧ Below w.heap.size w w' := by
  go_enter Tryd.func21, Tryd.ntmps21
  go_wp2
  go_ret2
  exact ⟨rfl, (Below.refl _ w).alloc (Nat.le_refl _) _⟩

set_option maxRecDepth 100000 in
set_option maxHeartbeats 4000000 in
theorem record_ok (s : List Int) (n : Int) (sa : Option Addr) (m c : Nat) (x : List Int) (w : World) (hsl : s.length = 32) (hsb : bytes s) (hn : 0 ≤ n) (hm : m ≤ 4096) (hs : Src w sa m x) (hx : bytes x) :
    Calls Tryd.prog 21 #[.agg (arr .u8 s), .int .i64 n, .slice sa m c] w fun e w' => ∃ v, e = .returned (.tuple #[v, .int .i64 0]) ∧ Own8 w' w.heap.size v (recd s n x) ∧ Below w.heap.size w w' := by
  have hlx := hs.len
  have hbd : packL mk [n, (m : Int)] ++ x = body n x := by rw [body, hlx]
  have hmn : (mk ++ be8 n ++ be8 (m : Int)).length = 20 := by simp [mk, be8_len]
  have hpi := fun (u : World) (g1 g2 : Addr) (c1 c2 : Nat) h1 h2 => pint_any (some g1) (some g2) 4 c1 2 c2 mk [n, (m : Int)] u h1 h2 (by decide) (by decide)
  have hky := fun u => key_any s ⟨#[98, 97, 110, 107]⟩ u hsl hsb (by decide)
  rw [show sbytes ⟨#[98, 97, 110, 107]⟩ ++ [1] = nm by decide] at hky
  obtain ⟨kv, hkv⟩ : ∃ k, k = mac s nm := ⟨_, rfl⟩
  have hkl : kv.length = 32 := by rw [hkv]; exact mac_len _ _
  have hkb : bytes kv := by rw [hkv]; exact mac_bytes _ _
  have hms := fun (u : World) (g1 g2 : Addr) (h1 : Src u (some g1) 32 kv) (h2 : SrcL u (some g2) 1 [body n x]) => msum_any kv g1 32 32 (some g2) 1 1 [body n x] u h1 hkb (by decide) h2 (fun l hl => by rw [List.mem_singleton] at hl; subst hl; exact body_bytes n x hx) (by simp [body_len]; omega) (by decide)
  rw [show ([body n x] : List (List Int)).flatten = body n x by simp] at hms
  obtain ⟨sv, hsv⟩ : ∃ k, k = mac kv (body n x) := ⟨_, rfl⟩
  have hvl : sv.length = 32 := by rw [hsv]; exact mac_len _ _
  have hrc : body n x ++ sv = recd s n x := by rw [recd, hsv, hkv]
  rw [← hkv] at hky
  rw [← hsv] at hms
  have hbl := body_len n x
  rw [hlx] at hbl
  obtain ⟨pk, hpk⟩ : ∃ k, k = packL mk [n, (m : Int)] := ⟨_, rfl⟩
  rw [← hpk] at hbd hpi
  have hpl : pk.length = 20 := by rw [hpk, packL_len]; rfl
  generalize body n x = bd at hbd hms hbl hrc
  generalize recd s n x = rc at hrc ⊢
  have HBD := Lib.hid hbd
  have HPI := Lib.hid hpi
  have HKY := Lib.hid hky
  have HMS := Lib.hid hms
  have HKL := Lib.hid hkl
  have HVL := Lib.hid hvl
  have HBL := Lib.hid hbl
  have HRC := Lib.hid hrc
  have HPL := Lib.hid hpl
  have HS := Lib.hid hs
  have HSL := Lib.hid hsl
  have HI0 := Lib.hid (Blk.one w (arr .u8 s) 23)
  obtain ⟨zn, hzn⟩ : ∃ zs : List Int, zs = List.replicate 32 0 := ⟨_, rfl⟩
  have HZzn : Hid (∀ w, (zeroValue 23).run Tryd.prog w = .ok (.agg (arr .u8 zn)) w) := Lib.hid (by intro w; rw [hzn]; exact zero_num w)
  have HLzn : Hid (zn.length = 32) := Lib.hid (by rw [hzn]; rfl)
  clear hzn
  clear hbd hpi hky hms hkl hkb hvl hbl hrc hs hsl hsb hx hmn hlx hpk hkv hsv hpl
  go_enter Tryd.func21, Tryd.ntmps21
  go_upto_region 5 with fail
  generalize w.alloc (.cells (arr .u8 s) 23) = wb at HI0 ⊢
  have kc := conv_mk wb
  obtain ⟨wc, hwc⟩ : ∃ x, x = wb.alloc (.cells #[.int .u8 80, .int .u8 67, .int .u8 66, .int .u8 49] 5 (4, 5)) := ⟨_, rfl⟩
  have hzc : wc.heap.size = wb.heap.size + 1 := by rw [hwc]; simp
  have hm4 : Src wc (some ⟨wb.heap.size, 0, none⟩) 4 mk := by rw [hwc]; exact src_mk4 wb
  have hi1 : Blk w wc [(w.heap.size, arr .u8 s, 23)] := by rw [hwc]; exact HI0.out.kept ((Below.refl _ wb).alloc (Nat.le_refl _) _)
  have hbw : Below wc.heap.size wc (wc.alloc (.cells #[.int .i64 n, .int .i64 m] 3)) := (Below.refl _ wc).alloc (Nat.le_refl _) _
  have hsi := srcI_two wc n m
  rw [← hwc] at kc
  have HWC := Lib.hid hwc
  have HM4 := Lib.hid (hm4.below hbw)
  have HI1 := Lib.hid (hi1.kept hbw)
  have HSI := Lib.hid hsi
  have HZC := Lib.hid hzc
  clear hwc hzc hm4 hi1 hbw hsi
  have HLB : Hid (w.heap.size < wb.heap.size) := Lib.hid (HI0.out.lt 0 rfl)
  go_upto_region 6 with (first | ((with_reducible show Calls _ 60 _ _ _); go_at_call 60; (refine (HPI.out (wc.alloc (.cells #[.int .i64 n, .int .i64 m] 3)) _ _ _ _ HM4.out HSI.out).mono ?_; rintro e w1 ⟨v1, rfl, ho1, hb1⟩; have HI2 := Lib.hid (HI1.out.kept hb1); have HO1 := Lib.hid (ho1.mono (B' := wb.heap.size) (by simp [HZC.out]; omega)); have HZ1 : Hid (wb.heap.size ≤ w1.heap.size) := Lib.hid (by have := hb1.size; simp [HZC.out] at this; omega); clear ho1 hb1)) | ((with_reducible show wpList _ _ _ (Oper.mk (some 26) _ _ _ _ _ :: _) _ _); (refine wpList_app8 rfl (.tmp 24) (.tmp 25) rfl wb.heap.size v1 pk rfl HO1.out sa m c x rfl (HS.out.below HI2.out.below) (by rw [HPL.out]; omega) HZ1.out ?_; intro v2 w2 ho2 hg2 hn2 hq2; have hbb := app8_below HO1.out hg2 (Below.refl wb.heap.size w1) HZ1.out; have HI3 := Lib.hid (blk_grown HI2.out hg2 (by intro e he e2; simp only [List.mem_singleton] at he; subst he; have := HO1.out.lt _ e2.symm; have := HLB.out; omega) (HI2.out.below.trans (hbb.mono (Nat.le_of_lt HLB.out)))); rw [HBD.out] at ho2; have HO2 := Lib.hid ho2; have HZ2 : Hid (wb.heap.size ≤ w2.heap.size) := Lib.hid (Nat.le_trans HZ1.out hg2.size); clear ho2 hg2 hn2 hq2 hbb)))
  obtain ⟨s2, c2, e2, hc2, -, -, -⟩ := HO2.out.form
  rw [HBL.out] at e2 hc2
  subst e2
  have HC2 := Lib.hid hc2
  have HLT := Lib.hid HO2.out.lt
  clear kc HWC HM4 HI1 HSI HZC HI2 HO1 HZ1 HPI HBD HPL HS hc2 HI0
  go_upto_region 7 with (first | ((with_reducible show wpList _ _ _ (Oper.mk (some 27) _ _ _ _ _ :: _) _ _); refine wpList_load_part rfl 23 _ rfl (w.heap.size) 0 _ 23 (0, 0) _ (HI3.out.get 0 rfl) rfl .u8 s (arr_part _ _) Tryd.underlying23 rfl (num_i HSL.out) ?_) | (go_at_call 68; refine (HKY.out _).mono ?_; rintro e w3 ⟨rfl, hb3⟩; have HI4 := Lib.hid (HI3.out.kept hb3); have HO3 := Lib.hid (HO2.out.below hb3); have HZ3 := Lib.hid hb3.size; clear hb3) | ((with_reducible show wpList _ _ _ (Oper.mk (some 9) _ _ _ _ _ :: _) _ _); refine wpList_alloc_row rfl 23 rfl _ (HZzn.out _) ?_; have HI5 := Lib.hid (HI4.out.alloc (arr .u8 zn) 23); have HO4 := Lib.hid (HO3.out.alloc (.cells (arr .u8 zn) 23)); have HG9 : Hid (∀ k, (Value.slice s2 (20 + m) c2).ownBlock = some k → k ≠ w3.heap.size) := Lib.hid (fun k e => by have := HLT.out k e; have := HZ3.out; omega); have HGL : Hid (wb.heap.size ≤ w3.heap.size) := Lib.hid (Nat.le_trans HZ2.out HZ3.out); generalize w3.heap.size = g9 at HI5 HG9 HGL ⊢; generalize w3.alloc (.cells (arr .u8 zn) 23) = w4 at HI5 HO4 ⊢) | ((with_reducible show wpList _ _ _ (Oper.mk none (Op.store _ (Operand.tmp 9) _) _ _ _ _ :: _) _ _); refine wpList_store_whole rfl 23 _ _ rfl g9 _ _ 23 (HI5.out.get 1 rfl) rfl rfl (arr_len2 _ _ HKL.out HLzn.out) (num_s HKL.out) (all_arr _ _) ?_; intro w5 hb5 hk5 hz5; have HI6 := Lib.hid (HI5.out.put 1 rfl hk5 hb5); have HO5 := Lib.hid (HO4.out.kept hk5 (fun k e => HG9.out k e)); clear hb5 hk5 hz5))
  clear HI3 HI4 HI5 HO2 HO3 HO4 HG9 HZ3 HKY HSL
  have HL5 := Lib.hid HO5.out.lt
  obtain ⟨hs5, -, -⟩ := own8_src HO5.out
  have HS5 := Lib.hid (csrcL_one hs5 HC2.out)
  have HQ5 := Lib.hid (src_all (HI6.out.kept ((Below.refl _ w5).alloc (Nat.le_refl _) (.cells #[.slice s2 (20 + m) c2] 24)) |>.get 1 rfl) 32 HKL.out)
  have HI7 := Lib.hid (HI6.out.kept ((Below.refl _ w5).alloc (Nat.le_refl _) (.cells #[.slice s2 (20 + m) c2] 24)))
  have HO6 := Lib.hid (HO5.out.alloc (.cells #[.slice s2 (20 + m) c2] 24))
  clear hs5
  go_upto_region 8 with (first | (go_at_call 69; (refine (HMS.out (w5.alloc (.cells #[.slice s2 (20 + m) c2] 24)) _ _ HQ5.out HS5.out).mono ?_; rintro e w6 ⟨rfl, hb6⟩; have HI8 := Lib.hid (HI7.out.kept hb6); have HO7 := Lib.hid (HO6.out.below hb6); have HZ6 : Hid (w5.heap.size ≤ w6.heap.size) := Lib.hid (by have := hb6.size; simp at this; omega); clear hb6)) | ((with_reducible show wpList _ _ _ (Oper.mk (some 10) _ _ _ _ _ :: _) _ _); (refine wpList_alloc_row rfl 23 rfl _ (HZzn.out _) ?_; have HI9 := Lib.hid (HI8.out.alloc (arr .u8 zn) 23); have HO8 := Lib.hid (HO7.out.alloc (.cells (arr .u8 zn) 23)); have HG10 : Hid (∀ k, (Value.slice s2 (20 + m) c2).ownBlock = some k → k ≠ w6.heap.size) := Lib.hid (fun k e => by have := HL5.out k e; have := HZ6.out; omega); generalize w6.heap.size = g10 at HI9 HG10 ⊢; generalize w6.alloc (.cells (arr .u8 zn) 23) = w7 at HI9 HO8 ⊢)) | ((with_reducible show wpList _ _ _ (Oper.mk none (Op.store _ (Operand.tmp 10) _) _ _ _ _ :: _) _ _); (refine wpList_store_whole rfl 23 _ _ rfl g10 _ _ 23 (HI9.out.get 2 rfl) rfl rfl (arr_len2 _ _ HVL.out HLzn.out) (num_s HVL.out) (all_arr _ _) ?_; intro w8 hb8 hk8 hz8; have HIa := Lib.hid (HI9.out.put 2 rfl hk8 hb8); have HOa := Lib.hid (HO8.out.kept hk8 (fun k e => HG10.out k e)); have HZa : Hid (wb.heap.size ≤ w8.heap.size) := Lib.hid (by have := HIa.out.lt 1 rfl; have := HGL.out; omega); clear hb8 hk8 hz8)))
  go_wp2_with (first | ((with_reducible show wpList _ _ _ (Oper.mk (some 35) _ _ _ _ _ :: _) _ _); (refine wpList_app8 rfl (.tmp 33) (.tmp 34) rfl wb.heap.size (.slice s2 (20 + m) c2) bd rfl HOa.out (some ⟨g10, 0, none⟩) 32 32 sv rfl (src_all (HIa.out.get 2 rfl) 32 HVL.out) (by rw [HBL.out]; omega) HZa.out ?_; intro v9 w9 ho9 hg9 hn9 hq9; have hbb := app8_below HOa.out hg9 (Below.refl wb.heap.size w8) HZa.out; have HB9 := Lib.hid (HIa.out.below.trans (hbb.mono (Nat.le_of_lt HLB.out))); rw [HRC.out] at ho9; have HO9 := Lib.hid ho9; clear ho9 hg9 hn9 hq9 hbb)))
  (try simp only [Exit.then])
  go_ret2
  exact ⟨_, rfl, HO9.out.mono (Nat.le_of_lt HLB.out), HB9.out⟩
end Go.Proofs.YtoljnogpegemjaaDoor.Bk
