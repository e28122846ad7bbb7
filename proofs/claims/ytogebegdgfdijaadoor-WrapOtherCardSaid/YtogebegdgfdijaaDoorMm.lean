/- HMAC with SHA-256, in plain words. Condition: as each theorem says. -/
import Derived.Test.YtogebegdgfdijaaDoorMa
import Derived.Test.YtogebegdgfdijaaDoorHh
import Derived.Test.YtogebegdgfdijaaDoorFa
import Derived.Lib.AppendStr
import Derived.Lib.ConvBytes
import Derived.Test.YtogebegdgfdijaaDoorAa
import Derived.Test.YtogebegdgfdijaaDoorLa
import Derived.Test.YtogebegdgfdijaaDoorAeF
import Derived.Test.YtogebegdgfdijaaDoorCa
set_option maxRecDepth 100000
set_option maxHeartbeats 16000000
set_option linter.unusedSimpArgs false
set_option linter.unusedVariables false
namespace Go.Proofs.YtogebegdgfdijaaDoor.Wr
open Go.RowKit
def padS (key : List Int) (b : Int) (i : Nat) : List Int := (List.range 64).map fun j => if j < i then bits .xor .u8 (key.getD j 0) b else key.getD j 0
def pad (key : List Int) (b : Int) : List Int := padS key b 64
def mac (key msg : List Int) : List Int := Ha.hash (pad key 92 ++ Ha.hash (pad key 54 ++ msg))
/-- The key that wraps. -/
def wkey (e z : List Int) : List Int := mac (mac e z) [119, 114, 97, 112, 1]
theorem padS_len (key : List Int) (b : Int) (i : Nat) : (padS key b i).length = 64 := by simp [padS]
theorem padS_zero (key : List Int) (b : Int) (h : key.length ≤ 64) : key ++ List.replicate (64 - key.length) 0 = padS key b 0 := by
  apply List.ext_getElem
  · simp [padS]; omega
  · intro i h1 h2
    simp only [padS, List.getElem_map, List.getElem_range, Nat.not_lt_zero, if_false]
    rw [List.getElem_append]
    split
    · rename_i h3
      simp [List.getD, List.getElem?_eq_getElem h3]
    · rename_i h3
      simp [List.getD, List.getElem?_eq_none (Nat.not_lt.1 h3)]
theorem padS_get (key : List Int) (b : Int) (i : Nat) (h : i < 64) : (padS key b i).getD i 0 = key.getD i 0 := by
  simp [padS, List.getD, h]
theorem padS_set (key : List Int) (b : Int) (i : Nat) (h : i < 64) : (padS key b i).set i (bits .xor .u8 (key.getD i 0) b) = padS key b (i + 1) := by
  apply List.ext_getElem?
  intro j
  rw [List.getElem?_set]
  by_cases hj : j < 64
  · simp only [padS, List.getElem?_map, List.getElem?_range hj, List.length_map, List.length_range, Option.map_some]
    by_cases e : i = j
    · subst e
      rw [if_pos rfl, if_pos h, if_pos (by omega)]
    · rw [if_neg e]
      by_cases h3 : j < i
      · rw [if_pos h3, if_pos (by omega)]
      · rw [if_neg h3, if_neg (by omega)]
  · rw [if_neg (by omega), List.getElem?_eq_none (by rw [padS_len]; omega), List.getElem?_eq_none (by rw [padS_len]; omega)]
theorem xor_byte (a b : Int) : 0 ≤ bits .xor .u8 a b ∧ bits .xor .u8 a b ≤ 255 := by
  show 0 ≤ IntKind.u8.wrap _ ∧ IntKind.u8.wrap _ ≤ 255
  rw [IntKind.wrap_u8]
  omega
theorem pad_bytes (key : List Int) (b : Int) : bytes (pad key b) := by
  intro x hx
  simp only [pad, padS, List.mem_map, List.mem_range] at hx
  obtain ⟨j, h, rfl⟩ := hx
  rw [if_pos h]
  exact xor_byte _ _
theorem hash_len (m : List Int) : (Ha.hash m).length = 32 := by simp [Ha.hash, Ha.digest]
theorem hash_bytes (m : List Int) : bytes (Ha.hash m) := by
  intro x hx
  simp only [Ha.hash, Ha.digest, List.mem_map, List.mem_range] at hx
  obtain ⟨i, _, rfl⟩ := hx
  omega
theorem mac_len (k m : List Int) : (mac k m).length = 32 := hash_len _
theorem mac_bytes (k m : List Int) : bytes (mac k m) := hash_bytes _
theorem wkey_len (e z : List Int) : (wkey e z).length = 32 := hash_len _
theorem wkey_bytes (e z : List Int) : bytes (wkey e z) := hash_bytes _
end Go.Proofs.YtogebegdgfdijaaDoor.Wr
namespace Go.Proofs.YtogebegdgfdijaaDoor.Wr
open Go.RowKit Lm Cu Sl
theorem wpList_copy {w : World} {ops : Array Oper} {rest : List Oper} {o : Oper} {a : Act} {Q : Exit → Act → World → Prop} (hgd : o.guard = none) (d s : Operand)
    (ho : o.op = .call { callee := .builtin .copy, args := #[d, s], argTypes := #[25, 25] }) (g m c n cs : Nat) (ad : Addr) (cur xs : List Int) (t : TypeId)
    (hd : a.eval d = .slice (some ⟨g, 0, none⟩) m c) (hs : a.eval s = .slice (some ad) n cs) (hg : w.heap[g]? = some (.cells (arr .u8 cur) t (0, 0))) (hsrc : Src w (some ad) n xs) (hnm : n ≤ m) (hfit : m ≤ cur.length)
    (h : ∀ w', w'.heap[g]? = some (.cells (arr .u8 (xs ++ cur.drop n)) t (0, 0)) → Kept (fun x => x = g) w w' → wpList Tryd.prog ops Q rest (a.put o.dst (.int .i64 (n : Int))) w') : wpList Tryd.prog ops Q (o :: rest) a w := by
  refine wpList_plain hgd fun K hK => ?_
  have hl := hsrc.len
  have hrun := run_copy_row (P := Tryd.prog) w 25 25 o.type 5 g 0 m c ad n cs (arr .u8 cur) t (xs.map (Value.int .u8)) Tryd.underlying25 (by kernel_rfl) hg (by rw [List.length_map, hl]; exact (Nat.min_eq_left hnm).symm) (src_news hsrc _ rfl) (by rw [List.length_map, hl, arr_size]; omega) (one_ints _ _)
  unfold Oper.wp execOp
  simp only [ho, resolve, invoke, builtin, Sem.run_bind, Sem.run_pure, Result.andThen_ok, List.map_toArray, List.map_cons, List.map_nil, hd, hs, hrun]
  have e : ((arr .u8 cur).toList.take 0 ++ xs.map (Value.int .u8) ++ (arr .u8 cur).toList.drop (0 + (xs.map (Value.int .u8)).length)).toArray = arr .u8 (xs ++ cur.drop n) := by
    show ((cur.map (Value.int .u8)).take 0 ++ xs.map (Value.int .u8) ++ (cur.map (Value.int .u8)).drop (0 + (xs.map (Value.int .u8)).length)).toArray = ((xs ++ cur.drop n).map (Value.int .u8)).toArray
    rw [List.length_map, hl, List.map_append, List.map_drop, List.take_zero, List.nil_append, Nat.zero_add]
  rw [e, List.length_map, hl]
  exact hK _ _ (h _ (setRow_heap w g _ _ t _ hg) ⟨rfl, rfl, rfl, by simp [World.setRow], fun k _ hne => setRow_other w g k _ hne⟩)
theorem mk64 (w : World) : (Instr.makeSlice 25 (.int .i64 64) (.int .i64 64)).run Tryd.prog w = .ok (.slice (some ⟨w.heap.size, 0, none⟩) 64 64) (w.alloc (.cells (arr .u8 (List.replicate 64 0)) 5)) := by kernel_rfl
theorem padded_any (key : List Int) (b : Int) (ad : Addr) (nk ck : Nat) (w : World) (hs : Src w (some ad) nk key) (hb : bytes key) (hnk : nk ≤ 64) :
    Calls Tryd.prog 75 #[.slice (some ad) nk ck, .int .u8 b] w fun e w' => ∃ g, e = .returned (.slice (some ⟨g, 0, none⟩) 64 64) ∧ (w'.heap[g]? = some (.cells (arr .u8 (pad key b)) 5 (0, 0)) ∧ w.heap.size ≤ g) ∧ Below w.heap.size w w' := by
  have hl := hs.len
  obtain ⟨z64, hz⟩ : ∃ z : List Int, z = List.replicate 64 0 := ⟨_, rfl⟩
  have hmk : ∀ u : World, (Instr.makeSlice 25 (.int .i64 64) (.int .i64 64)).run Tryd.prog u = .ok (.slice (some ⟨u.heap.size, 0, none⟩) 64 64) (u.alloc (.cells (arr .u8 z64) 5)) := by intro u; rw [hz]; exact mk64 u
  have hzl : z64.length = 64 := by rw [hz]; rfl
  have h0 : key ++ z64.drop nk = padS key b 0 := by rw [hz, ← padS_zero key b (by omega), List.drop_replicate, hl]
  have hget := fun i h => padS_get key b i h
  have hset := fun i h => padS_set key b i h
  have HS := Lib.hid hs
  have HZL := Lib.hid hzl
  have H0 := Lib.hid h0
  have HGET := Lib.hid hget
  have HSET := Lib.hid hset
  have HNK := Lib.hid hnk
  have HS0 := Lib.hid (Blk.one w (arr .u8 z64) 5)
  clear hs hz hzl h0 hget hset hnk hl hb
  go_enter Tryd.func75, Tryd.ntmps75
  go_upto_region 3 with (first | ((with_reducible refine aS 10 ?_); refine wpList_copy rfl (.tmp 8) (.tmp 9) rfl w.heap.size 64 64 nk ck ad z64 key 5 rfl rfl (HS0.out.get 0 rfl) (HS.out.below HS0.out.below) HNK.out (by rw [HZL.out]; exact Nat.le_refl _) ?_; rw [H0.out]; intro w1 hb1 hk1; have HI1 := Lib.hid (HS0.out.put 0 rfl hk1 hb1); clear hb1 hk1))
  go_wp2_with fail
  go_loopw [13] (fun v wr => ∃ i : Nat, i ≤ 64 ∧ v = .int .i64 i ∧ Blk w wr [(w.heap.size, arr .u8 (padS key b i), 5)]) (fun v _ => 64 - (intOf v).toNat)
  case atStart => exact ⟨0, Nat.zero_le _, rfl, HI1.out⟩
  clear HI1 HS0
  case round =>
  obtain ⟨i, hi, rfl, hB⟩ := hrel
  by_cases hlt : i < 64
  · have q0 := arr_get' (hB.get 0 rfl) i (by rw [padS_len]; exact hlt)
    have q1 := free_blk (hB.get 0 rfl) i
    rw [HGET.out i hlt] at q0
    have hset := HSET.out i hlt
    generalize key.getD i 0 = y at q0 hset
    have hb1 := hB.cell 0 rfl i (.int .u8 (bits .xor .u8 y b))
    have e2 : (arr .u8 (padS key b i)).setIfInBounds i (.int .u8 (bits .xor .u8 y b)) = arr .u8 (padS key b (i + 1)) := by rw [arr_set, hset]
    have HB1 := Lib.hid (hb1.cast (l' := [(w.heap.size, arr .u8 (padS key b (i + 1)), 5)]) (by rw [← e2]; rfl))
    clear hb1 e2 hset hB
    go_wp2_with fail
    go_roundw
    case rel => exact ⟨i + 1, by omega, by go_num, HB1.out⟩
    case measure => simp [intOf]; omega
  · obtain rfl : i = 64 := by omega
    have HB1 := Lib.hid hB
    clear hB
    go_wp2_with fail
    go_ret
    exact ⟨_, rfl, ⟨HB1.out.get 0 rfl, HB1.out.low 0 rfl⟩, HB1.out.below⟩
theorem msum_any (key : List Int) (ad : Addr) (nk ck : Nat) (sb : Option Addr) (nb cb : Nat) (LB : List (List Int)) (w : World) (hs : Src w (some ad) nk key) (hb : bytes key) (hnk : nk ≤ 64) (hB : SrcL w sb nb LB) (bB : ∀ l ∈ LB, bytes l) (hN : LB.flatten.length ≤ 1125899906842624) (hn : nb ≤ 1099511627770) :
    Calls Tryd.prog 43 #[.slice (some ad) nk ck, .slice sb nb cb] w fun e w' => e = .returned (.agg (arr .u8 (mac key LB.flatten))) ∧ Below w.heap.size w w' := by
  have hpd := fun (b : Int) (u : World) (h : Src u (some ad) nk key) => padded_any key b ad nk ck u h hb hnk
  have hgt : ¬ (64 : Int) < (nk : Int) := by omega
  have l1 : (pad key 54).length = 64 := padS_len _ _ _
  have l2 : (pad key 92).length = 64 := padS_len _ _ _
  have b1 := pad_bytes key 54
  have b2 := pad_bytes key 92
  have hs1 := fun (g : Addr) (c : Nat) (u : World) (h : SrcL u (some g) (1 + nb) ([pad key 54] ++ LB)) => Ha.sum_any (some g) (1 + nb) c _ u h (fun l h => (List.mem_append.1 h).elim (fun h => by simp only [List.mem_singleton] at h; subst h; exact b1) (bB l)) (by rw [List.flatten_append, List.length_append, show ([pad key 54] : List (List Int)).flatten = pad key 54 by simp, l1]; omega) (by omega)
  rw [show ([pad key 54] ++ LB).flatten = pad key 54 ++ LB.flatten by simp] at hs1
  obtain ⟨h1, hh1⟩ : ∃ x, x = Ha.hash (pad key 54 ++ LB.flatten) := ⟨_, rfl⟩
  have hl1 : h1.length = 32 := by rw [hh1]; exact hash_len _
  have hb1 : bytes h1 := by rw [hh1]; exact hash_bytes _
  have hs2 := fun (g : Addr) (c : Nat) (u : World) (h : SrcL u (some g) 2 [pad key 92, h1]) => Ha.sum_any (some g) 2 c _ u h (by intro l h; simp only [List.mem_cons, List.not_mem_nil, or_false] at h; rcases h with rfl | rfl; exact b2; exact hb1) (by rw [show ([pad key 92, h1] : List (List Int)).flatten = pad key 92 ++ h1 by simp, List.length_append, l2, hl1]; decide) (by decide)
  rw [show ([pad key 92, h1] : List (List Int)).flatten = pad key 92 ++ h1 by simp] at hs2
  have hm : mac key LB.flatten = Ha.hash (pad key 92 ++ h1) := by rw [hh1]; rfl
  rw [hm]
  rw [← hh1] at hs1
  obtain ⟨h2, hh2⟩ : ∃ x, x = Ha.hash (pad key 92 ++ h1) := ⟨_, rfl⟩
  have hl2 : h2.length = 32 := by rw [hh2]; exact hash_len _
  rw [← hh2] at hs2 ⊢
  have hp1 := hpd 54
  have hp2 := hpd 92
  obtain ⟨p1, hpp1⟩ : ∃ x, x = pad key 54 := ⟨_, rfl⟩
  obtain ⟨p2, hpp2⟩ : ∃ x, x = pad key 92 := ⟨_, rfl⟩
  rw [← hpp1] at hs1 hp1 l1
  rw [← hpp2] at hs2 hp2 l2
  have HP1 := Lib.hid hp1
  have HP2 := Lib.hid hp2
  have HS1 := Lib.hid hs1
  have HS2 := Lib.hid hs2
  have HL1 := Lib.hid l1
  have HL2 := Lib.hid l2
  have HH1 := Lib.hid hl1
  have HH2 := Lib.hid hl2
  have HS := Lib.hid hs
  have HSB := Lib.hid hB
  have HN := Lib.hid hn
  obtain ⟨zn, hzn⟩ : ∃ zs : List Int, zs = List.replicate 32 0 := ⟨_, rfl⟩
  have HZzn : Hid (∀ w, (zeroValue 23).run Tryd.prog w = .ok (.agg (arr .u8 zn)) w) := Lib.hid (by intro w; rw [hzn]; exact zero_num w)
  have HLzn : Hid (zn.length = 32) := Lib.hid (by rw [hzn]; rfl)
  have HI0 := Lib.hid (Blk.one w (arr .u8 zn) 23)
  clear hpp1 hpp2 hp1 hp2 hpd l1 l2 b1 b2 hs1 hs2 hh1 hl1 hb1 hm hh2 hl2 hs hB hn hN bB hb hnk hzn
  go_enter Tryd.func43, Tryd.ntmps43
  go_upto_region 1 with (first | ((with_reducible refine aS 4 ?_); refine wpList_alloc_row rfl 23 rfl _ (HZzn.out _) ?_))
  (try simp only [World.size_alloc, Act.put, sA, sZ, sS])
  generalize (w.alloc (.cells (arr .u8 zn) 23)) = wb at HI0 ⊢
  go_upto_region 5 with (first | ((with_reducible show Calls _ 75 _ _ _); go_at_call 75; refine (HP1.out _ (HS.out.below HI0.out.below)).mono ?_; rintro e w1 ⟨gp, rfl, ⟨h1', h2'⟩, hb1⟩; have HI1 := Lib.hid (Sl.Blk.add HI0.out hb1 h1' h2'); clear h1' h2' hb1) | ((with_reducible refine aS 18 ?_); refine wpList_appLL rfl (.tmp 16) (.tmp 17) rfl _ 0 1 [p1] sb nb cb LB rfl rfl (csrcL_one (src_all (HI1.out.get 1 rfl) 64 HL1.out) (Nat.le_refl _)) (HSB.out.below (HI1.out.below.alloc HI1.out.below.size _)) (by have := HN.out; omega) ?_; intro ad' cap w2 hL hb2; have HSL := Lib.hid hL; have HI2 := Lib.hid (HI1.out.kept (below_new hb2)); clear hL hb2) | ((with_reducible show Calls _ 74 _ _ _); go_at_call 74; refine (HS1.out _ _ _ HSL.out).mono ?_; rintro e w3 ⟨rfl, hb3⟩; have HI3 := Lib.hid (HI2.out.kept hb3); clear hb3) | ((with_reducible refine aS 6 ?_); refine wpList_alloc_row rfl 23 rfl _ (HZzn.out _) ?_; have HI4 := Lib.hid (HI3.out.alloc (arr .u8 zn) 23); generalize w3.heap.size = g6 at HI4 ⊢; generalize w3.alloc (.cells (arr .u8 zn) 23) = w4 at HI4 ⊢) | ((with_reducible refine aT 6 ?_); refine wpList_store_whole rfl 23 _ _ rfl (g6) _ _ 23 (HI4.out.get 2 rfl) rfl rfl (arr_len2 _ _ HH1.out HLzn.out) (num_s HH1.out) (all_arr _ _) ?_; intro w5 hb5 hk5 hz5; have HI5 := Lib.hid (HI4.out.put 2 rfl hk5 hb5); clear hb5 hk5 hz5))
  (try simp only [World.size_alloc, Act.put, sA, sZ, sS])
  refine wp_region_held_drew (S := fun _ => True) (by kernel_rfl) trivial (fun hHeld => ?_)
  have HBd := Lib.hid (HI5.out.drew)
  generalize w5.drew = wd at HBd ⊢
  refine wpAnyH_take (i := 0) (oi := (⟨some 20, _, _, _, _, none⟩ : Oper)) (v := .slice (some ad) nk ck) rfl (by kernel_rfl) (by kernel_rfl) (by kernel_rfl) (fun _ _ _ h => h) (Or.inl ⟨by rfl, ?hy6201⟩) trivial ?rest6201
  case hy6201 => (intro w _; (try dsimp only); go_simp; try (with_reducible rfl))
  (try simp only [Act.put, sA, sZ, sS])
  refine wpAnyH_take (i := 2) (oi := (⟨some 22, _, _, _, _, none⟩ : Oper)) (v := .slice (some ⟨g6, 0, none⟩) 32 32) rfl (by kernel_rfl) (by kernel_rfl) (by kernel_rfl) (fun _ _ _ h => h) (Or.inl ⟨by rfl, ?hy6202⟩) trivial ?rest6202
  case hy6202 => (intro w _; (try dsimp only); go_simp; try (with_reducible rfl))
  (try simp only [Act.put, sA, sZ, sS])
  refine wpAnyH_ready (rs := [1]) (by kernel_rfl) (by simp) ?_
  refine AllReadyH.cons (o := (⟨some 21, _, _, _, _, none⟩ : Oper)) rfl (fun K hK => ?_) AllReadyH.nil
  go_simp
  go_at_call 75
  refine (HP2.out _ (HS.out.below HBd.out.below)).mono ?_
  rintro e w6 ⟨gq, rfl, ⟨h1', h2'⟩, hb1⟩
  have HI6 := Lib.hid (Sl.Blk.add HBd.out hb1 h1' h2')
  clear h1' h2' hb1
  (try dsimp only)
  refine hK.out _ _ trivial (fun _ => ?_)
  clear hK K
  (try simp only [Act.put, sA, sZ, sS])
  refine wpAnyH_ready (rs := [3]) (by kernel_rfl) (by simp) ?_
  refine AllReadyH.cons (o := (⟨some 23, _, _, _, _, none⟩ : Oper)) rfl (fun K hK => ?_) AllReadyH.nil
  go_simp
  refine hK.out _ _ trivial (fun _ => ?_)
  clear hK K
  (try simp only [Act.put, sA, sZ, sS])
  refine wpAnyH_ready (rs := [4]) (by kernel_rfl) (by simp) ?_
  refine AllReadyH.cons (o := (⟨some 24, _, _, _, _, none⟩ : Oper)) rfl (fun K hK => ?_) AllReadyH.nil
  go_simp
  go_at_call 74
  refine (HS2.out _ _ _ (src_two (blk_new w6 _) ((src_all (HI6.out.get 3 rfl) 64 HL2.out).below ((Below.refl _ w6).alloc (Nat.le_refl _) _)) ((src_all (HI6.out.get 2 rfl) 32 HH1.out).below ((Below.refl _ w6).alloc (Nat.le_refl _) _)) (Nat.le_refl _) (Nat.le_refl _))).mono ?_
  rintro e w7 ⟨rfl, hb7⟩
  have HI7 := Lib.hid (HI6.out.kept (below_new hb7))
  clear hb7
  (try dsimp only)
  refine hK.out _ _ trivial (fun _ => ?_)
  clear hK K
  (try simp only [Act.put, sA, sZ, sS])
  refine wpAnyH_ready (rs := [5]) (by kernel_rfl) (by simp) ?_
  refine AllReadyH.cons (o := (⟨none, _, _, _, _, none⟩ : Oper)) rfl (fun K hK => ?_) AllReadyH.nil
  refine step_store_whole rfl 23 (.tmp 4) (.tmp 24) rfl (w.heap.size) _ _ 23 (HI7.out.get 0 rfl) rfl rfl (arr_len2 _ _ HH2.out HLzn.out) (num_s HH2.out) (all_arr _ _) ?_
  intro w8 hb8 hk8 hz8
  have HI8 := Lib.hid (HI7.out.put 0 rfl hk8 hb8)
  clear hb8 hk8 hz8
  refine hK.out _ _ trivial (fun _ => ?_)
  clear hK K
  (try simp only [Act.put, sA, sZ, sS])
  refine wpAnyH_done (by kernel_rfl) ?_ _
  (try simp only [Exit.then])
  go_wp2_with fail
  refine bodyPost_ret (results_cell_row rfl _ _ (w.heap.size) 23 _ (0, 0) _ rfl (HI8.out.get 0 rfl) Tryd.underlying23 rfl (num_s HH2.out)) rfl ?_
  exact ⟨rfl, HI8.out.below⟩
end Go.Proofs.YtogebegdgfdijaaDoor.Wr
namespace Go.Proofs.YtogebegdgfdijaaDoor
open Go.RowKit
def sbytes (s : ByteArray) : List Int := s.data.toList.map fun b => (b.toNat : Int)
theorem sbytes_len (s : ByteArray) : (sbytes s).length = s.size := by rw [sbytes, List.length_map, Array.length_toList]; rfl
theorem bytes_sbytes (s : ByteArray) : ∀ x ∈ sbytes s, 0 ≤ x ∧ x ≤ 255 := by
  intro x hx
  simp only [sbytes, List.mem_map] at hx
  obtain ⟨b, _, rfl⟩ := hx
  have := b.toNat_lt
  omega
theorem strCells_sb (s : ByteArray) : Lib.strCells s = (sbytes s).map (Value.int .u8) := by simp [Lib.strCells, sbytes]
theorem run_app8_str {w : World} {B : Nat} {v : Value} {xs : List Int} {s : ByteArray} {u ty : TypeId} (hu : Tryd.prog.underlying u = some .string) (hown : Own8 w B v xs) (hlen : xs.length + s.size ≤ 140737488355328) (hbase : B ≤ w.heap.size) :
    ∃ v' w', (Builtin.append_ #[25, u] ty #[v, .string s]).run Tryd.prog w = .ok v' w' ∧ Own8 w' B v' (xs ++ sbytes s) ∧ w.grownBy w' v.ownBlock := by
  obtain ⟨i0, hi, hz0, hz1, hz2⟩ := info_parts info_u8
  obtain ⟨v', w', hr, h1, h2, -⟩ := Lib.run_append_own_string (P := Tryd.prog) w B 25 u ty 5 i0 Tryd.underlying25 hu hi hz0 hz1 hz2 v xs.length (xs.map (Value.int .u8)) hown s (by simp only [maxLen]; omega) hlen hbase
  refine ⟨v', w', hr, ?_, h2⟩
  rw [strCells_sb, ← List.map_append] at h1
  rwa [show xs.length + s.size = (xs ++ sbytes s).length by rw [List.length_append, sbytes_len]] at h1
theorem wp_app8_str {w : World} {o : Oper} {a : Act} {K : Act → World → Prop} {Q : Exit → Act → World → Prop} (s x : Operand) (u : TypeId) (hu : Tryd.prog.underlying u = some .string)
    (ho : o.op = .call { callee := .builtin .append, args := #[s, x], argTypes := #[25, u] })
    (B : Nat) (v : Value) (xs : List Int) (t : ByteArray) (hs : a.eval s = v) (hx : a.eval x = .string t) (hown : Own8 w B v xs)
    (hlen : xs.length + t.size ≤ 140737488355328) (hbase : B ≤ w.heap.size)
    (h : ∀ v' w', Own8 w' B v' (xs ++ sbytes t) → w.grownBy w' v.ownBlock → K (a.put o.dst v') w') : o.wp Tryd.prog a w K Q := by
  obtain ⟨v', w', hr, h2, h3⟩ := run_app8_str (ty := o.type) hu hown hlen hbase
  unfold Oper.wp execOp
  simp only [ho, resolve, invoke, builtin, Sem.run_bind, Sem.run_pure, Result.andThen_ok, List.map_toArray, List.map_cons, List.map_nil, hs, hx, hr]
  exact h v' w' h2 h3
theorem wpList_app8_str {w : World} {ops : Array Oper} {rest : List Oper} {o : Oper} {a : Act} {Q : Exit → Act → World → Prop} (hgd : o.guard = none) (s x : Operand) (u : TypeId) (hu : Tryd.prog.underlying u = some .string)
    (ho : o.op = .call { callee := .builtin .append, args := #[s, x], argTypes := #[25, u] })
    (B : Nat) (v : Value) (xs : List Int) (t : ByteArray) (hs : a.eval s = v) (hx : a.eval x = .string t) (hown : Own8 w B v xs)
    (hlen : xs.length + t.size ≤ 140737488355328) (hbase : B ≤ w.heap.size)
    (h : ∀ v' w', Own8 w' B v' (xs ++ sbytes t) → w.grownBy w' v.ownBlock → wpList Tryd.prog ops Q rest (a.put o.dst v') w') : wpList Tryd.prog ops Q (o :: rest) a w :=
  wpList_plain hgd fun _ hK => wp_app8_str s x u hu ho B v xs t hs hx hown hlen hbase fun v' w' h2 h3 => hK _ _ (h v' w' h2 h3)
theorem step_app8_str {w : World} {ops : Array Oper} {o : Oper} {a : Act} {K : Act → World → Prop} {Q : Exit → Act → World → Prop} {E : Prop} (hgd : o.guard = none) (s x : Operand) (u : TypeId) (hu : Tryd.prog.underlying u = some .string)
    (ho : o.op = .call { callee := .builtin .append, args := #[s, x], argTypes := #[25, u] })
    (B : Nat) (v : Value) (xs : List Int) (t : ByteArray) (hs : a.eval s = v) (hx : a.eval x = .string t) (hown : Own8 w B v xs)
    (hlen : xs.length + t.size ≤ 140737488355328) (hbase : B ≤ w.heap.size)
    (h : ∀ v' w', Own8 w' B v' (xs ++ sbytes t) → w.grownBy w' v.ownBlock → K (a.put o.dst v') w') :
    if Region.wanted o (yielded ops a.tmps) = true then Oper.wp Tryd.prog o a w K Q else E := by
  have hw : Region.wanted o (yielded ops a.tmps) = true := by simp [Region.wanted, hgd]
  rw [if_pos hw]
  exact wp_app8_str s x u hu ho B v xs t hs hx hown hlen hbase h
theorem conv_str (s : ByteArray) (w : World) : (convert 9 25 (.string s)).run Tryd.prog w = .ok (.slice (some ⟨w.heap.size, 0, none⟩) s.size (grownCap w s.size 0 5)) (Lib.bytesWorld w 5 s) :=
  Lib.run_convert_string_bytes w 9 25 5 s Tryd.underlying9 Tryd.underlying25 Tryd.underlying5
theorem conv_str_below (w : World) (s : ByteArray) : Below w.heap.size w (Lib.bytesWorld w 5 s) :=
  ⟨rfl, rfl, rfl, by rw [Lib.bytesWorld_size]; omega, fun k hk => Lib.bytesWorld_at_old w _ s k hk⟩
theorem conv_str_src (w : World) (s : ByteArray) : Src (Lib.bytesWorld w 5 s) (some ⟨w.heap.size, 0, none⟩) s.size (sbytes s) := by
  refine ⟨sbytes_len s, fun i hi => ⟨_, rfl, ?_⟩⟩
  have e : (⟨w.heap.size, 0, none⟩ : Addr).add i = ⟨w.heap.size, i, none⟩ := by unfold Addr.add; split <;> simp_all
  rw [e, Lib.bytesWorld_cell w _ s i hi]
  have hl : s.data[i]? = some s.data[i] := Array.getElem?_eq_getElem hi
  simp [sbytes, List.getD, hl]
theorem conv_str_cap (w : World) (s : ByteArray) : s.size ≤ grownCap w s.size 0 5 := grownCap_ge w s.size 0 _
section
variable {P : Program}
theorem step_store_part {ops : Array Oper} {o : Oper} {a : Act} {w : World} {K : Act → World → Prop} {Q : Exit → Act → World → Prop} {E : Prop} (hgd : o.guard = none) (ty : TypeId) (x y : Operand) (ho : o.op = .store ty x y)
    (g off : Nat) (cs ds : Array Value) (t : TypeId) (hb : w.heap[g]? = some (.cells cs t (0, 0))) (hx : a.eval x = .pointer (some ⟨g, off, none⟩)) (hy : a.eval y = .agg ds)
    (hs : off + ds.size ≤ cs.size) (hi : (P.info? ty).map (·.size) = some ds.size) (h1 : ds.all (·.oneCell') = true)
    (h : ∀ w', w'.heap[g]? = some (.cells (cs.toList.take off ++ ds.toList ++ cs.toList.drop (off + ds.size)).toArray t (0, 0)) → Kept (fun i => i = g) w w' → w'.heap.size = w.heap.size → K (a.put o.dst undef) w') :
    if Region.wanted o (yielded ops a.tmps) = true then Oper.wp P o a w K Q else E := by
  have hw : Region.wanted o (yielded ops a.tmps) = true := by simp [Region.wanted, hgd]
  rw [if_pos hw]
  refine wp_store_mid ty x y ho g off ds hx hy (fun j hj => ?_) hi h1 (h _ ?_ ?_ ?_)
  · rw [cell_blk hb]
    exact ⟨by rw [Array.getElem?_eq_getElem (by omega)]; rfl, free_blk hb _⟩
  · rw [blk_setCells _ _ _ _ _ _ _ hb (by simpa using hs)]
    simp
  · exact kept_setCells g _ _ _ (Kept.refl _ _) (.inl rfl)
  · have : ∀ (vs : List Value) (o : Nat) (w : World), (w.setCells g o vs).heap.size = w.heap.size := by
      intro vs
      induction vs with
      | nil => intro o w; rfl
      | cons v vs ih => intro o w; rw [World.setCells, ih]; simp [World.setCell]
    exact this _ _ _
end
end Go.Proofs.YtogebegdgfdijaaDoor
namespace Go.Proofs.YtogebegdgfdijaaDoor.Wr
open Go.RowKit Lm Cu Sl
theorem src_three {w : World} {g : Nat} {t : TypeId} {fr : Nat × Nat} {s1 s2 s3 : Option Addr} {n1 n2 n3 c1 c2 c3 : Nat} {x1 x2 x3 : List Int} (h : w.heap[g]? = some (.cells #[.slice s1 n1 c1, .slice s2 n2 c2, .slice s3 n3 c3] t fr))
    (h1 : Src w s1 n1 x1) (h2 : Src w s2 n2 x2) (h3 : Src w s3 n3 x3) (l1 : n1 ≤ c1) (l2 : n2 ≤ c2) (l3 : n3 ≤ c3) : SrcL w (some ⟨g, 0, none⟩) 3 [x1, x2, x3] := by
  have e1 := h1.len
  have e2 := h2.len
  have e3 := h3.len
  subst e1 e2 e3
  refine ⟨rfl, fun i hi => ?_⟩
  match i, hi with
  | 0, _ => exact ⟨_, s1, c1, rfl, by rw [show (⟨g, 0, none⟩ : Addr).add 0 = ⟨g, 0, none⟩ from rfl, cell_blk h]; rfl, l1, h1⟩
  | 1, _ => exact ⟨_, s2, c2, rfl, by rw [show (⟨g, 0, none⟩ : Addr).add 1 = ⟨g, 1, none⟩ from rfl, cell_blk h]; rfl, l2, h2⟩
  | 2, _ => exact ⟨_, s3, c3, rfl, by rw [show (⟨g, 0, none⟩ : Addr).add 2 = ⟨g, 2, none⟩ from rfl, cell_blk h]; rfl, l3, h3⟩
theorem extract_any (salt key : List Int) (ad : Addr) (nk ck : Nat) (sb : Option Addr) (nb cb : Nat) (w : World) (hs : Src w (some ad) nk salt) (hb : bytes salt) (hnk : nk ≤ 64) (hB : Src w sb nb key) (bB : bytes key) (hc : nb ≤ cb) (hn : nb ≤ 1099511627770) :
    Calls Tryd.prog 22 #[.slice (some ad) nk ck, .slice sb nb cb] w fun e w' => e = .returned (.agg (arr .u8 (mac salt key))) ∧ Below w.heap.size w w' := by
  have hms := fun (g : Addr) (c : Nat) (u : World) (h1 : Src u (some ad) nk salt) (h2 : SrcL u (some g) 1 [key]) => msum_any salt ad nk ck (some g) 1 c [key] u h1 hb hnk h2 (by intro l h; simp only [List.mem_singleton] at h; subst h; exact bB) (by rw [show ([key] : List (List Int)).flatten = key by simp, hB.len]; omega) (by decide)
  rw [show ([key] : List (List Int)).flatten = key by simp] at hms
  obtain ⟨h1, hh1⟩ : ∃ x, x = mac salt key := ⟨_, rfl⟩
  rw [← hh1] at hms ⊢
  have HH1 : Hid (h1.length = 32) := Lib.hid (by rw [hh1]; exact mac_len _ _)
  have HMS := Lib.hid hms
  have HS := Lib.hid hs
  have HSB := Lib.hid hB
  have HC := Lib.hid hc
  obtain ⟨zn, hzn⟩ : ∃ zs : List Int, zs = List.replicate 32 0 := ⟨_, rfl⟩
  have HZzn : Hid (∀ w, (zeroValue 23).run Tryd.prog w = .ok (.agg (arr .u8 zn)) w) := Lib.hid (by intro w; rw [hzn]; exact zero_num w)
  have HLzn : Hid (zn.length = 32) := Lib.hid (by rw [hzn]; rfl)
  have HI0 := Lib.hid (Blk.one w (arr .u8 zn) 23)
  clear hh1 hms hs hB hc hzn hb bB hnk hn
  go_enter Tryd.func22, Tryd.ntmps22
  go_upto_region 1 with (first | ((with_reducible refine aS 4 ?_); refine wpList_alloc_row rfl 23 rfl _ (HZzn.out _) ?_))
  (try simp only [World.size_alloc, Act.put, sA, sZ, sS])
  generalize (w.alloc (.cells (arr .u8 zn) 23)) = wb at HI0 ⊢
  go_wp2_with (first | ((with_reducible show Calls _ 43 _ _ _); go_at_call 43; refine (HMS.out _ _ _ (HS.out.below (HI0.out.below.alloc HI0.out.below.size _)) (csrcL_one (HSB.out.below HI0.out.below) HC.out)).mono ?_; rintro e w1 ⟨rfl, hb1⟩; have HI1 := Lib.hid (HI0.out.kept (below_new hb1)); clear hb1) | ((with_reducible refine aT 4 ?_); refine wpList_store_whole rfl 23 _ _ rfl (w.heap.size) _ _ 23 (HI1.out.get 0 rfl) rfl rfl (arr_len2 _ _ HH1.out HLzn.out) (num_s HH1.out) (all_arr _ _) ?_; intro w2 hb2 hk2 hz2; have HI2 := Lib.hid (HI1.out.put 0 rfl hk2 hb2); clear hb2 hk2 hz2))
  (try simp only [Exit.then])
  refine bodyPost_ret (results_cell_row rfl _ _ (w.heap.size) 23 _ (0, 0) _ rfl (HI2.out.get 0 rfl) Tryd.underlying23 rfl (num_s HH1.out)) rfl ?_
  exact ⟨rfl, HI2.out.below⟩
theorem expand_any (key info : List Int) (sb : Option Addr) (nb cb : Nat) (w : World) (hk : key.length = 32) (hb : bytes key) (hB : Src w sb nb info) (bB : bytes info) (hc : nb ≤ cb) (hn : nb ≤ 1099511627770) :
    Calls Tryd.prog 42 #[.agg (arr .u8 key), .slice sb nb cb, .int .i64 32] w fun e w' => ∃ g, e = .returned (.tuple #[.slice (some ⟨g, 0, none⟩) 32 32, .int .i64 0]) ∧ Src w' (some ⟨g, 0, none⟩) 32 (mac key (info ++ [1])) ∧ Below w.heap.size w w' := by
  have hl := hB.len
  have hms := fun (g g2 : Addr) (u : World) (h1 : Src u (some g) 32 key) (h2 : SrcL u (some g2) 3 [[], info, [1]]) => msum_any key g 32 32 (some g2) 3 3 [[], info, [1]] u h1 hb (by decide) h2 (by intro l h; simp only [List.mem_cons, List.not_mem_nil, or_false] at h; rcases h with rfl | rfl | rfl; exact (fun x hx => by simp at hx); exact bB; exact (fun x hx => by simp only [List.mem_singleton] at hx; subst hx; decide)) (by rw [show ([[], info, [1]] : List (List Int)).flatten = info ++ [1] by simp, List.length_append, hl]; simp; omega) (by decide)
  rw [show ([[], info, [1]] : List (List Int)).flatten = info ++ [1] by simp] at hms
  obtain ⟨h1, hh1⟩ : ∃ x, x = mac key (info ++ [1]) := ⟨_, rfl⟩
  rw [← hh1] at hms ⊢
  have HH1 : Hid (h1.length = 32) := Lib.hid (by rw [hh1]; exact mac_len _ _)
  have hsl : ∀ (u : World) (x : Int), x = 1 → Src u sb nb info → SrcL ((u.alloc (.cells #[.int .u8 x] 5)).alloc (.cells #[.slice none 0 0, .slice sb nb cb, .slice (some ⟨u.heap.size, 0, none⟩) 1 1] 25)) (some ⟨u.heap.size + 1, 0, none⟩) 3 [[], info, [1]] := by
    rintro u x rfl h
    have b1 : Below u.heap.size u (u.alloc (.cells #[.int .u8 1] 5)) := (Below.refl _ u).alloc (Nat.le_refl _) _
    have b2 := (Below.refl _ (u.alloc (.cells #[.int .u8 1] 5))).alloc (Nat.le_refl _) (.cells #[.slice none 0 0, .slice sb nb cb, .slice (some ⟨u.heap.size, 0, none⟩) 1 1] 25)
    have e := blk_new (u.alloc (.cells #[.int .u8 1] 5)) (.cells #[.slice none 0 0, .slice sb nb cb, .slice (some ⟨u.heap.size, 0, none⟩) 1 1] 25)
    rw [size1] at e
    exact src_three e ⟨rfl, fun i hi => absurd hi (by simp)⟩ ((h.below b1).below b2) ((src_one u 1).below b2) (Nat.le_refl _) hc (Nat.le_refl _)
  have HMS := Lib.hid hms
  have HSL := Lib.hid hsl
  have HSB := Lib.hid hB
  have HKL := Lib.hid hk
  obtain ⟨zn, hzn⟩ : ∃ zs : List Int, zs = List.replicate 32 0 := ⟨_, rfl⟩
  have HZzn : Hid (∀ w, (zeroValue 23).run Tryd.prog w = .ok (.agg (arr .u8 zn)) w) := Lib.hid (by intro w; rw [hzn]; exact zero_num w)
  have HLzn : Hid (zn.length = 32) := Lib.hid (by rw [hzn]; rfl)
  have HI0 := Lib.hid (Blk.one w (arr .u8 key) 23)
  clear hh1 hms hsl hB hc hzn hb bB hn hk hl
  go_enter Tryd.func42, Tryd.ntmps42
  go_wp2_with fail
  go_loopw [8, 9, 10] (fun v8 v9 v10 wr => (v10 = .int .i64 1 ∧ v8 = .slice none 0 0 ∧ v9 = .slice none 0 0 ∧ Blk w wr [(w.heap.size, arr .u8 key, 23)]) ∨ (v10 = .int .i64 2 ∧ Own8 wr w.heap.size v8 h1 ∧ Below w.heap.size w wr)) (fun _ _ v10 _ => (3 - intOf v10).toNat)
  case atStart => exact Or.inl ⟨rfl, rfl, rfl, HI0.out⟩
  clear HI0
  case round =>
  rcases hrel with ⟨rfl, rfl, rfl, hB⟩ | ⟨rfl, ho, hbl⟩
  · have HB := Lib.hid hB
    clear hB
    go_wp2_with (first | ((with_reducible show Calls _ 43 _ _ _); go_at_call 43; refine (HMS.out _ _ _ (src_all (((HB.out.alloc _ _).alloc _ _).get 0 rfl) 32 HKL.out) (HSL.out _ _ (by decide) (HSB.out.below HB.out.below))).mono ?_; rintro e w1 ⟨rfl, hb1⟩; have HI1 := Lib.hid (HB.out.kept (below_new (below_new hb1))); clear hb1) | ((with_reducible refine aS 11 ?_); refine wpList_alloc_row rfl 23 rfl _ (HZzn.out _) ?_; have HI2 := Lib.hid (HI1.out.alloc (arr .u8 zn) 23); generalize w1.heap.size = g11 at HI2 ⊢; generalize w1.alloc (.cells (arr .u8 zn) 23) = w2 at HI2 ⊢) | ((with_reducible refine aT 11 ?_); refine wpList_store_whole rfl 23 _ _ rfl (g11) _ _ 23 (HI2.out.get 1 rfl) rfl rfl (arr_len2 _ _ HH1.out HLzn.out) (num_s HH1.out) (all_arr _ _) ?_; intro w3 hb3 hk3 hz3; have HI3 := Lib.hid (HI2.out.put 1 rfl hk3 hb3); clear hb3 hk3 hz3) | ((with_reducible refine aS 35 ?_); refine wpList_app8 rfl (.tmp 33) (.tmp 34) rfl w3.heap.size _ [] rfl (Own8.nil _ _) _ 32 32 h1 rfl (src_all (HI3.out.get 1 rfl) 32 HH1.out) (by decide) (Nat.le_refl _) ?_; rw [List.nil_append]; intro v8 w4 how hgr _ _; have hb4 := app8_below (Own8.nil w3 w3.heap.size) hgr (Below.refl _ _) (Nat.le_refl _); have HO4 := Lib.hid (how.mono HI3.out.below.size); have HB4 := Lib.hid (HI3.out.kept hb4).below; clear how hgr hb4))
    go_roundw
    case rel => exact Or.inr ⟨rfl, HO4.out, HB4.out⟩
    case measure => simp [intOf]
  · obtain ⟨sa, c, rfl, hcc, hcm, hsr, hor⟩ := ho.form
    rcases hor with ⟨-, h0, -⟩ | ⟨g, rfl, -, -⟩
    · have := HH1.out
      rw [h0] at this
      exact absurd this (by decide)
    rw [HH1.out] at hcc hsr ⊢
    have HSR := Lib.hid hsr
    have HBL := Lib.hid hbl
    have hc1 : ¬ (c : Int) < 32 := by omega
    clear ho hsr hbl hcm
    go_wp2_with fail
    (try simp only [Exit.then])
    go_ret2
    exact ⟨g, rfl, HSR.out, HBL.out⟩
theorem wpList_s2a' {P : Program} {ops : Array Oper} {rest : List Oper} {o : Oper} {a : Act} {w : World} {Q : Exit → Act → World → Prop} (hg : o.guard = none) (t : TypeId) (x : Operand) (ho : o.op = .sliceToArrayPointer t x) (v u : Value) (hx : a.eval x = v) (hrun : (Instr.arrayAt t v).run P w = .ok u w)
    (h : wpList P ops Q rest (a.put o.dst u) w) : wpList P ops Q (o :: rest) a w := by
  refine wpList_plain hg fun _ hK => ?_
  unfold Oper.wp execOp
  simp only [ho, hx, Sem.run_bind, hrun, Result.andThen_ok]
  exact hK _ _ h
theorem cells_of' {w : World} {g : Nat} {zs : List Int} {n : Nat} (h : Src w (some ⟨g, 0, none⟩) n zs) : w.rangeAt g 0 (zs.map (Value.int .u8)) := by
  intro j v hj
  rw [List.getElem?_map, Option.map_eq_some_iff] at hj
  obtain ⟨y, hy, rfl⟩ := hj
  obtain ⟨hj1, hj2⟩ := List.getElem?_eq_some_iff.1 hy
  obtain ⟨a, e, hc⟩ := h.cell j (by rw [← h.len]; exact hj1)
  cases e
  rw [Addr.add_lit] at hc
  rw [hc]
  simp [List.getD, hy]
theorem wpList_conv' {P : Program} {ops : Array Oper} {rest : List Oper} {o : Oper} {a : Act} {w w' : World} {Q : Exit → Act → World → Prop} (hg : o.guard = none) (t u : TypeId) (x : Operand) (ho : o.op = .convert t u x) (v v' : Value) (hx : a.eval x = v) (hrun : (convert t u v).run P w = .ok v' w')
    (h : wpList P ops Q rest (a.put o.dst v') w') : wpList P ops Q (o :: rest) a w := by
  refine wpList_plain hg fun _ hK => ?_
  unfold Oper.wp execOp
  simp only [ho, hx, Sem.run_bind, hrun, Result.andThen_ok]
  exact hK _ _ h
theorem key_any (key : List Int) (s : ByteArray) (w : World) (hk : key.length = 32) (hb : bytes key) (hn : s.size ≤ 1099511627770) :
    Calls Tryd.prog 21 #[.agg (arr .u8 key), .string s] w fun e w' => e = .returned (.agg (arr .u8 (mac key (sbytes s ++ [1])))) ∧ Below w.heap.size w w' := by
  have hex := fun (sb : Option Addr) (cb : Nat) (u : World) (h : Src u sb s.size (sbytes s)) (hc : s.size ≤ cb) => expand_any key (sbytes s) sb s.size cb u hk hb h (bytes_sbytes s) hc hn
  obtain ⟨h1, hh1⟩ : ∃ x, x = mac key (sbytes s ++ [1]) := ⟨_, rfl⟩
  rw [← hh1] at hex ⊢
  have HH1 : Hid (h1.length = 32) := Lib.hid (by rw [hh1]; exact mac_len _ _)
  have HEX := Lib.hid hex
  have HKL := Lib.hid hk
  obtain ⟨zn, hzn⟩ : ∃ zs : List Int, zs = List.replicate 32 0 := ⟨_, rfl⟩
  have HZzn : Hid (∀ w, (zeroValue 23).run Tryd.prog w = .ok (.agg (arr .u8 zn)) w) := Lib.hid (by intro w; rw [hzn]; exact zero_num w)
  have HLzn : Hid (zn.length = 32) := Lib.hid (by rw [hzn]; rfl)
  have HI0 := Lib.hid (Blk.two w (arr .u8 key) (arr .u8 zn) 23 23)
  clear hh1 hex hb hk hn hzn
  go_enter Tryd.func21, Tryd.ntmps21
  go_upto_region 1 with (first | ((with_reducible refine aS 4 ?_); refine wpList_alloc_row rfl 23 rfl _ (HZzn.out _) ?_))
  (try simp only [World.size_alloc, Act.put, sA, sZ, sS])
  generalize ((w.alloc (.cells (arr .u8 key) 23)).alloc (.cells (arr .u8 zn) 23)) = wb at HI0 ⊢
  go_wp2_with (first | ((with_reducible refine aS 8 ?_); refine wpList_load_part rfl 23 _ rfl (w.heap.size) 0 _ 23 (0, 0) _ (HI0.out.get 0 rfl) rfl .u8 key (arr_part _ _) Tryd.underlying23 rfl (num_i HKL.out) ?_) | ((with_reducible refine aS 10 ?_); refine wpList_conv' rfl 9 25 (.tmp 9) rfl _ _ rfl (conv_str s _) ?_; have HS1 := Lib.hid (conv_str_src wb s); have HC1 := Lib.hid (conv_str_cap wb s); have HI1 := Lib.hid (HI0.out.kept (conv_str_below wb s)); generalize Lib.bytesWorld wb 5 s = w1 at HS1 HI1 ⊢; generalize grownCap wb s.size 0 5 = c1 at HC1 ⊢) | ((with_reducible show Calls _ 42 _ _ _); go_at_call 42; refine (HEX.out _ _ _ HS1.out HC1.out).mono ?_; rintro e w2 ⟨g2, rfl, hs2, hb2⟩; have HS2 := Lib.hid hs2; have HI2 := Lib.hid (HI1.out.kept hb2); clear hs2 hb2) | ((with_reducible refine aS 15 ?_); refine wpList_s2a' rfl 23 (.tmp 14) rfl (.slice (some ⟨g2, 0, none⟩) 32 32) (.pointer (some ⟨g2, 0, none⟩)) rfl (by first | rfl | kernel_rfl) ?_) | ((with_reducible refine aS 16 ?_); refine wpList_load_mid rfl 23 (.tmp 15) rfl g2 0 rfl (h1.map (Value.int .u8)) _ (cells_of' HS2.out) Tryd.underlying23 rfl (by rw [List.length_map]; exact num_i HH1.out) ?_) | ((with_reducible refine aT 4 ?_); refine wpList_store_whole rfl 23 _ _ rfl (w.heap.size + 1) _ _ 23 (HI2.out.get 1 rfl) rfl rfl (arr_len2 _ _ HH1.out HLzn.out) (num_s HH1.out) (all_arr _ _) ?_; intro w3 hb3 hk3 hz3; have HI3 := Lib.hid (HI2.out.put 1 rfl hk3 hb3); clear hb3 hk3 hz3))
  (try simp only [Exit.then])
  refine bodyPost_ret (results_cell_row rfl _ _ (w.heap.size + 1) 23 _ (0, 0) _ rfl (HI3.out.get 1 rfl) Tryd.underlying23 rfl (num_s HH1.out)) rfl ?_
  exact ⟨rfl, HI3.out.below⟩
theorem wkey_any (es zs : List Int) (w : World) (he : es.length = 32) (hz : zs.length = 32) (be : bytes es) (bz : bytes zs) :
    Calls Tryd.prog 12 #[.agg (arr .u8 es), .agg (arr .u8 zs)] w fun e w' => e = .returned (.agg (arr .u8 (wkey es zs))) ∧ Below w.heap.size w w' := by
  have hex := fun (g1 g2 : Addr) (u : World) (h1 : Src u (some g1) 32 es) (h2 : Src u (some g2) 32 zs) => extract_any es zs g1 32 32 (some g2) 32 32 u h1 be (by decide) h2 bz (Nat.le_refl _) (by decide)
  have hky := fun (u : World) => key_any (mac es zs) ⟨#[119, 114, 97, 112]⟩ u (mac_len _ _) (mac_bytes _ _) (by decide)
  rw [show mac (mac es zs) (sbytes ⟨#[119, 114, 97, 112]⟩ ++ [1]) = wkey es zs from rfl] at hky
  obtain ⟨m1, hm1⟩ : ∃ x, x = mac es zs := ⟨_, rfl⟩
  obtain ⟨k1, hk1⟩ : ∃ x, x = wkey es zs := ⟨_, rfl⟩
  rw [← hm1] at hex hky
  rw [← hk1] at hky ⊢
  have HM1 : Hid (m1.length = 32) := Lib.hid (by rw [hm1]; exact mac_len _ _)
  have HK1 : Hid (k1.length = 32) := Lib.hid (by rw [hk1]; exact wkey_len _ _)
  have HEX := Lib.hid hex
  have HKY := Lib.hid hky
  have HEL := Lib.hid he
  have HZL := Lib.hid hz
  obtain ⟨zn, hzn⟩ : ∃ zs : List Int, zs = List.replicate 32 0 := ⟨_, rfl⟩
  have HZzn : Hid (∀ w, (zeroValue 23).run Tryd.prog w = .ok (.agg (arr .u8 zn)) w) := Lib.hid (by intro w; rw [hzn]; exact zero_num w)
  have HLzn : Hid (zn.length = 32) := Lib.hid (by rw [hzn]; rfl)
  have HI0 := Lib.hid (Blk.three w (arr .u8 es) (arr .u8 zs) (arr .u8 zn) 23 23 23)
  clear hm1 hk1 hex hky he hz be bz hzn
  go_enter Tryd.func12, Tryd.ntmps12
  go_upto_region 1 with (first | ((with_reducible refine aS 4 ?_); refine wpList_alloc_row rfl 23 rfl _ (HZzn.out _) ?_))
  (try simp only [World.size_alloc, Act.put, sA, sZ, sS])
  generalize (((w.alloc (.cells (arr .u8 es) 23)).alloc (.cells (arr .u8 zs) 23)).alloc (.cells (arr .u8 zn) 23)) = wb at HI0 ⊢
  refine wp_region_lin (fun (fF : Fill) (uF : World) => (∀ v, fF 0 = some v → v = .slice (some ⟨w.heap.size, 0, none⟩) 32 32 ∧ True) ∧ (∀ v, fF 1 = some v → v = .slice (some ⟨w.heap.size + 1, 0, none⟩) 32 32 ∧ True) ∧ (∀ v, fF 2 = some v → v = .agg (arr .u8 m1) ∧ True) ∧ (∀ v, fF 3 = some v → v = .agg (arr .u8 k1) ∧ True) ∧ Blk w uF ([(w.heap.size, arr .u8 es, 23), (w.heap.size + 1, arr .u8 zs, 23), (w.heap.size + 1 + 1, (if (fF 4).isSome = true then arr .u8 k1 else arr .u8 zn), 23)])) (by kernel_rfl) (by kernel_rfl) ?zw1 ?sw1 ?ew1
  case zw1 => exact ⟨fun _ h => (by cases h), fun _ h => (by cases h), fun _ h => (by cases h), fun _ h => (by cases h), HI0.out.drew⟩
  case sw1 =>
    refine LinAll.cons (fun fF bF uF kF hJF hfF hcF hupF hsF hKF => ?_) ?_
    · obtain ⟨j0, j1, j2, j3, hB⟩ := hJF
      have e2 : bF.eval (.tmp 2) = .pointer (some ⟨w.heap.size, 0, none⟩) := hsF.old' 2 (by kernel_rfl) rfl
      exact lin_pure rfl (.slice (some ⟨w.heap.size, 0, none⟩) 32 32) (by simp only [execOp, e2]; first | rfl | (go_simp; done)) (hKF _ _ ⟨fun _ h => ⟨sI h, trivial⟩, j1, j2, j3, hB⟩)
    refine LinAll.cons (fun fF bF uF kF hJF hfF hcF hupF hsF hKF => ?_) ?_
    · obtain ⟨j0, j1, j2, j3, hB⟩ := hJF
      have e3 : bF.eval (.tmp 3) = .pointer (some ⟨w.heap.size + 1, 0, none⟩) := hsF.old' 3 (by kernel_rfl) rfl
      exact lin_pure rfl (.slice (some ⟨w.heap.size + 1, 0, none⟩) 32 32) (by simp only [execOp, e3]; first | rfl | (go_simp; done)) (hKF _ _ ⟨j0, fun _ h => ⟨sI h, trivial⟩, j2, j3, hB⟩)
    refine LinAll.cons (fun fF bF uF kF hJF hfF hcF hupF hsF hKF => ?_) ?_
    · obtain ⟨j0, j1, j2, j3, hB⟩ := hJF
      obtain ⟨e5, p5⟩ := hsF.at hupF 0 5 (by kernel_rfl) rfl j0
      obtain ⟨e6, p6⟩ := hsF.at hupF 1 6 (by kernel_rfl) rfl j1
      refine lin_call rfl 22 [Operand.tmp 5, Operand.tmp 6] _ [.slice (some ⟨w.heap.size, 0, none⟩) 32 32, .slice (some ⟨w.heap.size + 1, 0, none⟩) 32 32] rfl (by simp only [List.map_cons, List.map_nil, e5, e6] <;> rfl) (fun _ _ => by kernel_rfl) ?_
      refine Calls.mono (HEX.out _ _ _ (src_all (hB.get 0 rfl) 32 HEL.out) (src_all (hB.get 1 rfl) 32 HZL.out)) ?_
      rintro e w1 ⟨rfl, hb⟩
      exact ⟨_, rfl, hKF _ _ ⟨j0, j1, fun _ h => ⟨sI h, trivial⟩, j3, hB.kept hb⟩⟩
    refine LinAll.cons (fun fF bF uF kF hJF hfF hcF hupF hsF hKF => ?_) ?_
    · obtain ⟨j0, j1, j2, j3, hB⟩ := hJF
      obtain ⟨e7, p7⟩ := hsF.at hupF 2 7 (by kernel_rfl) rfl j2
      refine lin_call rfl 21 [Operand.tmp 7, Operand.const (Value.string { data := #[119, 114, 97, 112] })] _ [.agg (arr .u8 m1), .string { data := #[119, 114, 97, 112] }] rfl (by simp only [List.map_cons, List.map_nil, e7] <;> rfl) (fun _ _ => by kernel_rfl) ?_
      refine Calls.mono (HKY.out _) ?_
      rintro e w1 ⟨rfl, hb⟩
      exact ⟨_, rfl, hKF _ _ ⟨j0, j1, j2, fun _ h => ⟨sI h, trivial⟩, hB.kept hb⟩⟩
    refine LinAll.cons (fun fF bF uF kF hJF hfF hcF hupF hsF hKF => ?_) ?_
    · obtain ⟨j0, j1, j2, j3, hB⟩ := hJF
      have e4 : bF.eval (.tmp 4) = .pointer (some ⟨w.heap.size + 1 + 1, 0, none⟩) := hsF.old' 4 (by kernel_rfl) rfl
      obtain ⟨e8, p8⟩ := hsF.at hupF 3 8 (by kernel_rfl) rfl j3
      have hB' := hB
      rw [hfF] at hB'
      refine step_store_whole rfl 23 (.tmp 4) (.tmp 8) rfl (w.heap.size + 1 + 1) (arr .u8 zn) _ 23 (hB'.get 2 rfl) e4 e8 (arr_len2 _ _ HK1.out HLzn.out) (num_s HK1.out) (all_arr _ _) ?_
      intro w1 hb1 hk1 hz1
      have hB1 : Blk w w1 ([(w.heap.size, arr .u8 es, 23), (w.heap.size + 1, arr .u8 zs, 23), (w.heap.size + 1 + 1, (if ((some undef : Option Value)).isSome = true then arr .u8 k1 else arr .u8 zn), 23)]) := hB'.put 2 rfl hk1 hb1
      exact hKF undef w1 ⟨j0, j1, j2, j3, hB1⟩
    exact LinAll.nil
  case ew1 =>
  intro fF uw1 hall hJF
  obtain ⟨j0, j1, j2, j3, hB⟩ := hJF
  obtain ⟨v0, h0⟩ := sE (hall 0 (by decide))
  obtain ⟨rfl, p0⟩ := j0 _ h0
  obtain ⟨v1, h1⟩ := sE (hall 1 (by decide))
  obtain ⟨rfl, p1⟩ := j1 _ h1
  obtain ⟨v2, h2⟩ := sE (hall 2 (by decide))
  obtain ⟨rfl, p2⟩ := j2 _ h2
  obtain ⟨v3, h3⟩ := sE (hall 3 (by decide))
  obtain ⟨rfl, p3⟩ := j3 _ h3
  obtain ⟨v4, h4⟩ := sE (hall 4 (by decide))
  rw [h4] at hB
  have HBw1 : Hid (Blk w uw1 [(w.heap.size, arr .u8 es, 23), (w.heap.size + 1, arr .u8 zs, 23), (w.heap.size + 1 + 1, arr .u8 k1, 23)]) := Lib.hid hB
  simp only [laid, Nat.zero_add, Nat.reduceAdd, h0, h1, h2, h3, h4, Act.put, sA, sZ, sS]
  clear j0 j1 j2 j3 hB h0 h1 h2 h3 h4 hall fF HI0
  clear p0 p1 p2 p3
  (try simp only [Exit.then])
  go_wp2_with fail
  (try simp only [Exit.then])
  refine bodyPost_ret (results_cell_row rfl _ _ (w.heap.size + 1 + 1) 23 _ (0, 0) _ rfl (HBw1.out.get 2 rfl) Tryd.underlying23 rfl (num_s HK1.out)) rfl ?_
  exact ⟨rfl, HBw1.out.below⟩
end Go.Proofs.YtogebegdgfdijaaDoor.Wr
namespace Go.Proofs.YtogebegdgfdijaaDoor.Wr
open Go.RowKit
theorem info_u8w : (Tryd.prog.info? 5).map (fun i => (i.zero, i.size, i.bytes)) = some (some (.int .u8 0), 1, 1) := by kernel_rfl
/-- append onto all of an array: new memory. -/
theorem step_append_new {w : World} {ops : Array Oper} {o : Oper} {a : Act} {K : Act → World → Prop} {Q : Exit → Act → World → Prop} {E : Prop} (hgd : o.guard = none) (s x : Operand)
    (ho : o.op = .call { callee := .builtin .append, args := #[s, x], argTypes := #[25, 25] }) (g n m c : Nat) (a2 : Addr) (xs ys : List Int) (hs : a.eval s = .slice (some ⟨g, 0, none⟩) n n) (hx : a.eval x = .slice (some a2) m c)
    (h1 : Src w (some ⟨g, 0, none⟩) n xs) (h2 : Src w (some a2) m ys) (hm : 0 < m) (hle : n + m ≤ 1099511627776)
    (h : ∀ g' cap w', Src w' (some ⟨g', 0, none⟩) (n + m) (xs ++ ys) → n + m ≤ cap → Below w.heap.size w w' → K (a.put o.dst (.slice (some ⟨g', 0, none⟩) (n + m) cap)) w') :
    if Region.wanted o (yielded ops a.tmps) = true then Oper.wp Tryd.prog o a w K Q else E := by
  have hw : Region.wanted o (yielded ops a.tmps) = true := by simp [Region.wanted, hgd]
  rw [if_pos hw]
  obtain ⟨i0, hi, hz⟩ := Option.map_eq_some_iff.1 info_u8w
  simp only [Prod.mk.injEq] at hz
  obtain ⟨z0, z1, z2⟩ := hz
  obtain ⟨v', w', hrun, hown, hgr⟩ := run_append_arg_grows (P := Tryd.prog) w 25 o.type 5 i0 (.int .u8 0) 1 1 Tryd.underlying25 hi z0 z1 z2 rfl (by decide) ⟨g, 0, none⟩ n n (xs.map (Value.int .u8)) (by simp [h1.len]) (src_news h1 _ rfl) a2 m c (ys.map (Value.int .u8)) (by simp [h2.len]) (src_news h2 _ rfl) (by omega) (by unfold maxLen; omega) (by omega)
  have hb : Below w.heap.size w w' := ⟨hgr.os, hgr.tape, hgr.output, hgr.size, fun k hk => hgr.block k hk (by simp)⟩
  unfold Oper.wp execOp
  simp only [ho, resolve, invoke, builtin, Sem.run_bind, Sem.run_pure, Result.andThen_ok, List.map_toArray, List.map_cons, List.map_nil, hs, hx, hrun]
  rcases hown.2 with ⟨-, h0⟩ | ⟨g', cap, cur, rfl, -, -, hcap, -⟩
  · exact absurd h0 (by omega)
  · refine h g' cap w' ⟨by rw [List.length_append, h1.len, h2.len], fun j hj => ⟨_, rfl, ?_⟩⟩ hcap hb
    rw [← List.map_append] at hown
    refine World.ownsRow.cells hown (g := g') rfl j _ ?_
    have hj2 : j < (xs ++ ys).length := by rw [List.length_append, h1.len, h2.len]; exact hj
    rw [List.getElem?_map, List.getD, List.getElem?_eq_getElem hj2]
    rfl
end Go.Proofs.YtogebegdgfdijaaDoor.Wr
namespace Go.Proofs.YtogebegdgfdijaaDoor.Wr
open Go.RowKit Lm Cu Fp
def n0 : List Int := List.replicate 12 0
/-- What the draw's secret shares with the key wraps the key, behind the draw's public number. -/
def sealed (T D : Nat) (x : List Int) : List Int := Ae.seal' (wkey (n32 (x25519 D 9)) (n32 (x25519 D T))) n0 x (n32 T)
def wres (T D : Nat) (x : List Int) : List Int := if x25519 D T = 0 then [] else n32 (x25519 D 9) ++ sealed T D x
def werr (T D : Nat) : Int := if x25519 D T = 0 then 21 else 0
def ures (S : Nat) (b : List Int) : List Int × Int :=
  if b.length = 80 then
    if x25519 S (hnum (b.take 32)) = 0 then (n32 0, 21)
    else if Ae.okay (wkey (b.take 32) (n32 (x25519 S (hnum (b.take 32))))) n0 (b.drop 32) (n32 (x25519 S 9)) then (Ae.opened (wkey (b.take 32) (n32 (x25519 S (hnum (b.take 32))))) n0 (b.drop 32) (n32 (x25519 S 9)), 0)
    else (n32 0, 10)
  else (n32 0, 4)
theorem n0_len : n0.length = 12 := rfl
theorem n0_bytes : bytes n0 := by intro x hx; have := List.eq_of_mem_replicate hx; subst this; decide
theorem sealed_len (T D : Nat) (x : List Int) (h : x.length = 32) : (sealed T D x).length = 48 := by rw [sealed, Ae.seal_len, h]
theorem opened_len (k n b d : List Int) (h : Ae.okay k n b d = true) (hb : b.length = 48) : (Ae.opened k n b d).length = 32 := by
  rw [Ae.opened, if_pos h, Ch.turn_len, List.length_take, hb]
  rfl
end Go.Proofs.YtogebegdgfdijaaDoor.Wr
namespace Go.Proofs.YtogebegdgfdijaaDoor.Wr
open Go.RowKit Lm Cu Sl Fp
theorem zero_non (w : World) : (zeroValue 40).run Tryd.prog w = .ok (.agg (arr .u8 (List.replicate 12 0))) w := by kernel_rfl
theorem build_non (w : World) : (Instr.build 40 #[]).run Tryd.prog w = .ok (.agg (arr .u8 (List.replicate 12 0))) w := by kernel_rfl
theorem wrap_any {ts ds xs : List Int} (T D : Nat) (w : World) (hT : K32 ts T) (hD : K32 ds D) (hx : xs.length = 32) (bx : bytes xs) :
    Calls Tryd.prog 5 #[.agg (arr .u8 ts), .agg (arr .u8 ds), .agg (arr .u8 xs)] w fun e w' => (∃ sa c, e = .returned (.tuple #[.slice sa (wres T D xs).length c, .int .i64 (werr T D)]) ∧ Src w' sa (wres T D xs).length (wres T D xs) ∧ (wres T D xs).length ≤ c) ∧ Below w.heap.size w w' := by
  have hpb := fun (u : World) => lpublic_any D u hD
  have hsh := fun (u : World) => lshared_any D T u hD hT
  obtain ⟨es, hes⟩ : ∃ x, x = n32 (x25519 D 9) := ⟨_, rfl⟩
  obtain ⟨zs, hzs⟩ : ∃ x, x = n32 (x25519 D T) := ⟨_, rfl⟩
  have hpb2 : ∀ u : World, Calls Tryd.prog 6 #[.agg (arr .u8 ds)] u fun e w' => e = .returned (.agg (arr .u8 es)) ∧ Below u.heap.size u w' := by
    intro u
    refine (hpb u).mono ?_
    rintro e w' ⟨z, rfl, h1, h2⟩
    obtain rfl : z = es := by rw [hes]; exact h1.1
    exact ⟨rfl, h2⟩
  have hsh2 : ∀ u : World, Calls Tryd.prog 10 #[.agg (arr .u8 ds), .agg (arr .u8 ts)] u fun e w' => e = .returned (.tuple #[.agg (arr .u8 zs), .int .i64 (werr T D)]) ∧ Below u.heap.size u w' := by
    intro u
    refine (hsh u).mono ?_
    rintro e w' ⟨z, rfl, h1, h2⟩
    obtain rfl : z = zs := by rw [hzs]; exact h1.1
    exact ⟨rfl, h2⟩
  have hel : es.length = 32 := by rw [hes]; exact n32_len _
  have hzl : zs.length = 32 := by rw [hzs]; exact n32_len _
  have bes : bytes es := by rw [hes]; exact n32_bytes _
  have bzs : bytes zs := by rw [hzs]; exact n32_bytes _
  have bts : bytes ts := by rw [hT.1]; exact n32_bytes T
  have hwk := fun (u : World) => wkey_any es zs u hel hzl bes bzs
  obtain ⟨kv, hkv⟩ : ∃ x, x = wkey es zs := ⟨_, rfl⟩
  have hkl : kv.length = 32 := by rw [hkv]; exact wkey_len _ _
  have bkv : bytes kv := by rw [hkv]; exact wkey_bytes _ _
  have hsd : sealed T D xs = Ae.seal' kv n0 xs ts := by rw [sealed, ← hes, ← hzs, ← hkv, show n32 T = ts from hT.1.symm]
  have hsl := sealed_len T D xs hx
  rw [← hkv] at hwk
  have hse : ∀ (u : World) (g1 g2 : Addr), Src u (some g1) 32 xs → Src u (some g2) 32 ts → Calls Tryd.prog 11 #[.agg (arr .u8 kv), .agg (arr .u8 n0), .slice (some g1) 32 32, .slice (some g2) 32 32] u fun e w' => ∃ (a : Addr) (c : Nat), e = .returned (.slice (some a) 48 c) ∧ Src w' (some a) 48 (sealed T D xs) ∧ Below u.heap.size u w' := by
    intro u g1 g2 h1 h2
    refine (Ae.seal_any kv n0 xs ts (some g1) (some g2) 32 32 32 32 u hkl n0_len bkv n0_bytes h1 h2 bts (by decide) (by decide) (Nat.le_refl _)).mono ?_
    rintro e w' ⟨v, rfl, ho, hb⟩
    rw [← hsd] at ho
    obtain ⟨sa, c, rfl, -, -, h3, hor⟩ := ho.form
    rw [hsl] at h3 ⊢
    rcases hor with ⟨-, h0, -⟩ | ⟨g, rfl, -, -⟩
    · rw [h0] at hsl; exact absurd hsl (by decide)
    · exact ⟨_, c, rfl, h3, hb⟩
  obtain ⟨SL, hSL⟩ : ∃ x, x = sealed T D xs := ⟨_, rfl⟩
  rw [← hSL] at hse hsl
  have hwr : wres T D xs = if x25519 D T = 0 then [] else es ++ SL := by rw [wres, ← hes, ← hSL]
  have hwe : werr T D = if x25519 D T = 0 then 21 else 0 := rfl
  obtain ⟨we, hwee⟩ : ∃ x, x = werr T D := ⟨_, rfl⟩
  rw [← hwee] at hsh2 hwe ⊢
  obtain ⟨wl, hwl⟩ : ∃ x, x = wres T D xs := ⟨_, rfl⟩
  rw [← hwl] at hwr ⊢
  obtain ⟨nv, hnv⟩ : ∃ x, x = n0 := ⟨_, rfl⟩
  rw [← hnv] at hse
  have HN0L : Hid (nv.length = 12) := Lib.hid (by rw [hnv]; rfl)
  have HBN : Hid (∀ w, (Instr.build 40 #[]).run Tryd.prog w = .ok (.agg (arr .u8 nv)) w) := Lib.hid (by intro w; rw [hnv]; exact build_non w)
  have HPB := Lib.hid hpb2
  have HSH := Lib.hid hsh2
  have HWK := Lib.hid hwk
  have HSE := Lib.hid hse
  have HEL := Lib.hid hel
  have HZL := Lib.hid hzl
  have HKVL := Lib.hid hkl
  have HSLL := Lib.hid hsl
  have HTL := Lib.hid hT.len
  have HDL := Lib.hid hD.len
  have HXL := Lib.hid hx
  obtain ⟨zn, hzn⟩ : ∃ zs : List Int, zs = List.replicate 32 0 := ⟨_, rfl⟩
  have HZzn : Hid (∀ w, (zeroValue 23).run Tryd.prog w = .ok (.agg (arr .u8 zn)) w) := Lib.hid (by intro w; rw [hzn]; exact zero_num w)
  have HLzn : Hid (zn.length = 32) := Lib.hid (by rw [hzn]; rfl)
  have HI0 := Lib.hid (Blk.three w (arr .u8 ts) (arr .u8 ds) (arr .u8 xs) 23 23 23)
  have HWR := Lib.hid hwr
  have HWE := Lib.hid hwe
  clear hpb hsh hpb2 hsh2 hes hzs hel hzl bes bzs bts hwk hkv hkl bkv hsd hsl hse hSL hwr hwe hwee hwl hnv hzn hT hD hx bx
  go_enter Tryd.func5, Tryd.ntmps5
  go_upto_region 1 with fail
  (try simp only [World.size_alloc, Act.put, sA, sZ, sS])
  generalize (((w.alloc (.cells (arr .u8 ts) 23)).alloc (.cells (arr .u8 ds) 23)).alloc (.cells (arr .u8 xs) 23)) = wb at HI0 ⊢
  go_upto_region 2 with (first | ((with_reducible refine aS 11 ?_); refine wpList_load_part rfl 23 _ rfl (w.heap.size + 1) 0 _ 23 (0, 0) _ (HI0.out.get 1 rfl) rfl .u8 ds (arr_part _ _) Tryd.underlying23 rfl (num_i HDL.out) ?_) | ((with_reducible show Calls _ 6 _ _ _); go_at_call 6; refine (HPB.out _).mono ?_; rintro e w1 ⟨rfl, hb1⟩; have HI1 := Lib.hid (HI0.out.kept hb1); clear hb1) | ((with_reducible refine aS 8 ?_); refine wpList_alloc_row rfl 23 rfl _ (HZzn.out _) ?_; have HI2 := Lib.hid (HI1.out.alloc (arr .u8 zn) 23); generalize w1.heap.size = g8 at HI2 ⊢; generalize w1.alloc (.cells (arr .u8 zn) 23) = w2 at HI2 ⊢) | ((with_reducible refine aT 8 ?_); refine wpList_store_whole rfl 23 _ _ rfl (g8) _ _ 23 (HI2.out.get 3 rfl) rfl rfl (arr_len2 _ _ HEL.out HLzn.out) (num_s HEL.out) (all_arr _ _) ?_; intro w3 hb3 hk3 hz3; have HI3 := Lib.hid (HI2.out.put 3 rfl hk3 hb3); clear hb3 hk3 hz3))
  (try simp only [World.size_alloc, Act.put, sA, sZ, sS])
  go_upto_region 3 with (first | ((with_reducible refine aS 14 ?_); refine wpList_load_part rfl 23 _ rfl (w.heap.size + 1) 0 _ 23 (0, 0) _ (HI3.out.get 1 rfl) rfl .u8 ds (arr_part _ _) Tryd.underlying23 rfl (num_i HDL.out) ?_) | ((with_reducible refine aS 15 ?_); refine wpList_load_part rfl 23 _ rfl (w.heap.size) 0 _ 23 (0, 0) _ (HI3.out.get 0 rfl) rfl .u8 ts (arr_part _ _) Tryd.underlying23 rfl (num_i HTL.out) ?_) | ((with_reducible show Calls _ 10 _ _ _); go_at_call 10; refine (HSH.out _).mono ?_; rintro e w4 ⟨rfl, hb4⟩; have HI4 := Lib.hid (HI3.out.kept hb4); clear hb4) | ((with_reducible refine aS 9 ?_); refine wpList_alloc_row rfl 23 rfl _ (HZzn.out _) ?_; have HI5 := Lib.hid (HI4.out.alloc (arr .u8 zn) 23); generalize w4.heap.size = g9 at HI5 ⊢; generalize w4.alloc (.cells (arr .u8 zn) 23) = w5 at HI5 ⊢) | ((with_reducible refine aT 9 ?_); refine wpList_store_whole rfl 23 _ _ rfl (g9) _ _ 23 (HI5.out.get 4 rfl) rfl rfl (arr_len2 _ _ HZL.out HLzn.out) (num_s HZL.out) (all_arr _ _) ?_; intro w6 hb6 hk6 hz6; have HI6 := Lib.hid (HI5.out.put 4 rfl hk6 hb6); clear hb6 hk6 hz6))
  (try simp only [World.size_alloc, Act.put, sA, sZ, sS])
  by_cases hz : x25519 D T = 0
  · have e1 := HWE.out
    have e2 := HWR.out
    rw [if_pos hz] at e1 e2
    subst e1 e2
    clear HWE HWR
    go_wp2_with fail
    (try simp only [Exit.then])
    go_ret2
    exact ⟨⟨none, 0, rfl, ⟨rfl, fun i hi => absurd hi (by simp)⟩, Nat.le_refl _⟩, HI6.out.below⟩
  · have e1 := HWE.out
    have e2 := HWR.out
    rw [if_neg hz] at e1 e2
    subst e1
    have HWL : Hid (wl = es ++ SL) := Lib.hid e2
    clear e2 HWE HWR hz
    go_upto_region 5 with fail
    (try simp only [World.size_alloc, Act.put, sA, sZ, sS])
    refine wp_region_lin (fun (fF : Fill) (uF : World) => (∀ v, fF 0 = some v → v = .slice (some ⟨g8, 0, none⟩) 32 32 ∧ True) ∧ (∀ v, fF 1 = some v → v = .agg (arr .u8 es) ∧ True) ∧ (∀ v, fF 2 = some v → v = .agg (arr .u8 zs) ∧ True) ∧ (∀ v, fF 3 = some v → v = .agg (arr .u8 kv) ∧ True) ∧ (∀ v, fF 4 = some v → v = .agg (arr .u8 nv) ∧ True) ∧ (∀ v, fF 5 = some v → v = .slice (some ⟨w.heap.size + 1 + 1, 0, none⟩) 32 32 ∧ True) ∧ (∀ v, fF 6 = some v → v = .slice (some ⟨w.heap.size, 0, none⟩) 32 32 ∧ True) ∧ (∀ v, fF 7 = some v → ∃ (a : Addr) (c : Nat), v = .slice (some a) 48 c ∧ Src uF (some a) 48 SL) ∧ (∀ v, fF 8 = some v → ∃ (g c : Nat), v = .slice (some ⟨g, 0, none⟩) 80 c ∧ (Src uF (some ⟨g, 0, none⟩) 80 (es ++ SL) ∧ 80 ≤ c)) ∧ (∀ v, fF 9 = some v → ∃ (g c : Nat), v = .slice (some ⟨g, 0, none⟩) 80 c ∧ (Src uF (some ⟨g, 0, none⟩) 80 (es ++ SL) ∧ 80 ≤ c)) ∧ (∀ v, fF 10 = some v → v = .int .i64 0 ∧ True) ∧ Blk w uF ([(w.heap.size, arr .u8 ts, 23), (w.heap.size + 1, arr .u8 ds, 23), (w.heap.size + 1 + 1, arr .u8 xs, 23), (g8, arr .u8 es, 23), (g9, arr .u8 zs, 23)])) (by kernel_rfl) (by kernel_rfl) ?zx5 ?sx5 ?ex5
    case zx5 => exact ⟨fun _ h => (by cases h), fun _ h => (by cases h), fun _ h => (by cases h), fun _ h => (by cases h), fun _ h => (by cases h), fun _ h => (by cases h), fun _ h => (by cases h), fun _ h => (by cases h), fun _ h => (by cases h), fun _ h => (by cases h), fun _ h => (by cases h), HI6.out.drew⟩
    case sx5 =>
      refine LinAll.cons (fun fF bF uF kF hJF hfF hcF hupF hsF hKF => ?_) ?_
      · obtain ⟨j0, j1, j2, j3, j4, j5, j6, j7, j8, j9, j10, hB⟩ := hJF
        have e8 : bF.eval (.tmp 8) = .pointer (some ⟨g8, 0, none⟩) := hsF.old' 8 (by kernel_rfl) rfl
        exact lin_pure rfl (.slice (some ⟨g8, 0, none⟩) 32 32) (by simp only [execOp, e8]; first | rfl | (go_simp; done)) (hKF _ _ ⟨fun _ h => ⟨sI h, trivial⟩, j1, j2, j3, j4, j5, j6, j7, j8, j9, j10, hB⟩)
      refine LinAll.cons (fun fF bF uF kF hJF hfF hcF hupF hsF hKF => ?_) ?_
      · obtain ⟨j0, j1, j2, j3, j4, j5, j6, j7, j8, j9, j10, hB⟩ := hJF
        have e8 : bF.eval (.tmp 8) = .pointer (some ⟨g8, 0, none⟩) := hsF.old' 8 (by kernel_rfl) rfl
        have hB' := hB
        refine step_load_part rfl 23 _ rfl (g8) (0) (arr .u8 es) 23 (0, 0) _ (hB'.get 3 rfl) e8 .u8 es (arr_part _ _) Tryd.underlying23 rfl (num_i HEL.out) ?_
        exact hKF _ _ ⟨j0, fun _ h => ⟨sI h, trivial⟩, j2, j3, j4, j5, j6, j7, j8, j9, j10, hB⟩
      refine LinAll.cons (fun fF bF uF kF hJF hfF hcF hupF hsF hKF => ?_) ?_
      · obtain ⟨j0, j1, j2, j3, j4, j5, j6, j7, j8, j9, j10, hB⟩ := hJF
        have e9 : bF.eval (.tmp 9) = .pointer (some ⟨g9, 0, none⟩) := hsF.old' 9 (by kernel_rfl) rfl
        have hB' := hB
        refine step_load_part rfl 23 _ rfl (g9) (0) (arr .u8 zs) 23 (0, 0) _ (hB'.get 4 rfl) e9 .u8 zs (arr_part _ _) Tryd.underlying23 rfl (num_i HZL.out) ?_
        exact hKF _ _ ⟨j0, j1, fun _ h => ⟨sI h, trivial⟩, j3, j4, j5, j6, j7, j8, j9, j10, hB⟩
      refine LinAll.cons (fun fF bF uF kF hJF hfF hcF hupF hsF hKF => ?_) ?_
      · obtain ⟨j0, j1, j2, j3, j4, j5, j6, j7, j8, j9, j10, hB⟩ := hJF
        obtain ⟨e23, p23⟩ := hsF.at hupF 1 23 (by kernel_rfl) rfl j1
        obtain ⟨e24, p24⟩ := hsF.at hupF 2 24 (by kernel_rfl) rfl j2
        refine lin_call rfl 12 [Operand.tmp 23, Operand.tmp 24] _ [.agg (arr .u8 es), .agg (arr .u8 zs)] rfl (by simp only [List.map_cons, List.map_nil, e23, e24] <;> rfl) (fun _ _ => by kernel_rfl) ?_
        refine Calls.mono (HWK.out _) ?_
        rintro e w1 ⟨rfl, hb⟩
        exact ⟨_, rfl, hKF _ _ ⟨j0, j1, j2, fun _ h => ⟨sI h, trivial⟩, j4, j5, j6, fun v h => let ⟨a, c, e, p⟩ := j7 v h; ⟨a, c, e, p.below hb⟩, fun v h => let ⟨g, c, e, p, q⟩ := j8 v h; ⟨g, c, e, p.below hb, q⟩, fun v h => let ⟨g, c, e, p, q⟩ := j9 v h; ⟨g, c, e, p.below hb, q⟩, j10, hB.kept hb⟩⟩
      refine LinAll.cons (fun fF bF uF kF hJF hfF hcF hupF hsF hKF => ?_) ?_
      · obtain ⟨j0, j1, j2, j3, j4, j5, j6, j7, j8, j9, j10, hB⟩ := hJF
        exact lin_pure rfl (.agg (arr .u8 nv)) (exec_build_l 40 _ rfl #[] (by simp only [List.map_cons, List.map_nil] <;> rfl) _ (HBN.out _)) (hKF _ _ ⟨j0, j1, j2, j3, fun _ h => ⟨sI h, trivial⟩, j5, j6, j7, j8, j9, j10, hB⟩)
      refine LinAll.cons (fun fF bF uF kF hJF hfF hcF hupF hsF hKF => ?_) ?_
      · obtain ⟨j0, j1, j2, j3, j4, j5, j6, j7, j8, j9, j10, hB⟩ := hJF
        have e5 : bF.eval (.tmp 5) = .pointer (some ⟨w.heap.size + 1 + 1, 0, none⟩) := hsF.old' 5 (by kernel_rfl) rfl
        exact lin_pure rfl (.slice (some ⟨w.heap.size + 1 + 1, 0, none⟩) 32 32) (by simp only [execOp, e5]; first | rfl | (go_simp; done)) (hKF _ _ ⟨j0, j1, j2, j3, j4, fun _ h => ⟨sI h, trivial⟩, j6, j7, j8, j9, j10, hB⟩)
      refine LinAll.cons (fun fF bF uF kF hJF hfF hcF hupF hsF hKF => ?_) ?_
      · obtain ⟨j0, j1, j2, j3, j4, j5, j6, j7, j8, j9, j10, hB⟩ := hJF
        have e3 : bF.eval (.tmp 3) = .pointer (some ⟨w.heap.size, 0, none⟩) := hsF.old' 3 (by kernel_rfl) rfl
        exact lin_pure rfl (.slice (some ⟨w.heap.size, 0, none⟩) 32 32) (by simp only [execOp, e3]; first | rfl | (go_simp; done)) (hKF _ _ ⟨j0, j1, j2, j3, j4, j5, fun _ h => ⟨sI h, trivial⟩, j7, j8, j9, j10, hB⟩)
      refine LinAll.cons (fun fF bF uF kF hJF hfF hcF hupF hsF hKF => ?_) ?_
      · obtain ⟨j0, j1, j2, j3, j4, j5, j6, j7, j8, j9, j10, hB⟩ := hJF
        obtain ⟨e25, p25⟩ := hsF.at hupF 3 25 (by kernel_rfl) rfl j3
        obtain ⟨e26, p26⟩ := hsF.at hupF 4 26 (by kernel_rfl) rfl j4
        obtain ⟨e27, p27⟩ := hsF.at hupF 5 27 (by kernel_rfl) rfl j5
        obtain ⟨e28, p28⟩ := hsF.at hupF 6 28 (by kernel_rfl) rfl j6
        refine lin_call rfl 11 [.tmp 25, .tmp 26, .tmp 27, .tmp 28] _ [.agg (arr .u8 kv), .agg (arr .u8 nv), .slice (some ⟨w.heap.size + 1 + 1, 0, none⟩) 32 32, .slice (some ⟨w.heap.size, 0, none⟩) 32 32] rfl (by simp only [List.map_cons, List.map_nil, e25, e26, e27, e28] <;> rfl) (fun _ _ => by kernel_rfl) ?_
        refine Calls.mono (HSE.out _ _ _ (src_all (hB.get 2 rfl) 32 HXL.out) (src_all (hB.get 0 rfl) 32 HTL.out)) ?_
        rintro e w1 ⟨a7, c7, rfl, hs7, hb⟩
        exact ⟨_, rfl, hKF _ _ ⟨j0, j1, j2, j3, j4, j5, j6, fun _ h => ⟨a7, c7, sI h, hs7⟩, fun v h => let ⟨g, c, e, p, q⟩ := j8 v h; ⟨g, c, e, p.below hb, q⟩, fun v h => let ⟨g, c, e, p, q⟩ := j9 v h; ⟨g, c, e, p.below hb, q⟩, j10, hB.kept hb⟩⟩
      refine LinAll.cons (fun fF bF uF kF hJF hfF hcF hupF hsF hKF => ?_) ?_
      · obtain ⟨j0, j1, j2, j3, j4, j5, j6, j7, j8, j9, j10, hB⟩ := hJF
        obtain ⟨e22, p22⟩ := hsF.at hupF 0 22 (by kernel_rfl) rfl j0
        have y7 := hupF 7 (by kernel_rfl)
        obtain ⟨v7, s7⟩ := sE y7
        obtain ⟨a7, c7, rfl, hs7⟩ := j7 _ s7
        have e29 := hsF.val 7 29 rfl s7
        refine step_append_new rfl (.tmp 22) (.tmp 29) rfl g8 32 48 c7 a7 es SL e22 e29 (src_all (hB.get 3 rfl) 32 HEL.out) hs7 (by decide) (by decide) ?_
        intro gr cap w1 hre hcap hb
        exact hKF _ _ ⟨j0, j1, j2, j3, j4, j5, j6, fun v h => let ⟨a, c, e, p⟩ := j7 v h; ⟨a, c, e, p.below hb⟩, fun _ h => ⟨gr, cap, sI h, hre, hcap⟩, fun v h => let ⟨g, c, e, p, q⟩ := j9 v h; ⟨g, c, e, p.below hb, q⟩, j10, hB.kept hb⟩
      refine LinAll.cons (fun fF bF uF kF hJF hfF hcF hupF hsF hKF => ?_) ?_
      · obtain ⟨j0, j1, j2, j3, j4, j5, j6, j7, j8, j9, j10, hB⟩ := hJF
        have y8 := hupF 8 (by kernel_rfl)
        obtain ⟨v8, s8⟩ := sE y8
        obtain ⟨g8x, c8x, rfl, hs8⟩ := j8 _ s8
        have e30 := hsF.val 8 30 rfl s8
        exact lin_pure rfl (.slice (some ⟨g8x, 0, none⟩) 80 c8x) (by simp only [execOp, e30] <;> rfl) (hKF _ _ ⟨j0, j1, j2, j3, j4, j5, j6, j7, j8, fun _ h => ⟨g8x, c8x, sI h, hs8⟩, j10, hB⟩)
      refine LinAll.cons (fun fF bF uF kF hJF hfF hcF hupF hsF hKF => ?_) ?_
      · obtain ⟨j0, j1, j2, j3, j4, j5, j6, j7, j8, j9, j10, hB⟩ := hJF
        exact lin_pure rfl (.int .i64 0) (by simp only [execOp] <;> first | rfl | kernel_rfl | (go_simp; done)) (hKF _ _ ⟨j0, j1, j2, j3, j4, j5, j6, j7, j8, j9, fun _ h => ⟨sI h, trivial⟩, hB⟩)
      exact LinAll.nil
    case ex5 =>
    intro fF ux5 hall hJF
    obtain ⟨j0, j1, j2, j3, j4, j5, j6, j7, j8, j9, j10, hB⟩ := hJF
    obtain ⟨v0, h0⟩ := sE (hall 0 (by decide))
    obtain ⟨rfl, p0⟩ := j0 _ h0
    obtain ⟨v1, h1⟩ := sE (hall 1 (by decide))
    obtain ⟨rfl, p1⟩ := j1 _ h1
    obtain ⟨v2, h2⟩ := sE (hall 2 (by decide))
    obtain ⟨rfl, p2⟩ := j2 _ h2
    obtain ⟨v3, h3⟩ := sE (hall 3 (by decide))
    obtain ⟨rfl, p3⟩ := j3 _ h3
    obtain ⟨v4, h4⟩ := sE (hall 4 (by decide))
    obtain ⟨rfl, p4⟩ := j4 _ h4
    obtain ⟨v5, h5⟩ := sE (hall 5 (by decide))
    obtain ⟨rfl, p5⟩ := j5 _ h5
    obtain ⟨v6, h6⟩ := sE (hall 6 (by decide))
    obtain ⟨rfl, p6⟩ := j6 _ h6
    obtain ⟨v7, h7⟩ := sE (hall 7 (by decide))
    obtain ⟨a7, c7, rfl, -⟩ := j7 _ h7
    obtain ⟨v8, h8⟩ := sE (hall 8 (by decide))
    obtain ⟨g8x, c8x, rfl, -⟩ := j8 _ h8
    obtain ⟨v9, h9⟩ := sE (hall 9 (by decide))
    obtain ⟨gf, cf, rfl, hsf⟩ := j9 _ h9
    obtain ⟨v10, h10⟩ := sE (hall 10 (by decide))
    obtain ⟨rfl, p10⟩ := j10 _ h10
    have HBx5 : Hid (Blk w ux5 [(w.heap.size, arr .u8 ts, 23), (w.heap.size + 1, arr .u8 ds, 23), (w.heap.size + 1 + 1, arr .u8 xs, 23), (g8, arr .u8 es, 23), (g9, arr .u8 zs, 23)]) := Lib.hid hB
    simp only [laid, Nat.zero_add, Nat.reduceAdd, h0, h1, h2, h3, h4, h5, h6, h7, h8, h9, h10, Act.put, sA, sZ, sS]
    clear j0 j1 j2 j3 j4 j5 j6 j7 j8 j9 j10 hB h0 h1 h2 h3 h4 h5 h6 h7 h8 h9 h10 hall fF HI6
    clear p0 p1 p2 p3 p4 p5 p6 p10
    have HSF := Lib.hid hsf
    clear hsf
    (try simp only [Exit.then])
    go_wp2_with fail
    (try simp only [Exit.then])
    go_ret2
    have hwl : wl.length = 80 := by rw [HWL.out, List.length_append, HEL.out, HSLL.out]
    refine ⟨⟨some ⟨gf, 0, none⟩, cf, by rw [hwl]; rfl, ?_, by rw [hwl]; exact HSF.out.2⟩, HBx5.out.below⟩
    rw [hwl, HWL.out]
    exact HSF.out.1
end Go.Proofs.YtogebegdgfdijaaDoor.Wr
namespace Go.Proofs.YtogebegdgfdijaaDoor.Wr
open Go.RowKit Lm Cu Sl Fp
theorem cells_at {w : World} {g o : Nat} {zs : List Int} {n : Nat} (h : Src w (some ⟨g, o, none⟩) n zs) : w.rangeAt g o (zs.map (Value.int .u8)) := by
  intro j v hj
  rw [List.getElem?_map, Option.map_eq_some_iff] at hj
  obtain ⟨y, hy, rfl⟩ := hj
  obtain ⟨hj1, hj2⟩ := List.getElem?_eq_some_iff.1 hy
  obtain ⟨a, e, hc⟩ := h.cell j (by rw [← h.len]; exact hj1)
  cases e
  rw [Addr.add_lit] at hc
  rw [hc]
  simp [List.getD, hy]
theorem slice_32 (u : World) (ad : Addr) (cb : Nat) (h : 80 ≤ cb) : (Instr.sliceAt 25 (.slice (some ad) 80 cb) (some (.int .i64 32)) none none).run Tryd.prog u = .ok (.slice (some (ad.add 32)) 48 (cb - 32)) u := by
  have h1 : ¬ cb = 32 := by omega
  have h2 : ¬ (80 : Int) < 32 := by omega
  go_simp
theorem zero_n32 : (List.replicate 32 0 : List Int) = n32 0 := by decide +kernel
theorem build_num0' (w : World) : (Instr.build 23 #[]).run Tryd.prog w = .ok (.agg (arr .u8 (List.replicate 32 0))) w := by kernel_rfl
theorem unwrap_any {ss bs : List Int} (S : Nat) (sb : Option Addr) (nb cb : Nat) (w : World) (hS : K32 ss S) (hB : Src w sb nb bs) (hc : nb ≤ cb) (bB : bytes bs) :
    Calls Tryd.prog 7 #[.agg (arr .u8 ss), .slice sb nb cb] w fun e w' => e = .returned (.tuple #[.agg (arr .u8 (ures S bs).1), .int .i64 (ures S bs).2]) ∧ Below w.heap.size w w' := by
  have hl := hB.len
  obtain ⟨zn, hzn⟩ : ∃ zs : List Int, zs = List.replicate 32 0 := ⟨_, rfl⟩
  have HZzn : Hid (∀ w, (zeroValue 23).run Tryd.prog w = .ok (.agg (arr .u8 zn)) w) := Lib.hid (by intro w; rw [hzn]; exact zero_num w)
  have HLzn : Hid (zn.length = 32) := Lib.hid (by rw [hzn]; rfl)
  have HZN0 : Hid (n32 0 = zn) := Lib.hid (by rw [hzn]; exact zero_n32.symm)
  have HBZ : Hid (∀ w, (Instr.build 23 #[]).run Tryd.prog w = .ok (.agg (arr .u8 zn)) w) := Lib.hid (by intro w; rw [hzn]; exact build_num0' w)
  have HSL := Lib.hid hS.len
  have HI0 := Lib.hid (Blk.two w (arr .u8 ss) (arr .u8 zn) 23 23)
  clear hzn
  by_cases h80 : nb = 80
  rotate_left
  · have hu : ures S bs = (n32 0, 4) := by unfold ures; rw [if_neg (by rw [hl]; exact h80)]
    rw [hu, HZN0.out]
    have hne : ((nb : Int) == 80) = false := by rw [beq_eq_false_iff_ne]; omega
    have hne2 : ¬ (nb : Int) = 80 := by omega
    clear hu hS hB hc bB h80 hl
    go_enter Tryd.func7, Tryd.ntmps7
    go_upto_region 1 with (first | ((with_reducible refine aS 4 ?_); refine wpList_alloc_row rfl 23 rfl _ (HZzn.out _) ?_))
    (try simp only [World.size_alloc, Act.put, sA, sZ, sS])
    generalize ((w.alloc (.cells (arr .u8 ss) 23)).alloc (.cells (arr .u8 zn) 23)) = wb at HI0 ⊢
    go_wp2_with (first | ((with_reducible refine aS 14 ?_); refine wpList_build (by rfl) 23 _ rfl #[] rfl _ (HBZ.out _) ?_) | ((with_reducible refine aT 4 ?_); refine wpList_store_whole rfl 23 _ _ rfl (w.heap.size + 1) _ _ 23 (HI0.out.get 1 rfl) rfl rfl (arr_len2 _ _ HLzn.out HLzn.out) (num_s HLzn.out) (all_arr _ _) ?_; intro w1 hb1 hk1 hz1; have HI1 := Lib.hid (HI0.out.put 1 rfl hk1 hb1); clear hb1 hk1 hz1))
    (try simp only [Exit.then])
    refine bodyPost_ret (results_cell_tmp_row rfl _ _ (w.heap.size + 1) 23 _ (0, 0) _ _ rfl (HI1.out.get 1 rfl) Tryd.underlying23 rfl (num_s HLzn.out) rfl) rfl ?_
    exact ⟨rfl, HI1.out.below⟩
  subst h80
  obtain ⟨ad, rfl⟩ : ∃ a, sb = some a := by
    obtain ⟨a, e, _⟩ := hB.cell 0 (by decide)
    exact ⟨a, e⟩
  obtain ⟨g0, o0, rfl⟩ : ∃ b o, ad = ⟨b, o, none⟩ := by
    obtain ⟨a, e, hcell⟩ := hB.cell 0 (by decide)
    cases e
    rw [show ad.add 0 = ad from rfl] at hcell
    exact plain_addr hcell
  have hs0 := fun (u : World) (h : Src u (some ⟨g0, o0, none⟩) 80 bs) => cells_at (Src.take h 32 (by decide))
  have hs1 := fun (u : World) (h : Src u (some ⟨g0, o0, none⟩) 80 bs) => Src.part h 32 48 (by decide)
  have hd : (bs.drop 32).length = 48 := by rw [List.length_drop, hl]
  rw [List.take_of_length_le (show (bs.drop 32).length ≤ 48 by rw [hd]; exact Nat.le_refl _)] at hs1
  have be0 : bytes (bs.take 32) := bytes_take bB 32
  have hel : (bs.take 32).length = 32 := by rw [List.length_take, hl]; rfl
  have hE : K32 (bs.take 32) (hnum (bs.take 32)) := ⟨(n32_hnum be0 hel).symm, by have := hnum_lt be0; rwa [hel] at this⟩
  have bb1 : bytes (bs.drop 32) := bytes_drop bB 32
  have hsh := fun (u : World) => lshared_any S (hnum (bs.take 32)) u hS hE
  have hpb := fun (u : World) => lpublic_any S u hS
  have hu : ures S bs = if x25519 S (hnum (bs.take 32)) = 0 then (n32 0, 21)
    else if Ae.okay (wkey (bs.take 32) (n32 (x25519 S (hnum (bs.take 32))))) n0 (bs.drop 32) (n32 (x25519 S 9)) then (Ae.opened (wkey (bs.take 32) (n32 (x25519 S (hnum (bs.take 32))))) n0 (bs.drop 32) (n32 (x25519 S 9)), 0)
    else (n32 0, 10) := by rw [ures, if_pos hl]
  obtain ⟨X, hX⟩ : ∃ x, x = x25519 S (hnum (bs.take 32)) := ⟨_, rfl⟩
  rw [← hX] at hu hsh
  obtain ⟨e0, he0⟩ : ∃ x, x = bs.take 32 := ⟨_, rfl⟩
  obtain ⟨b1, hb1⟩ : ∃ x, x = bs.drop 32 := ⟨_, rfl⟩
  rw [← he0] at hu hs0 hel be0 hsh
  rw [← hb1] at hu hs1 hd bb1
  obtain ⟨zs, hzs⟩ : ∃ x, x = n32 X := ⟨_, rfl⟩
  obtain ⟨pl, hpl⟩ : ∃ x, x = n32 (x25519 S 9) := ⟨_, rfl⟩
  rw [← hzs, ← hpl] at hu
  have hsh2 : ∀ u : World, Calls Tryd.prog 10 #[.agg (arr .u8 ss), .agg (arr .u8 e0)] u fun e w' => e = .returned (.tuple #[.agg (arr .u8 zs), .int .i64 (if X = 0 then 21 else 0)]) ∧ Below u.heap.size u w' := by
    intro u
    refine (hsh u).mono ?_
    rintro e w' ⟨z, rfl, h1, h2⟩
    obtain rfl : z = zs := by rw [hzs]; exact h1.1
    exact ⟨rfl, h2⟩
  have hpb2 : ∀ u : World, Calls Tryd.prog 6 #[.agg (arr .u8 ss)] u fun e w' => e = .returned (.agg (arr .u8 pl)) ∧ Below u.heap.size u w' := by
    intro u
    refine (hpb u).mono ?_
    rintro e w' ⟨z, rfl, h1, h2⟩
    obtain rfl : z = pl := by rw [hpl]; exact h1.1
    exact ⟨rfl, h2⟩
  have hzl : zs.length = 32 := by rw [hzs]; exact n32_len _
  have hpll : pl.length = 32 := by rw [hpl]; exact n32_len _
  have bzs : bytes zs := by rw [hzs]; exact n32_bytes _
  have bpl : bytes pl := by rw [hpl]; exact n32_bytes _
  have hwk := fun (u : World) => wkey_any e0 zs u hel hzl be0 bzs
  obtain ⟨kv, hkv⟩ : ∃ x, x = wkey e0 zs := ⟨_, rfl⟩
  have hkl : kv.length = 32 := by rw [hkv]; exact wkey_len _ _
  have bkv : bytes kv := by rw [hkv]; exact wkey_bytes _ _
  rw [← hkv] at hu hwk
  obtain ⟨ok, hok⟩ : ∃ x, x = Ae.okay kv n0 b1 pl := ⟨_, rfl⟩
  obtain ⟨OP, hOP⟩ : ∃ x, x = Ae.opened kv n0 b1 pl := ⟨_, rfl⟩
  have hop : ∀ (u : World) (g1 g2 : Addr) (c : Nat), 48 ≤ c → Src u (some g1) 48 b1 → Src u (some g2) 32 pl → Calls Tryd.prog 14 #[.agg (arr .u8 kv), .agg (arr .u8 n0), .slice (some g1) 48 c, .slice (some g2) 32 32] u fun e w' => ∃ (s : Option Addr) (c : Nat), e = .returned (.tuple #[.slice s OP.length c, .int .i64 (if ok then 0 else 10)]) ∧ (Src w' s OP.length OP ∧ (OP ≠ [] → ∃ g, s = some ⟨g, 0, none⟩)) ∧ Below u.heap.size u w' := by
    intro u g1 g2 c hc48 h1 h2
    refine (Ae.open_any kv n0 b1 pl (some g1) (some g2) 48 32 c 32 u hkl n0_len bkv n0_bytes h1 h2 bb1 bpl (by decide) (by decide) hc48 (Nat.le_refl _)).mono ?_
    rintro e w' ⟨v, rfl, ho, hb⟩
    rw [← hOP] at ho
    obtain ⟨sa, c', rfl, -, -, h3, hor⟩ := ho.form
    refine ⟨sa, c', by rw [hok], ⟨h3, fun hne => ?_⟩, hb⟩
    rcases hor with ⟨-, h0, -⟩ | ⟨g, rfl, -, -⟩
    · exact absurd h0 hne
    · exact ⟨g, rfl⟩
  have hol : ok = true → OP.length = 32 := fun h => by rw [hOP]; exact opened_len _ _ _ _ (by rw [← hok]; exact h) hd
  rw [← hok, ← hOP] at hu
  rw [hu]
  obtain ⟨nv, hnv⟩ : ∃ x, x = n0 := ⟨_, rfl⟩
  rw [← hnv] at hop
  have HN0L : Hid (nv.length = 12) := Lib.hid (by rw [hnv]; rfl)
  have HBN : Hid (∀ w, (Instr.build 40 #[]).run Tryd.prog w = .ok (.agg (arr .u8 nv)) w) := Lib.hid (by intro w; rw [hnv]; exact build_non w)
  obtain ⟨er, her⟩ : ∃ x : Int, x = if X = 0 then 21 else 0 := ⟨_, rfl⟩
  rw [← her] at hsh2
  obtain ⟨ee, hee⟩ : ∃ x : Int, x = if ok then 0 else 10 := ⟨_, rfl⟩
  rw [← hee] at hop
  obtain ⟨m, hm⟩ : ∃ m, m = OP.length := ⟨_, rfl⟩
  rw [← hm] at hop hol
  have HSH := Lib.hid hsh2
  have HPB := Lib.hid hpb2
  have HWK := Lib.hid hwk
  have HOP := Lib.hid hop
  have HOL := Lib.hid hol
  have HM := Lib.hid hm
  have HS0 := Lib.hid hs0
  have HS1 := Lib.hid hs1
  have HEL := Lib.hid hel
  have HZL := Lib.hid hzl
  have HPL := Lib.hid hpll
  have HKVL := Lib.hid hkl
  have HER := Lib.hid her
  have HEE := Lib.hid hee
  have HB := Lib.hid hB
  have HC := Lib.hid hc
  have HSC := Lib.hid (fun u => slice_32 u ⟨g0, o0, none⟩ cb hc)
  have hc32 : ¬ (cb : Int) < 32 := by omega
  have HAD := Lib.hid (add_plain g0 o0 32)
  clear hu hsh hpb hsh2 hpb2 hzs hpl hzl hpll bzs bpl hwk hkv hkl bkv hok hOP hop hol hnv her hee hm hs0 hs1 hd be0 hel hE bb1 hX he0 hb1 hS hB bB hl
  go_enter Tryd.func7, Tryd.ntmps7
  go_upto_region 1 with (first | ((with_reducible refine aS 4 ?_); refine wpList_alloc_row rfl 23 rfl _ (HZzn.out _) ?_))
  (try simp only [World.size_alloc, Act.put, sA, sZ, sS])
  generalize ((w.alloc (.cells (arr .u8 ss) 23)).alloc (.cells (arr .u8 zn) 23)) = wb at HI0 ⊢
  go_upto_region 4 with (first | ((with_reducible refine aS 17 ?_); refine wpList_s2a' rfl 23 (.tmp 16) rfl (.slice (some ⟨g0, o0, none⟩) 32 cb) (.pointer (some ⟨g0, o0, none⟩)) rfl (by first | rfl | kernel_rfl) ?_) | ((with_reducible refine aS 18 ?_); refine wpList_load_mid rfl 23 (.tmp 17) rfl g0 o0 rfl (e0.map (Value.int .u8)) _ (HS0.out _ (HB.out.below HI0.out.below)) Tryd.underlying23 rfl (by rw [List.length_map]; exact num_i HEL.out) ?_) | ((with_reducible refine aS 6 ?_); refine wpList_alloc_row rfl 23 rfl _ (HZzn.out _) ?_; have HI1 := Lib.hid (HI0.out.alloc (arr .u8 zn) 23); generalize wb.heap.size = g6 at HI1 ⊢; generalize wb.alloc (.cells (arr .u8 zn) 23) = w1 at HI1 ⊢) | ((with_reducible refine aT 6 ?_); refine wpList_store_whole rfl 23 _ _ rfl (g6) _ _ 23 (HI1.out.get 2 rfl) rfl rfl (arr_len2 _ _ HEL.out HLzn.out) (num_s HEL.out) (all_arr _ _) ?_; intro w2 hb2 hk2 hz2; have HI2 := Lib.hid (HI1.out.put 2 rfl hk2 hb2); clear hb2 hk2 hz2))
  (try simp only [World.size_alloc, Act.put, sA, sZ, sS])
  go_upto_region 5 with (first | ((with_reducible refine aS 20 ?_); refine wpList_load_part rfl 23 _ rfl (w.heap.size) 0 _ 23 (0, 0) _ (HI2.out.get 0 rfl) rfl .u8 ss (arr_part _ _) Tryd.underlying23 rfl (num_i HSL.out) ?_) | ((with_reducible refine aS 21 ?_); refine wpList_load_part rfl 23 _ rfl (g6) 0 _ 23 (0, 0) _ (HI2.out.get 2 rfl) rfl .u8 e0 (arr_part _ _) Tryd.underlying23 rfl (num_i HEL.out) ?_) | ((with_reducible show Calls _ 10 _ _ _); go_at_call 10; refine (HSH.out _).mono ?_; rintro e w3 ⟨rfl, hb3⟩; have HI3 := Lib.hid (HI2.out.kept hb3); clear hb3) | ((with_reducible refine aS 7 ?_); refine wpList_alloc_row rfl 23 rfl _ (HZzn.out _) ?_; have HI4 := Lib.hid (HI3.out.alloc (arr .u8 zn) 23); generalize w3.heap.size = g7 at HI4 ⊢; generalize w3.alloc (.cells (arr .u8 zn) 23) = w4 at HI4 ⊢) | ((with_reducible refine aT 7 ?_); refine wpList_store_whole rfl 23 _ _ rfl (g7) _ _ 23 (HI4.out.get 3 rfl) rfl rfl (arr_len2 _ _ HZL.out HLzn.out) (num_s HZL.out) (all_arr _ _) ?_; intro w5 hb5 hk5 hz5; have HI5 := Lib.hid (HI4.out.put 3 rfl hk5 hb5); clear hb5 hk5 hz5))
  (try simp only [World.size_alloc, Act.put, sA, sZ, sS])
  by_cases hz : X = 0
  · have e1 := HER.out
    rw [if_pos hz] at e1
    subst e1
    have HZ := Lib.hid hz
    clear HER hz
    go_wp2_with (first | ((with_reducible refine aS 27 ?_); refine wpList_build (by rfl) 23 _ rfl #[] rfl _ (HBZ.out _) ?_) | ((with_reducible refine aT 4 ?_); refine wpList_store_whole rfl 23 _ _ rfl (w.heap.size + 1) _ _ 23 (HI5.out.get 1 rfl) rfl rfl (arr_len2 _ _ HLzn.out HLzn.out) (num_s HLzn.out) (all_arr _ _) ?_; intro w20 hb20 hk20 hz20; have HI20 := Lib.hid (HI5.out.put 1 rfl hk20 hb20); clear hb20 hk20 hz20))
    (try simp only [Exit.then])
    refine bodyPost_ret (results_cell_tmp_row rfl _ _ (w.heap.size + 1) 23 _ (0, 0) _ _ rfl (HI20.out.get 1 rfl) Tryd.underlying23 rfl (num_s HLzn.out) rfl) rfl ?_
    exact ⟨by first | (rw [HZN0.out]; rfl) | (rw [if_pos HZ.out]; simp only [HZN0.out]; rfl), HI20.out.below⟩
  have e1 := HER.out
  rw [if_neg hz] at e1
  subst e1
  have HZ := Lib.hid hz
  clear HER hz
  go_upto_region 8 with (first | ((with_reducible refine aS 29 ?_); refine wpList_load_part rfl 23 _ rfl (w.heap.size) 0 _ 23 (0, 0) _ (HI5.out.get 0 rfl) rfl .u8 ss (arr_part _ _) Tryd.underlying23 rfl (num_i HSL.out) ?_) | ((with_reducible show Calls _ 6 _ _ _); go_at_call 6; refine (HPB.out _).mono ?_; rintro e w6 ⟨rfl, hb6⟩; have HI6 := Lib.hid (HI5.out.kept hb6); clear hb6) | ((with_reducible refine aS 9 ?_); refine wpList_alloc_row rfl 23 rfl _ (HZzn.out _) ?_; have HI7 := Lib.hid (HI6.out.alloc (arr .u8 zn) 23); generalize w6.heap.size = g9 at HI7 ⊢; generalize w6.alloc (.cells (arr .u8 zn) 23) = w7 at HI7 ⊢) | ((with_reducible refine aT 9 ?_); refine wpList_store_whole rfl 23 _ _ rfl (g9) _ _ 23 (HI7.out.get 4 rfl) rfl rfl (arr_len2 _ _ HPL.out HLzn.out) (num_s HPL.out) (all_arr _ _) ?_; intro w8 hb8 hk8 hz8; have HI8 := Lib.hid (HI7.out.put 4 rfl hk8 hb8); clear hb8 hk8 hz8))
  (try simp only [World.size_alloc, Act.put, sA, sZ, sS])
  refine wp_region_lin (fun (fF : Fill) (uF : World) => (∀ v, fF 0 = some v → v = .agg (arr .u8 e0) ∧ True) ∧ (∀ v, fF 1 = some v → v = .agg (arr .u8 zs) ∧ True) ∧ (∀ v, fF 2 = some v → v = .agg (arr .u8 kv) ∧ True) ∧ (∀ v, fF 3 = some v → v = .agg (arr .u8 nv) ∧ True) ∧ (∀ v, fF 4 = some v → v = .slice (some ⟨g0, o0, none⟩) 80 cb ∧ True) ∧ (∀ v, fF 5 = some v → v = .slice (some (Addr.add ⟨g0, o0, none⟩ 32)) 48 (cb - 32) ∧ True) ∧ (∀ v, fF 6 = some v → v = .slice (some ⟨g9, 0, none⟩) 32 32 ∧ True) ∧ (∀ v, fF 7 = some v → ∃ (s : Option Addr) (c : Nat), v = .tuple #[.slice s m c, .int .i64 ee] ∧ (Src uF s m OP ∧ (OP ≠ [] → ∃ g, s = some ⟨g, 0, none⟩))) ∧ (∀ v, fF 8 = some v → ∃ (s : Option Addr) (c : Nat), v = .tuple #[.slice s m c, .int .i64 ee] ∧ (Src uF s m OP ∧ (OP ≠ [] → ∃ g, s = some ⟨g, 0, none⟩))) ∧ (∀ v, fF 9 = some v → ∃ (s : Option Addr) (c : Nat), v = .slice s m c ∧ (Src uF s m OP ∧ (OP ≠ [] → ∃ g, s = some ⟨g, 0, none⟩))) ∧ (∀ v, fF 10 = some v → v = .int .i64 ee ∧ True) ∧ (∀ v, fF 11 = some v → ∃ (s : Option Addr) (c : Nat), v = .slice s m c ∧ (Src uF s m OP ∧ (OP ≠ [] → ∃ g, s = some ⟨g, 0, none⟩))) ∧ (∀ v, fF 12 = some v → v = .int .i64 ee ∧ True) ∧ Blk w uF ([(w.heap.size, arr .u8 ss, 23), (w.heap.size + 1, arr .u8 zn, 23), (g6, arr .u8 e0, 23), (g7, arr .u8 zs, 23), (g9, arr .u8 pl, 23)])) (by kernel_rfl) (by kernel_rfl) ?zu8 ?su8 ?eu8
  case zu8 => exact ⟨fun _ h => (by cases h), fun _ h => (by cases h), fun _ h => (by cases h), fun _ h => (by cases h), fun _ h => (by cases h), fun _ h => (by cases h), fun _ h => (by cases h), fun _ h => (by cases h), fun _ h => (by cases h), fun _ h => (by cases h), fun _ h => (by cases h), fun _ h => (by cases h), fun _ h => (by cases h), HI8.out.drew⟩
  case su8 =>
    refine LinAll.cons (fun fF bF uF kF hJF hfF hcF hupF hsF hKF => ?_) ?_
    · obtain ⟨j0, j1, j2, j3, j4, j5, j6, j7, j8, j9, j10, j11, j12, hB⟩ := hJF
      have e6 : bF.eval (.tmp 6) = .pointer (some ⟨g6, 0, none⟩) := hsF.old' 6 (by kernel_rfl) rfl
      have hB' := hB
      refine step_load_part rfl 23 _ rfl (g6) (0) (arr .u8 e0) 23 (0, 0) _ (hB'.get 2 rfl) e6 .u8 e0 (arr_part _ _) Tryd.underlying23 rfl (num_i HEL.out) ?_
      exact hKF _ _ ⟨fun _ h => ⟨sI h, trivial⟩, j1, j2, j3, j4, j5, j6, j7, j8, j9, j10, j11, j12, hB⟩
    refine LinAll.cons (fun fF bF uF kF hJF hfF hcF hupF hsF hKF => ?_) ?_
    · obtain ⟨j0, j1, j2, j3, j4, j5, j6, j7, j8, j9, j10, j11, j12, hB⟩ := hJF
      have e7 : bF.eval (.tmp 7) = .pointer (some ⟨g7, 0, none⟩) := hsF.old' 7 (by kernel_rfl) rfl
      have hB' := hB
      refine step_load_part rfl 23 _ rfl (g7) (0) (arr .u8 zs) 23 (0, 0) _ (hB'.get 3 rfl) e7 .u8 zs (arr_part _ _) Tryd.underlying23 rfl (num_i HZL.out) ?_
      exact hKF _ _ ⟨j0, fun _ h => ⟨sI h, trivial⟩, j2, j3, j4, j5, j6, j7, j8, j9, j10, j11, j12, hB⟩
    refine LinAll.cons (fun fF bF uF kF hJF hfF hcF hupF hsF hKF => ?_) ?_
    · obtain ⟨j0, j1, j2, j3, j4, j5, j6, j7, j8, j9, j10, j11, j12, hB⟩ := hJF
      obtain ⟨e32, p32⟩ := hsF.at hupF 0 32 (by kernel_rfl) rfl j0
      obtain ⟨e33, p33⟩ := hsF.at hupF 1 33 (by kernel_rfl) rfl j1
      refine lin_call rfl 12 [Operand.tmp 32, Operand.tmp 33] _ [.agg (arr .u8 e0), .agg (arr .u8 zs)] rfl (by simp only [List.map_cons, List.map_nil, e32, e33] <;> rfl) (fun _ _ => by kernel_rfl) ?_
      refine Calls.mono (HWK.out _) ?_
      rintro e w1 ⟨rfl, hb⟩
      exact ⟨_, rfl, hKF _ _ ⟨j0, j1, fun _ h => ⟨sI h, trivial⟩, j3, j4, j5, j6, fun v h => let ⟨s, c, e, p, q⟩ := j7 v h; ⟨s, c, e, p.below hb, q⟩, fun v h => let ⟨s, c, e, p, q⟩ := j8 v h; ⟨s, c, e, p.below hb, q⟩, fun v h => let ⟨s, c, e, p, q⟩ := j9 v h; ⟨s, c, e, p.below hb, q⟩, j10, fun v h => let ⟨s, c, e, p, q⟩ := j11 v h; ⟨s, c, e, p.below hb, q⟩, j12, hB.kept hb⟩⟩
    refine LinAll.cons (fun fF bF uF kF hJF hfF hcF hupF hsF hKF => ?_) ?_
    · obtain ⟨j0, j1, j2, j3, j4, j5, j6, j7, j8, j9, j10, j11, j12, hB⟩ := hJF
      exact lin_pure rfl (.agg (arr .u8 nv)) (exec_build_l 40 _ rfl #[] (by simp only [List.map_cons, List.map_nil] <;> rfl) _ (HBN.out _)) (hKF _ _ ⟨j0, j1, j2, fun _ h => ⟨sI h, trivial⟩, j4, j5, j6, j7, j8, j9, j10, j11, j12, hB⟩)
    refine LinAll.cons (fun fF bF uF kF hJF hfF hcF hupF hsF hKF => ?_) ?_
    · obtain ⟨j0, j1, j2, j3, j4, j5, j6, j7, j8, j9, j10, j11, j12, hB⟩ := hJF
      have e1 : bF.eval (.tmp 1) = .slice (some ⟨g0, o0, none⟩) 80 cb := hsF.old' 1 (by kernel_rfl) rfl
      exact lin_pure rfl (.slice (some ⟨g0, o0, none⟩) 80 cb) (by simp only [execOp, e1] <;> first | rfl | kernel_rfl | (go_simp; done)) (hKF _ _ ⟨j0, j1, j2, j3, fun _ h => ⟨sI h, trivial⟩, j5, j6, j7, j8, j9, j10, j11, j12, hB⟩)
    refine LinAll.cons (fun fF bF uF kF hJF hfF hcF hupF hsF hKF => ?_) ?_
    · obtain ⟨j0, j1, j2, j3, j4, j5, j6, j7, j8, j9, j10, j11, j12, hB⟩ := hJF
      obtain ⟨e36, p36⟩ := hsF.at hupF 4 36 (by kernel_rfl) rfl j4
      exact lin_pure rfl (.slice (some (Addr.add ⟨g0, o0, none⟩ 32)) 48 (cb - 32)) (exec_slice 25 (.tmp 36) (some (.const (.int .i64 32))) none rfl _ (some (.int .i64 32)) none e36 rfl rfl _ (HSC.out _)) (hKF _ _ ⟨j0, j1, j2, j3, j4, fun _ h => ⟨sI h, trivial⟩, j6, j7, j8, j9, j10, j11, j12, hB⟩)
    refine LinAll.cons (fun fF bF uF kF hJF hfF hcF hupF hsF hKF => ?_) ?_
    · obtain ⟨j0, j1, j2, j3, j4, j5, j6, j7, j8, j9, j10, j11, j12, hB⟩ := hJF
      have e9 : bF.eval (.tmp 9) = .pointer (some ⟨g9, 0, none⟩) := hsF.old' 9 (by kernel_rfl) rfl
      exact lin_pure rfl (.slice (some ⟨g9, 0, none⟩) 32 32) (by simp only [execOp, e9]; first | rfl | (go_simp; done)) (hKF _ _ ⟨j0, j1, j2, j3, j4, j5, fun _ h => ⟨sI h, trivial⟩, j7, j8, j9, j10, j11, j12, hB⟩)
    refine LinAll.cons (fun fF bF uF kF hJF hfF hcF hupF hsF hKF => ?_) ?_
    · obtain ⟨j0, j1, j2, j3, j4, j5, j6, j7, j8, j9, j10, j11, j12, hB⟩ := hJF
      obtain ⟨e34, p34⟩ := hsF.at hupF 2 34 (by kernel_rfl) rfl j2
      obtain ⟨e35, p35⟩ := hsF.at hupF 3 35 (by kernel_rfl) rfl j3
      obtain ⟨e37, p37⟩ := hsF.at hupF 5 37 (by kernel_rfl) rfl j5
      obtain ⟨e38, p38⟩ := hsF.at hupF 6 38 (by kernel_rfl) rfl j6
      refine lin_call rfl 14 [.tmp 34, .tmp 35, .tmp 37, .tmp 38] _ [.agg (arr .u8 kv), .agg (arr .u8 nv), .slice (some (Addr.add ⟨g0, o0, none⟩ 32)) 48 (cb - 32), .slice (some ⟨g9, 0, none⟩) 32 32] rfl (by simp only [List.map_cons, List.map_nil, e34, e35, e37, e38] <;> rfl) (fun _ _ => by kernel_rfl) ?_
      refine Calls.mono (HOP.out _ _ _ _ (by have := HC.out; omega) (HS1.out _ (HB.out.below hB.below)) (src_all (hB.get 4 rfl) 32 HPL.out)) ?_
      rintro e w1 ⟨os, oc, rfl, hso, hb⟩
      exact ⟨_, rfl, hKF _ _ ⟨j0, j1, j2, j3, j4, j5, j6, fun _ h => ⟨os, oc, sI h, hso⟩, fun v h => let ⟨s, c, e, p, q⟩ := j8 v h; ⟨s, c, e, p.below hb, q⟩, fun v h => let ⟨s, c, e, p, q⟩ := j9 v h; ⟨s, c, e, p.below hb, q⟩, j10, fun v h => let ⟨s, c, e, p, q⟩ := j11 v h; ⟨s, c, e, p.below hb, q⟩, j12, hB.kept hb⟩⟩
    refine LinAll.cons (fun fF bF uF kF hJF hfF hcF hupF hsF hKF => ?_) ?_
    · obtain ⟨j0, j1, j2, j3, j4, j5, j6, j7, j8, j9, j10, j11, j12, hB⟩ := hJF
      have y7 := hupF 7 (by kernel_rfl)
      obtain ⟨v7, s7⟩ := sE y7
      obtain ⟨p7s, p7c, rfl, p7h⟩ := j7 _ s7
      have e39 := hsF.val 7 39 rfl s7
      exact lin_pure rfl (.tuple #[.slice p7s m p7c, .int .i64 ee]) (by simp only [execOp, e39] <;> first | rfl | kernel_rfl | (go_simp; done)) (hKF _ _ ⟨j0, j1, j2, j3, j4, j5, j6, j7, fun _ h => ⟨p7s, p7c, sI h, p7h⟩, j9, j10, j11, j12, hB⟩)
    refine LinAll.cons (fun fF bF uF kF hJF hfF hcF hupF hsF hKF => ?_) ?_
    · obtain ⟨j0, j1, j2, j3, j4, j5, j6, j7, j8, j9, j10, j11, j12, hB⟩ := hJF
      have y8 := hupF 8 (by kernel_rfl)
      obtain ⟨v8, s8⟩ := sE y8
      obtain ⟨p8s, p8c, rfl, p8h⟩ := j8 _ s8
      have e31 := hsF.val 8 31 rfl s8
      exact lin_pure rfl (.slice p8s m p8c) (by simp only [execOp, e31] <;> first | rfl | kernel_rfl | (go_simp; done)) (hKF _ _ ⟨j0, j1, j2, j3, j4, j5, j6, j7, j8, fun _ h => ⟨p8s, p8c, sI h, p8h⟩, j10, j11, j12, hB⟩)
    refine LinAll.cons (fun fF bF uF kF hJF hfF hcF hupF hsF hKF => ?_) ?_
    · obtain ⟨j0, j1, j2, j3, j4, j5, j6, j7, j8, j9, j10, j11, j12, hB⟩ := hJF
      have y8 := hupF 8 (by kernel_rfl)
      obtain ⟨v8, s8⟩ := sE y8
      obtain ⟨p8s, p8c, rfl, p8h⟩ := j8 _ s8
      have e31 := hsF.val 8 31 rfl s8
      exact lin_pure rfl (.int .i64 ee) (by simp only [execOp, e31] <;> first | rfl | kernel_rfl | (go_simp; done)) (hKF _ _ ⟨j0, j1, j2, j3, j4, j5, j6, j7, j8, j9, fun _ h => ⟨sI h, trivial⟩, j11, j12, hB⟩)
    refine LinAll.cons (fun fF bF uF kF hJF hfF hcF hupF hsF hKF => ?_) ?_
    · obtain ⟨j0, j1, j2, j3, j4, j5, j6, j7, j8, j9, j10, j11, j12, hB⟩ := hJF
      have y9 := hupF 9 (by kernel_rfl)
      obtain ⟨v9, s9⟩ := sE y9
      obtain ⟨p9s, p9c, rfl, p9h⟩ := j9 _ s9
      have e40 := hsF.val 9 40 rfl s9
      exact lin_pure rfl (.slice p9s m p9c) (by simp only [execOp, e40] <;> first | rfl | kernel_rfl | (go_simp; done)) (hKF _ _ ⟨j0, j1, j2, j3, j4, j5, j6, j7, j8, j9, j10, fun _ h => ⟨p9s, p9c, sI h, p9h⟩, j12, hB⟩)
    refine LinAll.cons (fun fF bF uF kF hJF hfF hcF hupF hsF hKF => ?_) ?_
    · obtain ⟨j0, j1, j2, j3, j4, j5, j6, j7, j8, j9, j10, j11, j12, hB⟩ := hJF
      obtain ⟨e41, p41⟩ := hsF.at hupF 10 41 (by kernel_rfl) rfl j10
      exact lin_pure rfl (.int .i64 ee) (by simp only [execOp, e41]; first | rfl | (go_simp; done)) (hKF _ _ ⟨j0, j1, j2, j3, j4, j5, j6, j7, j8, j9, j10, j11, fun _ h => ⟨sI h, trivial⟩, hB⟩)
    exact LinAll.nil
  case eu8 =>
  intro fF uu8 hall hJF
  obtain ⟨j0, j1, j2, j3, j4, j5, j6, j7, j8, j9, j10, j11, j12, hB⟩ := hJF
  obtain ⟨v0, h0⟩ := sE (hall 0 (by decide))
  obtain ⟨rfl, p0⟩ := j0 _ h0
  obtain ⟨v1, h1⟩ := sE (hall 1 (by decide))
  obtain ⟨rfl, p1⟩ := j1 _ h1
  obtain ⟨v2, h2⟩ := sE (hall 2 (by decide))
  obtain ⟨rfl, p2⟩ := j2 _ h2
  obtain ⟨v3, h3⟩ := sE (hall 3 (by decide))
  obtain ⟨rfl, p3⟩ := j3 _ h3
  obtain ⟨v4, h4⟩ := sE (hall 4 (by decide))
  obtain ⟨rfl, p4⟩ := j4 _ h4
  obtain ⟨v5, h5⟩ := sE (hall 5 (by decide))
  obtain ⟨rfl, p5⟩ := j5 _ h5
  obtain ⟨v6, h6⟩ := sE (hall 6 (by decide))
  obtain ⟨rfl, p6⟩ := j6 _ h6
  obtain ⟨v7, h7⟩ := sE (hall 7 (by decide))
  obtain ⟨p7s, p7c, rfl, p7h⟩ := j7 _ h7
  obtain ⟨v8, h8⟩ := sE (hall 8 (by decide))
  obtain ⟨p8s, p8c, rfl, p8h⟩ := j8 _ h8
  obtain ⟨v9, h9⟩ := sE (hall 9 (by decide))
  obtain ⟨p9s, p9c, rfl, p9h⟩ := j9 _ h9
  obtain ⟨v10, h10⟩ := sE (hall 10 (by decide))
  obtain ⟨rfl, p10⟩ := j10 _ h10
  obtain ⟨v11, h11⟩ := sE (hall 11 (by decide))
  obtain ⟨q1s, q1c, rfl, q1h⟩ := j11 _ h11
  obtain ⟨v12, h12⟩ := sE (hall 12 (by decide))
  obtain ⟨rfl, p12⟩ := j12 _ h12
  have HBu8 : Hid (Blk w uu8 [(w.heap.size, arr .u8 ss, 23), (w.heap.size + 1, arr .u8 zn, 23), (g6, arr .u8 e0, 23), (g7, arr .u8 zs, 23), (g9, arr .u8 pl, 23)]) := Lib.hid hB
  simp only [laid, Nat.zero_add, Nat.reduceAdd, h0, h1, h2, h3, h4, h5, h6, h7, h8, h9, h10, h11, h12, Act.put, sA, sZ, sS]
  clear j0 j1 j2 j3 j4 j5 j6 j7 j8 j9 j10 j11 j12 hB h0 h1 h2 h3 h4 h5 h6 h7 h8 h9 h10 h11 h12 hall fF HI8
  clear p0 p1 p2 p3 p4 p5 p6 p10 p12
  have HQ := Lib.hid q1h
  clear q1h p7h p8h p9h
  (try simp only [Exit.then])
  cases ok with
  | false =>
    have e2 := HEE.out
    rw [if_neg (by decide)] at e2
    subst e2
    clear HEE
    go_wp2_with (first | ((with_reducible refine aS 44 ?_); refine wpList_build (by rfl) 23 _ rfl #[] rfl _ (HBZ.out _) ?_) | ((with_reducible refine aT 4 ?_); refine wpList_store_whole rfl 23 _ _ rfl (w.heap.size + 1) _ _ 23 (HBu8.out.get 1 rfl) rfl rfl (arr_len2 _ _ HLzn.out HLzn.out) (num_s HLzn.out) (all_arr _ _) ?_; intro w21 hb21 hk21 hz21; have HI21 := Lib.hid (HBu8.out.put 1 rfl hk21 hb21); clear hb21 hk21 hz21))
    (try simp only [Exit.then])
    refine bodyPost_ret (results_cell_tmp_row rfl _ _ (w.heap.size + 1) 23 _ (0, 0) _ _ rfl (HI21.out.get 1 rfl) Tryd.underlying23 rfl (num_s HLzn.out) rfl) rfl ?_
    exact ⟨by first | (rw [HZN0.out]; rfl) | (rw [if_neg HZ.out, if_neg Bool.false_ne_true]; simp only [HZN0.out]; rfl), HI21.out.below⟩
  | true =>
    have e2 := HEE.out
    rw [if_pos rfl] at e2
    subst e2
    obtain rfl : m = 32 := HOL.out rfl
    obtain ⟨hq1, hq2⟩ := HQ.out
    obtain ⟨gq, rfl⟩ := hq2 (fun e => by have := HM.out; rw [e] at this; exact absurd this (by decide))
    have HQ1 := Lib.hid hq1
    have HOPL : Hid (OP.length = 32) := Lib.hid HM.out.symm
    clear HQ hq1 hq2 HEE
    go_wp2_with (first | ((with_reducible refine aS 47 ?_); refine wpList_s2a' rfl 23 (.tmp 46) rfl (.slice (some ⟨gq, 0, none⟩) 32 q1c) (.pointer (some ⟨gq, 0, none⟩)) rfl (by first | rfl | kernel_rfl) ?_) | ((with_reducible refine aS 48 ?_); refine wpList_load_mid rfl 23 (.tmp 47) rfl gq 0 rfl (OP.map (Value.int .u8)) _ (cells_of' HQ1.out) Tryd.underlying23 rfl (by rw [List.length_map]; exact num_i HOPL.out) ?_) | ((with_reducible refine aT 4 ?_); refine wpList_store_whole rfl 23 _ _ rfl (w.heap.size + 1) _ _ 23 (HBu8.out.get 1 rfl) rfl rfl (arr_len2 _ _ HOPL.out HLzn.out) (num_s HOPL.out) (all_arr _ _) ?_; intro w22 hb22 hk22 hz22; have HI22 := Lib.hid (HBu8.out.put 1 rfl hk22 hb22); clear hb22 hk22 hz22))
    (try simp only [Exit.then])
    refine bodyPost_ret (results_cell_tmp_row rfl _ _ (w.heap.size + 1) 23 _ (0, 0) _ _ rfl (HI22.out.get 1 rfl) Tryd.underlying23 rfl (num_s HOPL.out) rfl) rfl ?_
    exact ⟨by first | rfl | (rw [if_neg HZ.out, if_pos rfl]; rfl), HI22.out.below⟩
end Go.Proofs.YtogebegdgfdijaaDoor.Wr
namespace Go.Proofs.YtogebegdgfdijaaDoor.Wr
open Go.RowKit Lm Cu Fp
def nm (n : Nat) : List Int := (n : Int) :: List.replicate 31 0
theorem nm_k : ∀ n, n < 256 → nm n = n32 n := by decide +kernel
def P1 : Nat := 52573937849532372069814888178136277301931757964231753054399601207743438775599
def Z1 : Nat := 47371584340190434397458396784519032097355506450803964851670834165077996928659
def M1 : List Int := [38, 64, 9, 240, 179, 2, 196, 10, 104, 251, 44, 190, 125, 31, 100, 45, 111, 173, 19, 34, 162, 11, 20, 117, 92, 44, 54, 235, 130, 182, 108, 158]
def KV : List Int := [187, 5, 24, 11, 143, 69, 84, 59, 154, 151, 192, 126, 93, 233, 175, 93, 6, 106, 137, 73, 226, 240, 206, 148, 81, 161, 96, 121, 191, 56, 253, 244]
def CV : List Int := [211, 188, 236, 39, 232, 143, 98, 218, 79, 216, 198, 204, 133, 117, 143, 143, 234, 49, 30, 145, 70, 191, 94, 92, 7, 229, 138, 165, 246, 28, 25, 15]
def TV : List Int := [208, 213, 54, 15, 203, 71, 18, 127, 0, 90, 255, 157, 213, 99, 107, 168]
theorem l1 : x25519 1 9 = P1 := by decide +kernel
theorem l2 : x25519 2 P1 = Z1 := by decide +kernel
theorem l3 : x25519 2 9 = P1 := by decide +kernel
theorem l4 : x25519 1 P1 = Z1 := by decide +kernel
theorem m1 : mac (n32 P1) (n32 Z1) = M1 := by decide +kernel
theorem m2 : mac M1 [119, 114, 97, 112, 1] = KV := by decide +kernel
def s1_0 : List Int := [1634760805, 857760878, 2036477234, 1797285236, 186123707, 995378575, 2126550938, 1571809629, 1233742342, 2496590050, 2036375889, 4110235839, 1, 0, 0, 0]
def s1_1 : List Int := [144180985, 2490559465, 553735262, 2293260202, 1962617176, 2279228752, 3431616442, 3197093379, 1438026649, 3103160734, 157058101, 1641348785, 787577590, 289750979, 1661115071, 1005192633]
def s1_2 : List Int := [1613135751, 3017309342, 3599323862, 3835486670, 3292463012, 513212714, 2538718204, 3105440382, 819718278, 2006727142, 1125446817, 4141864468, 1953843021, 2603389341, 3300598928, 1362538189]
def s1_3 : List Int := [93973131, 2051704476, 2213215939, 2416108655, 4152496095, 2528953326, 2980357488, 2375701772, 1713243143, 2204259253, 1891160665, 3944752816, 541614462, 706796176, 642729870, 2516026472]
def s1_4 : List Int := [1434995347, 182542464, 3641810739, 4018739996, 3345399272, 1601273263, 3696517089, 1196640101, 3603667696, 1394671427, 3766039336, 1066022546, 629058126, 568571514, 3339491159, 1223770258]
def s1_5 : List Int := [3424217044, 634719477, 361340881, 625565486, 1581891462, 2672513528, 290464592, 2346281182, 8818044, 1984113509, 3690551421, 1594742844, 2409286977, 408288939, 1891310985, 3956277140]
def s1_6 : List Int := [3455033625, 716718151, 925546802, 572281543, 3580493571, 4022978276, 2717861585, 3676870273, 2682885453, 544232304, 3875129839, 106694229, 3740014652, 2195169855, 3300027762, 3376788357]
def s1_7 : List Int := [3005435055, 4007520777, 1647987468, 819808635, 340166736, 4067578257, 2495328616, 739794214, 2669055801, 822153772, 1163647600, 1275987676, 3431103185, 4219823731, 3164125790, 3185548119]
def s1_8 : List Int := [3642771512, 3166781559, 2513902971, 1496297376, 4135795153, 3329399214, 805883145, 3158770379, 1451237273, 3697772371, 4135602718, 2022223167, 1436466779, 1010760872, 957153661, 1054309224]
def s1_9 : List Int := [1100943529, 104061296, 2105914942, 692603274, 2832352578, 831133948, 1705487353, 586852096, 1797273094, 2932963455, 1756800076, 758834820, 1963872346, 1410947311, 3637655100, 2579118535]
def s1_10 : List Int := [3330032747, 2806131578, 1399106333, 611258385, 2248551471, 554334647, 650792301, 2976461721, 3565467117, 4070977766, 2723464713, 3336292997, 1064148350, 2034821197, 797270469, 2835965598]
def B1 : List Int := [208, 188, 236, 39, 232, 143, 98, 218, 79, 216, 198, 204, 133, 117, 143, 143, 234, 49, 30, 145, 70, 191, 94, 92, 7, 229, 138, 165, 246, 28, 25, 15, 243, 31, 14, 30, 200, 33, 117, 135, 90, 103, 181, 27, 68, 3, 217, 187, 127, 157, 109, 63, 77, 232, 72, 121, 197, 97, 133, 47, 158, 102, 9, 169]
theorem b1_0 : Ch.begin KV 1 n0 = s1_0 := by decide +kernel
theorem e1_0 : Ch.doubles s1_0 0 = s1_0 := rfl
theorem d1_0 : Ch.diags (Ch.cols s1_0 4) 4 = s1_1 := by decide +kernel
theorem e1_1 : Ch.doubles s1_0 1 = s1_1 := by rw [Ch.doubles_succ, e1_0, d1_0]
theorem d1_1 : Ch.diags (Ch.cols s1_1 4) 4 = s1_2 := by decide +kernel
theorem e1_2 : Ch.doubles s1_0 2 = s1_2 := by rw [Ch.doubles_succ, e1_1, d1_1]
theorem d1_2 : Ch.diags (Ch.cols s1_2 4) 4 = s1_3 := by decide +kernel
theorem e1_3 : Ch.doubles s1_0 3 = s1_3 := by rw [Ch.doubles_succ, e1_2, d1_2]
theorem d1_3 : Ch.diags (Ch.cols s1_3 4) 4 = s1_4 := by decide +kernel
theorem e1_4 : Ch.doubles s1_0 4 = s1_4 := by rw [Ch.doubles_succ, e1_3, d1_3]
theorem d1_4 : Ch.diags (Ch.cols s1_4 4) 4 = s1_5 := by decide +kernel
theorem e1_5 : Ch.doubles s1_0 5 = s1_5 := by rw [Ch.doubles_succ, e1_4, d1_4]
theorem d1_5 : Ch.diags (Ch.cols s1_5 4) 4 = s1_6 := by decide +kernel
theorem e1_6 : Ch.doubles s1_0 6 = s1_6 := by rw [Ch.doubles_succ, e1_5, d1_5]
theorem d1_6 : Ch.diags (Ch.cols s1_6 4) 4 = s1_7 := by decide +kernel
theorem e1_7 : Ch.doubles s1_0 7 = s1_7 := by rw [Ch.doubles_succ, e1_6, d1_6]
theorem d1_7 : Ch.diags (Ch.cols s1_7 4) 4 = s1_8 := by decide +kernel
theorem e1_8 : Ch.doubles s1_0 8 = s1_8 := by rw [Ch.doubles_succ, e1_7, d1_7]
theorem d1_8 : Ch.diags (Ch.cols s1_8 4) 4 = s1_9 := by decide +kernel
theorem e1_9 : Ch.doubles s1_0 9 = s1_9 := by rw [Ch.doubles_succ, e1_8, d1_8]
theorem d1_9 : Ch.diags (Ch.cols s1_9 4) 4 = s1_10 := by decide +kernel
theorem e1_10 : Ch.doubles s1_0 10 = s1_10 := by rw [Ch.doubles_succ, e1_9, d1_9]
theorem f1 : Ch.blockOf s1_10 s1_0 = B1 := by decide +kernel
theorem k1 : Ch.block KV 1 n0 = B1 := by rw [Ch.block, b1_0, e1_10, f1]
def s0_0 : List Int := [1634760805, 857760878, 2036477234, 1797285236, 186123707, 995378575, 2126550938, 1571809629, 1233742342, 2496590050, 2036375889, 4110235839, 0, 0, 0, 0]
def s0_1 : List Int := [4187490041, 2489510888, 285103182, 4171670128, 109725198, 262258128, 4243934778, 3203919544, 867531736, 3952811766, 156005316, 1640235185, 787512310, 3997511666, 1568587927, 1004143944]
def s0_2 : List Int := [892888225, 69615034, 1988023964, 644187357, 4701335, 2858130873, 3774440787, 2759632014, 2009592204, 3454099580, 635935822, 77577432, 1983955184, 3737393254, 692277823, 1830407677]
def s0_3 : List Int := [15665864, 2293909435, 1677037921, 490012696, 2747201324, 2197399309, 2263120071, 3587668715, 2116778870, 2424963904, 1123953953, 1069245436, 1531587841, 1801927296, 1509352260, 618488552]
def s0_4 : List Int := [1346629489, 769767711, 3665850552, 289960626, 3101907319, 4107157877, 2643629880, 2080262623, 529138000, 2996767693, 3527014047, 435830690, 3288113706, 1726240598, 1188031560, 4178327246]
def s0_5 : List Int := [3618018008, 4137756055, 2276478732, 1465868538, 2523104479, 3710257369, 3846458605, 3432278001, 3159226827, 879365855, 1840348269, 2951342095, 1209545978, 107757676, 304342506, 2094910836]
def s0_6 : List Int := [1585165801, 653369218, 788515123, 4100135951, 1634600180, 3260993745, 114627973, 477904755, 3931714545, 2466293869, 3313254100, 2275003852, 3203515733, 3615169810, 3457744229, 4242384190]
def s0_7 : List Int := [384585915, 3205329017, 4119337683, 90527376, 2211741425, 3431161181, 937186048, 1329279807, 3560601438, 4075772445, 1626118121, 2022408876, 2931284724, 2728658355, 3737070106, 3281785999]
def s0_8 : List Int := [166760332, 2136724992, 3196969376, 3740555866, 1055732340, 2669469881, 1175404296, 1477854870, 1001922466, 3424777684, 2063169703, 720530297, 3218734904, 1028823415, 3285812966, 2357382405]
def s0_9 : List Int := [3886042007, 2720359695, 3845592895, 3493753599, 1420399893, 3365784638, 829661372, 3465431293, 3733429324, 566436982, 1657546334, 816985100, 3509471830, 2548313438, 1330887795, 22180797]
def s0_10 : List Int := [2464842365, 1713313493, 662654272, 1745581971, 4278286530, 2662649670, 920989654, 3005531454, 1754433835, 1918875581, 3367293264, 622648289, 1277483130, 3855763245, 3476475582, 4111248806]
def B0 : List Int := [226, 250, 90, 244, 67, 123, 63, 153, 114, 122, 225, 160, 7, 221, 43, 211, 125, 126, 25, 10, 213, 20, 9, 218, 112, 199, 165, 181, 155, 174, 212, 16, 49, 243, 27, 178, 159, 168, 46, 7, 161, 114, 21, 66, 160, 20, 26, 26, 122, 216, 36, 76, 45, 71, 210, 229, 190, 206, 54, 207, 166, 173, 12, 245]
theorem b0_0 : Ch.begin KV 0 n0 = s0_0 := by decide +kernel
theorem e0_0 : Ch.doubles s0_0 0 = s0_0 := rfl
theorem d0_0 : Ch.diags (Ch.cols s0_0 4) 4 = s0_1 := by decide +kernel
theorem e0_1 : Ch.doubles s0_0 1 = s0_1 := by rw [Ch.doubles_succ, e0_0, d0_0]
theorem d0_1 : Ch.diags (Ch.cols s0_1 4) 4 = s0_2 := by decide +kernel
theorem e0_2 : Ch.doubles s0_0 2 = s0_2 := by rw [Ch.doubles_succ, e0_1, d0_1]
theorem d0_2 : Ch.diags (Ch.cols s0_2 4) 4 = s0_3 := by decide +kernel
theorem e0_3 : Ch.doubles s0_0 3 = s0_3 := by rw [Ch.doubles_succ, e0_2, d0_2]
theorem d0_3 : Ch.diags (Ch.cols s0_3 4) 4 = s0_4 := by decide +kernel
theorem e0_4 : Ch.doubles s0_0 4 = s0_4 := by rw [Ch.doubles_succ, e0_3, d0_3]
theorem d0_4 : Ch.diags (Ch.cols s0_4 4) 4 = s0_5 := by decide +kernel
theorem e0_5 : Ch.doubles s0_0 5 = s0_5 := by rw [Ch.doubles_succ, e0_4, d0_4]
theorem d0_5 : Ch.diags (Ch.cols s0_5 4) 4 = s0_6 := by decide +kernel
theorem e0_6 : Ch.doubles s0_0 6 = s0_6 := by rw [Ch.doubles_succ, e0_5, d0_5]
theorem d0_6 : Ch.diags (Ch.cols s0_6 4) 4 = s0_7 := by decide +kernel
theorem e0_7 : Ch.doubles s0_0 7 = s0_7 := by rw [Ch.doubles_succ, e0_6, d0_6]
theorem d0_7 : Ch.diags (Ch.cols s0_7 4) 4 = s0_8 := by decide +kernel
theorem e0_8 : Ch.doubles s0_0 8 = s0_8 := by rw [Ch.doubles_succ, e0_7, d0_7]
theorem d0_8 : Ch.diags (Ch.cols s0_8 4) 4 = s0_9 := by decide +kernel
theorem e0_9 : Ch.doubles s0_0 9 = s0_9 := by rw [Ch.doubles_succ, e0_8, d0_8]
theorem d0_9 : Ch.diags (Ch.cols s0_9 4) 4 = s0_10 := by decide +kernel
theorem e0_10 : Ch.doubles s0_0 10 = s0_10 := by rw [Ch.doubles_succ, e0_9, d0_9]
theorem f0 : Ch.blockOf s0_10 s0_0 = B0 := by decide +kernel
theorem k0 : Ch.block KV 0 n0 = B0 := by rw [Ch.block, b0_0, e0_10, f0]
theorem turn_one (k n b : List Int) (h : b.length ≤ 64) : Ch.turn k 1 n b = b.mapIdx fun i x => bits .xor .u8 x ((Ch.block k 1 n).getD i 0) := by
  unfold Ch.turn
  apply List.ext_getElem
  · simp
  · intro i h1 h2
    simp only [List.length_mapIdx] at h1
    simp only [List.getElem_mapIdx]
    rw [show i / 64 = 0 by omega, show i % 64 = i by omega]
    rfl
theorem t1 : Ch.turn KV 1 n0 (nm 3) = CV := by rw [turn_one _ _ _ (by decide), k1]; decide +kernel
theorem t3 : Ch.turn KV 1 n0 CV = nm 3 := by rw [turn_one _ _ _ (by decide), k1]; decide +kernel
def msg1 : List Nat := (n32 P1 ++ CV ++ [32, 0, 0, 0, 0, 0, 0, 0, 32, 0, 0, 0, 0, 0, 0, 0]).map Int.toNat
theorem t2 : Ae.tag KV n0 CV (n32 P1) = TV := by
  have h : nar (Po.tagP (Ae.toN (B0.take 32)) (Ae.toN (Ae.msg (n32 P1) CV))) = TV := by decide +kernel
  rw [Ae.tag, k0]
  exact h
theorem sv : Ae.seal' KV n0 (nm 3) (n32 P1) = CV ++ TV := by rw [Ae.seal', t1, t2]
theorem ok1 : Ae.okay KV n0 (CV ++ TV) (n32 P1) = true := by
  have h1 : (CV ++ TV).take ((CV ++ TV).length - 16) = CV := by decide
  have h2 : (CV ++ TV).drop ((CV ++ TV).length - 16) = TV := by decide
  rw [Ae.okay, h1, h2, t2]
  decide
theorem op1 : Ae.opened KV n0 (CV ++ TV) (n32 P1) = nm 3 := by
  have h1 : (CV ++ TV).take ((CV ++ TV).length - 16) = CV := by decide
  rw [Ae.opened, if_pos ok1, h1, t3]
theorem z1_ne : ¬ Z1 = 0 := by decide
theorem wk : wkey (n32 P1) (n32 Z1) = KV := by rw [wkey, m1, m2]
theorem wr1 : wres (x25519 1 9) 2 (nm 3) = n32 P1 ++ (CV ++ TV) := by
  rw [wres, l1, l2, if_neg z1_ne, l3, sealed, l3, l2, wk, sv]
theorem p1_lt : P1 < 256 ^ 32 := by decide
theorem alive14a : werr (x25519 1 9) 2 = 0 ∧ (wres (x25519 1 9) 2 (nm 3)).length = 80 ∧ (ures 1 (wres (x25519 1 9) 2 (nm 3))).1 = nm 3 ∧ (ures 1 (wres (x25519 1 9) 2 (nm 3))).2 = 0 := by
  have hl : (n32 P1 ++ (CV ++ TV)).length = 80 := by rw [List.length_append, n32_len]; rfl
  have h1 : (n32 P1 ++ (CV ++ TV)).take 32 = n32 P1 := by rw [List.take_append_of_le_length (by rw [n32_len]; decide), List.take_of_length_le (by rw [n32_len]; decide)]
  have h2 : (n32 P1 ++ (CV ++ TV)).drop 32 = CV ++ TV := by rw [List.drop_append_of_le_length (by rw [n32_len]; decide), List.drop_of_length_le (by rw [n32_len]; decide), List.nil_append]
  have hu : ures 1 (n32 P1 ++ (CV ++ TV)) = (nm 3, 0) := by
    rw [ures, if_pos hl, h1, h2, hnum_n32 p1_lt, l4, if_neg z1_ne, l1, wk, if_pos ok1, op1]
  rw [wr1, hu]
  exact ⟨by rw [werr, l1, l2, if_neg z1_ne], hl, rfl, rfl⟩
end Go.Proofs.YtogebegdgfdijaaDoor.Wr
namespace Go.Proofs.YtogebegdgfdijaaDoor.Wr
open Go.RowKit Lm Cu Sl Fp
theorem num14_any (x : Int) (w : World) : Calls Tryd.prog 9 #[.int .i64 x] w fun e w' => e = .returned (.int .i64 x) ∧ w' = w := by
  go_enter Tryd.func9, Tryd.ntmps9
  go_wp2
  go_ret
  exact ⟨rfl, rfl⟩
theorem build_nm (x : Int) (w : World) : (Instr.build 23 #[(0, .int .u8 x)]).run Tryd.prog w = .ok (.agg (arr .u8 (x :: List.replicate 31 0))) w := by kernel_rfl
theorem wl_bytes : bytes (wres (x25519 1 9) 2 (nm 3)) := by
  rw [wr1]
  refine bytes_app (n32_bytes _) ?_
  show ∀ x ∈ CV ++ TV, 0 ≤ x ∧ x ≤ 255
  decide
theorem alive14_any (w : World) : Calls Tryd.prog 4 #[] w fun e w' => e = .returned (.bool true) ∧ Below w.heap.size w w' := by
  have k1 : K32 (nm 1) 1 := ⟨nm_k 1 (by decide), by decide⟩
  have k2 : K32 (nm 2) 2 := ⟨nm_k 2 (by decide), by decide⟩
  have b3 : bytes (nm 3) := by rw [nm_k 3 (by decide)]; exact n32_bytes 3
  obtain ⟨x1, x2, x3, x4⟩ := alive14a
  have hpb := fun (u : World) => lpublic_any 1 u k1
  have hwr := fun (ts : List Int) (u : World) (h : K32 ts (x25519 1 9)) => wrap_any (ts := ts) (x25519 1 9) 2 u h k2 (show (nm 3).length = 32 from rfl) b3
  rw [x1, x2] at hwr
  have hun := fun (s : Option Addr) (c : Nat) (u : World) (h : Src u s 80 (wres (x25519 1 9) 2 (nm 3))) (hc : 80 ≤ c) => unwrap_any 1 s 80 c u k1 h hc wl_bytes
  rw [x3, x4] at hun
  obtain ⟨bs, hbs⟩ : ∃ x, x = wres (x25519 1 9) 2 (nm 3) := ⟨_, rfl⟩
  obtain ⟨P1, hP1⟩ : ∃ x, x = x25519 1 9 := ⟨_, rfl⟩
  rw [← hbs] at hwr hun
  rw [← hP1] at hwr hpb
  have B1 := Lib.hid (fun w => build_nm 1 w)
  have B2 := Lib.hid (fun w => build_nm 2 w)
  have B3 := Lib.hid (fun w => build_nm 3 w)
  rw [show ((1 : Int) :: List.replicate 31 0) = nm 1 from rfl] at B1
  rw [show ((2 : Int) :: List.replicate 31 0) = nm 2 from rfl] at B2
  rw [show ((3 : Int) :: List.replicate 31 0) = nm 3 from rfl] at B3
  obtain ⟨n1, hn1⟩ : ∃ x, x = nm 1 := ⟨_, rfl⟩
  obtain ⟨n2, hn2⟩ : ∃ x, x = nm 2 := ⟨_, rfl⟩
  obtain ⟨n3, hn3⟩ : ∃ x, x = nm 3 := ⟨_, rfl⟩
  rw [← hn1] at B1 hpb hun
  rw [← hn2] at B2 hwr
  rw [← hn3] at B3 hwr hun
  have HN3 : Hid (n3.length = 32) := Lib.hid (by rw [hn3]; rfl)
  have HPB := Lib.hid hpb
  have HWRR := Lib.hid hwr
  have HUN := Lib.hid hun
  obtain ⟨zn, hzn⟩ : ∃ zs : List Int, zs = List.replicate 32 0 := ⟨_, rfl⟩
  have HZzn : Hid (∀ w, (zeroValue 23).run Tryd.prog w = .ok (.agg (arr .u8 zn)) w) := Lib.hid (by intro w; rw [hzn]; exact zero_num w)
  have HLzn : Hid (zn.length = 32) := Lib.hid (by rw [hzn]; rfl)
  have HI0 := Lib.hid (Blk.nil w)
  clear k1 k2 b3 x1 x2 x3 x4 hpb hwr hun hbs hP1 hn1 hn2 hn3 hzn
  go_enter Tryd.func4, Tryd.ntmps4
  go_upto_region 3 with (first | ((with_reducible refine aS 6 ?_); refine wpList_build (by rfl) 23 _ rfl #[(0, .int .u8 1)] rfl _ (B1.out _) ?_) | ((with_reducible refine aS 8 ?_); refine wpList_build (by rfl) 23 _ rfl #[(0, .int .u8 2)] rfl _ (B2.out _) ?_) | ((with_reducible refine aS 9 ?_); refine wpList_build (by rfl) 23 _ rfl #[(0, .int .u8 3)] rfl _ (B3.out _) ?_) | ((with_reducible refine aS 14 ?_); refine wpList_build (by rfl) 23 _ rfl #[(0, .int .u8 1)] rfl _ (B1.out _) ?_) | ((with_reducible show Calls _ 6 _ _ _); go_at_call 6; refine (HPB.out _).mono ?_; rintro e w1 ⟨z1, rfl, h1, hb1⟩; have HZ1 := Lib.hid h1; have HI1 := Lib.hid (HI0.out.kept hb1); clear h1 hb1) | ((with_reducible show Calls _ 5 _ _ _); go_at_call 5; refine (HWRR.out _ _ HZ1.out).mono ?_; rintro e w2 ⟨⟨sb, cb, rfl, hs2, hc2⟩, hb2⟩; have HS2 := Lib.hid hs2; have HC2 := Lib.hid hc2; have HI2 := Lib.hid (HI1.out.kept hb2); clear hs2 hc2 hb2) | ((with_reducible show Calls _ 7 _ _ _); go_at_call 7; refine (HUN.out _ _ _ HS2.out HC2.out).mono ?_; rintro e w3 ⟨rfl, hb3⟩; have HI3 := Lib.hid (HI2.out.kept hb3); clear hb3) | ((with_reducible refine aS 3 ?_); refine wpList_alloc_row rfl 23 rfl _ (HZzn.out _) ?_; have HI4 := Lib.hid (HI3.out.alloc (arr .u8 zn) 23); generalize w3.heap.size = g3 at HI4 ⊢; generalize w3.alloc (.cells (arr .u8 zn) 23) = w4 at HI4 ⊢) | ((with_reducible refine aT 3 ?_); refine wpList_store_whole rfl 23 _ _ rfl (g3) _ _ 23 (HI4.out.get 0 rfl) rfl rfl (arr_len2 _ _ HN3.out HLzn.out) (num_s HN3.out) (all_arr _ _) ?_; intro w5 hb5 hk5 hz5; have HI5 := Lib.hid (HI4.out.put 0 rfl hk5 hb5); clear hb5 hk5 hz5))
  (try simp only [World.size_alloc, Act.put, sA, sZ, sS])
  have hq := beq_self_eq_true n3
  have hne : ∀ u, (binOp .eql 23 (.agg (arr .u8 n3)) (.agg (arr .u8 n3))).run Tryd.prog u = .ok (.bool true) u := fun u => by
    have := run_eql_arr (P := Tryd.prog) u 23 5 32 .u8 .u8 Tryd.underlying23 Tryd.underlying5 Ha.size_u8 n3 n3 HN3.out HN3.out
    rw [hq] at this
    exact this
  clear hq
  go_wp2_with (first | ((with_reducible show Calls _ 9 _ _ _); go_at_call 9; refine (num14_any _ _).mono ?_; rintro e w6 ⟨rfl, rfl⟩) | ((with_reducible refine aS 26 ?_); refine wpList_load_wanted (by rfl) 23 _ rfl (g3) (0) _ 23 (0, 0) _ (HI5.out.get 0 rfl) rfl .u8 n3 (arr_part _ _) Tryd.underlying23 rfl (num_i HN3.out) ?_) | ((with_reducible refine aS 27 ?_); refine wpList_build (by rfl) 23 _ rfl #[(0, .int .u8 3)] rfl _ (B3.out _) ?_))
  (try simp only [Exit.then])
  go_ret
  exact ⟨rfl, HI5.out.below⟩
end Go.Proofs.YtogebegdgfdijaaDoor.Wr
