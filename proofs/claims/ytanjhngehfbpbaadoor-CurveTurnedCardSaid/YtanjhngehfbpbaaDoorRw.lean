/- portcullisref1.Join: what it answers. Condition: the lists lie there. A copy of bytes within a region that draws its order; three lists of a slice. Over any world; no condition. The document's wide: what they answer. Condition: 32 bytes; lists of the call's size; the tables hold what their text lays. -/
import Derived.Test.YtanjhngehfbpbaaDoorMa
import Derived.StillTailTactics
import Derived.Test.YtanjhngehfbpbaaDoorCvF
import Derived.Test.YtanjhngehfbpbaaDoorRs
import Derived.Test.YtanjhngehfbpbaaDoorHbS
namespace Go.Proofs.YtanjhngehfbpbaaDoor
open Go.RowKit

set_option maxRecDepth 100000 in
set_option maxHeartbeats 1000000 in
theorem join_any (sa : Option Addr) (n c : Nat) (L : List (List Int)) (w : World) (hs : SrcL w sa n L) (hN : L.flatten.length ≤ 1099511627776) (hn : n ≤ 1099511627776) :
    Calls Tryd.prog 16 #[.slice sa n c] w fun e w' => ∃ v, e = .returned v ∧ Own8 w' w.heap.size v L.flatten ∧ Below w.heap.size w w' := by
  have hl := hs.len
  have HS := Lib.hid hs
  have HL := Lib.hid hl
  clear hs hl
  go_enter Tryd.func16, Tryd.ntmps16
  go_wp2_with fail
  go_loopw [3, 4] (fun v i wr => ∃ j : Nat, j ≤ n ∧ i = .int .i64 j ∧ Own8 wr w.heap.size v (L.take j).flatten ∧ Below w.heap.size w wr) (fun _ i _ => n - (intOf i).toNat)
  case atStart => exact ⟨0, Nat.zero_le _, rfl, Own8.nil _ _, Below.refl _ _⟩
  case round =>
    obtain ⟨j, hj, rfl, hO, hB⟩ := hrel
    by_cases hlt : j < n
    · obtain ⟨a, si, ci, rfl, hc, hci, hsi⟩ := HS.out.cell j hlt
      have x0 := below_cell hB hc
      have hsi' := hsi.below hB
      have hfl := flat_le L j (by rw [HL.out]; exact hlt)
      have HFS := Lib.hid (flat_snoc L j (by rw [HL.out]; exact hlt))
      obtain ⟨va, vc, hv, -⟩ := hO.form
      obtain ⟨T, hT⟩ : ∃ T, T = (L.take j).flatten := ⟨_, rfl⟩
      obtain ⟨l, hlj⟩ : ∃ l, l = L.getD j [] := ⟨_, rfl⟩
      rw [← hlj] at x0 hci hsi' hfl HFS
      rw [← hT] at hO hv hfl HFS
      subst hv
      obtain ⟨m, hm⟩ : ∃ m, m = l.length := ⟨_, rfl⟩
      obtain ⟨t, ht⟩ : ∃ t, t = T.length := ⟨_, rfl⟩
      rw [← hm] at x0 hci hsi' hfl
      rw [← ht] at hO hfl ⊢
      have HTL := Lib.hid ht.symm
      have HO := Lib.hid hO
      have HSI := Lib.hid hsi'
      have HB := Lib.hid hB
      clear hO hsi hsi' hB hc hT hlj hm ht
      go_wp2_with ((with_reducible refine aS 16 ?_); refine wpList_app8 rfl (.tmp 11) (.tmp 15) rfl w.heap.size (.slice va t vc) T rfl HO.out si m ci l rfl HSI.out (by rw [HTL.out]; omega) HB.out.size ?_; intro v6 w6 ho6 hg6 hn6 hb6; have HO6 := Lib.hid ho6; have HG6 := Lib.hid hg6; clear ho6 hg6 hn6 hb6)
      go_roundw
      case rel => exact ⟨j + 1, by omega, by go_num, by rw [HFS.out]; exact HO6.out, app8_below HO.out HG6.out HB.out HB.out.size⟩
      case measure => simp [intOf]; omega
    · have ej : L.take j = L := List.take_of_length_le (by rw [HL.out]; omega)
      rw [ej] at hO
      have HO := Lib.hid hO
      have HB := Lib.hid hB
      clear hO hB ej
      go_wp2_with fail
      (try simp only [Exit.inBlock, Exit.then])
      go_ret
      exact ⟨_, rfl, HO.out, HB.out⟩

end Go.Proofs.YtanjhngehfbpbaaDoor
namespace Go.Proofs.YtanjhngehfbpbaaDoor.Rd
open Go.RowKit Lm Fp Cu Sc
set_option linter.unusedSimpArgs false
set_option linter.unusedVariables false

/-- copy of as many bytes as there is room for. -/
theorem step_copy {w : World} {ops : Array Oper} {o : Oper} {a : Act} {K : Act → World → Prop} {Q : Exit → Act → World → Prop} {E : Prop} (hgd : o.guard = none) (d s : Operand)
    (ho : o.op = .call { callee := .builtin .copy, args := #[d, s], argTypes := #[33, 33] }) (g off m c cs : Nat) (ad : Addr) (cur xs : List Int) (t : TypeId)
    (hd : a.eval d = .slice (some ⟨g, off, none⟩) m c) (hs : a.eval s = .slice (some ad) m cs) (hg : w.heap[g]? = some (.cells (arr .u8 cur) t (0, 0))) (hsrc : Src w (some ad) m xs) (hfit : off + m ≤ cur.length)
    (h : ∀ w', w'.heap[g]? = some (.cells (arr .u8 (cur.take off ++ xs ++ cur.drop (off + m))) t (0, 0)) → Kept (fun x => x = g) w w' → K (a.put o.dst (.int .i64 (m : Int))) w') :
    if Region.wanted o (yielded ops a.tmps) = true then Oper.wp Tryd.prog o a w K Q else E := by
  have hw : Region.wanted o (yielded ops a.tmps) = true := by simp [Region.wanted, hgd]
  rw [if_pos hw]
  have hl := hsrc.len
  have hrun := run_copy_row (P := Tryd.prog) w 33 33 o.type 5 g off m c ad m cs (arr .u8 cur) t (xs.map (Value.int .u8)) Tryd.underlying33 (by kernel_rfl) hg (by simp [hl]) (src_news hsrc _ rfl) (by rw [List.length_map, hl, arr_size]; exact hfit) (one_ints _ _)
  unfold Oper.wp execOp
  simp only [ho, resolve, invoke, builtin, Sem.run_bind, Sem.run_pure, Result.andThen_ok, List.map_toArray, List.map_cons, List.map_nil, hd, hs, hrun]
  have e : ((arr .u8 cur).toList.take off ++ xs.map (Value.int .u8) ++ (arr .u8 cur).toList.drop (off + (xs.map (Value.int .u8)).length)).toArray = arr .u8 (cur.take off ++ xs ++ cur.drop (off + m)) := by
    show ((cur.map (Value.int .u8)).take off ++ xs.map (Value.int .u8) ++ (cur.map (Value.int .u8)).drop (off + (xs.map (Value.int .u8)).length)).toArray = ((cur.take off ++ xs ++ cur.drop (off + m)).map (Value.int .u8)).toArray
    rw [List.length_map, hl, List.map_append, List.map_append, List.map_take, List.map_drop]
  rw [e, List.length_map, hl]
  exact h _ (setRow_heap w g _ _ t _ hg) ⟨rfl, rfl, rfl, by simp [World.setRow], fun k _ hne => setRow_other w g k _ hne⟩
theorem src_three {w : World} {g : Nat} {t : TypeId} {fr : Nat × Nat} {s1 s2 s3 : Option Addr} {n1 n2 n3 c1 c2 c3 : Nat} {x1 x2 x3 : List Int} (h : w.heap[g]? = some (.cells #[.slice s1 n1 c1, .slice s2 n2 c2, .slice s3 n3 c3] t fr))
    (h1 : Src w s1 n1 x1) (h2 : Src w s2 n2 x2) (h3 : Src w s3 n3 x3) (l1 : n1 ≤ c1) (l2 : n2 ≤ c2) (l3 : n3 ≤ c3) : SrcL w (some ⟨g, 0, none⟩) 3 [x1, x2, x3] := by
  have e1 := h1.len
  have e2 := h2.len
  have e3 := h3.len
  subst e1 e2 e3
  refine ⟨rfl, fun i hi => ?_⟩
  match i, hi with
  | 0, _ => exact ⟨_, s1, c1, rfl, by rw [show (⟨g, 0, none⟩ : Addr).add 0 = ⟨g, 0, none⟩ from rfl, cell_blk h]; rfl, l1, h1⟩
  | 1, _ => exact ⟨_, s2, c2, rfl, by rw [show (⟨g, 0, none⟩ : Addr).add 1 = ⟨g, 1, none⟩ from rfl, cell_blk h]; rfl, l2, h2⟩
  | 2, _ => exact ⟨_, s3, c3, rfl, by rw [show (⟨g, 0, none⟩ : Addr).add 2 = ⟨g, 2, none⟩ from rfl, cell_blk h]; rfl, l3, h3⟩
theorem copied {cur xs : List Int} {n : Nat} (h1 : cur.length = n) (h2 : xs.length = n) : cur.take 0 ++ xs ++ cur.drop (0 + n) = xs := by
  rw [List.take_zero, List.nil_append, Nat.zero_add, List.drop_of_length_le (by omega), List.append_nil]
end Go.Proofs.YtanjhngehfbpbaaDoor.Rd
namespace Go.Proofs.YtanjhngehfbpbaaDoor.Rd
open Go.RowKit Lm Fp Cu Sc
set_option linter.unusedSimpArgs false

theorem tabk_below {a b : World} (h : Hb.TabK a) (k : Below a.heap.size a b) : Hb.TabK b := fun t ht => (Kept.of_below k (T := fun _ => False)).cellX (h t ht) id
theorem h512 : (2 : Nat) ^ 512 = 256 ^ 64 := by
  have := Nat.pow_mul 2 8 64
  rw [show 8 * 64 = 512 from rfl, show (2 : Nat) ^ 8 = 256 from rfl] at this
  exact this
theorem own_src {w : World} {B : Nat} {v : Value} {xs : List Int} (h : Own8 w B v xs) : ∃ s c, v = .slice s xs.length c ∧ Src w s xs.length xs := by
  obtain ⟨s, c, rfl, _, _, hs, _⟩ := h.form
  exact ⟨s, c, rfl, hs⟩

set_option maxRecDepth 100000 in
set_option maxHeartbeats 4000000 in
theorem wide_any (sa : Option Addr) (n c : Nat) (L : List (List Int)) (w : World) (hs : SrcL w sa n L) (hb : ∀ l ∈ L, bytes l) (hN : L.flatten.length ≤ 1099511627776) (hn : n ≤ 1099511627776) (hk : Hb.TabK w) (hT : TabQ w) :
    Calls Tryd.prog 38 #[.slice sa n c] w fun e w' => e = .returned (.agg (arr .u8 (n32 (wide L.flatten)))) ∧ Below w.heap.size w w' := by
  have hbf : bytes L.flatten := by intro x hx; obtain ⟨l, hl, hx⟩ := List.mem_flatten.1 hx; exact hb l hl x hx
  have hj : ∀ (u : World), SrcL u sa n L → Calls Tryd.prog 16 #[.slice sa n c] u fun e w' => ∃ s cc, e = .returned (.slice s L.flatten.length cc) ∧ Src w' s L.flatten.length L.flatten ∧ Below u.heap.size u w' := by
    intro u h
    refine (join_any sa n c L u h hN hn).mono ?_
    rintro e w' ⟨v, rfl, h1, h2⟩
    obtain ⟨s, cc, rfl, h3⟩ := own_src h1
    exact ⟨s, cc, rfl, h3, h2⟩
  have hsh := fun (u : World) (s : Option Addr) (c : Nat) (h : Src u s L.flatten.length L.flatten) (hk : Hb.TabK u) => Hb.ref_any s L.flatten.length c L.flatten u h hbf (by omega) hk
  have hh := hash_bytes' L.flatten
  have hl := Hb.hash_len L.flatten
  have hwd : wide L.flatten = hnum (Hb.hash L.flatten) % q := rfl
  rw [hwd]
  obtain ⟨hs', hhs⟩ : ∃ h, h = Hb.hash L.flatten := ⟨_, rfl⟩
  rw [← hhs] at hsh hh hl ⊢
  have hd := dig_hnum hh
  rw [hl] at hd
  have hV := hnum_lt hh
  rw [hl] at hV
  obtain ⟨V, hVe⟩ : ∃ v, v = hnum hs' := ⟨_, rfl⟩
  rw [← hVe] at hd hV ⊢
  generalize hLL : L.flatten.length = m at hj hsh
  have HRED : Hid (∀ (sa : Option Addr) (u : World), Src u sa 64 hs' → TabQ u → Calls Tryd.prog 80 #[.slice sa 64 64] u fun e w' => e = .returned (.agg (arr .u8 (n32 (V % q)))) ∧ Below u.heap.size u w') := Lib.hid (fun sa u h hT => reduce_any sa 64 V u (by rw [hd]; exact h) (by rw [h512]; exact hV) hT)
  obtain ⟨ro, hro⟩ : ∃ r, r = n32 (V % q) := ⟨_, rfl⟩
  rw [← hro] at HRED ⊢
  have HRL : Hid (ro.length = 32) := Lib.hid (by rw [hro]; exact n32_len _)
  have HJ := Lib.hid hj
  have HSH := Lib.hid hsh
  have HSL := Lib.hid hl
  have HS := Lib.hid hs
  have HK := Lib.hid hk
  have HT := Lib.hid hT
  obtain ⟨zn, hzn⟩ : ∃ zs : List Int, zs = List.replicate 32 0 := ⟨_, rfl⟩
  have HZzn : Hid (∀ w, (zeroValue 23).run Tryd.prog w = .ok (.agg (arr .u8 zn)) w) := Lib.hid (by intro w; rw [hzn]; exact zero_num w)
  have HLzn : Hid (zn.length = 32) := Lib.hid (by rw [hzn]; rfl)
  obtain ⟨zs64, hzs64⟩ : ∃ zs : List Int, zs = List.replicate 64 0 := ⟨_, rfl⟩
  have HZzs64 : Hid (∀ w, (zeroValue 30).run Tryd.prog w = .ok (.agg (arr .u8 zs64)) w) := Lib.hid (by intro w; rw [hzs64]; exact Sl.zero_sig w)
  have HLzs64 : Hid (zs64.length = 64) := Lib.hid (by rw [hzs64]; rfl)
  have HS0 := Lib.hid (Blk.one w (arr .u8 zn) 23)
  clear hLL hzn hzs64 hs hb hbf hj hsh hh hl hwd hhs hd hV hVe hro hk hT hN hn
  go_enter Tryd.func38, Tryd.ntmps38
  go_upto_region 1 with (first | ((with_reducible refine aS 2 ?_); refine wpList_alloc_row rfl 23 rfl _ (HZzn.out _) ?_))
  (try simp only [World.size_alloc, Act.put, sA, sZ, sS])
  generalize (w.alloc (.cells (arr .u8 zn) 23)) = wb at HS0 ⊢
  go_upto_region 2 with (first | ((with_reducible show Calls _ 16 _ _ _); go_at_call 16; refine (HJ.out _ (HS.out.below HS0.out.below)).mono ?_; rintro e w1 ⟨sj, cj, rfl, h1, hb1⟩; have HSJ := Lib.hid h1; have HB1 := Lib.hid (HS0.out.kept hb1); clear h1 hb1) | ((with_reducible show Calls _ 64 _ _ _); go_at_call 64; refine (HSH.out _ _ _ HSJ.out (tabk_below HK.out HB1.out.below)).mono ?_; rintro e w2 ⟨rfl, hb2⟩; have HB2 := Lib.hid (HB1.out.kept hb2); clear hb2) | ((with_reducible refine aS 3 ?_); refine wpList_alloc_row rfl 30 rfl _ (HZzs64.out _) ?_; have HB3 := Lib.hid (HB2.out.alloc (arr .u8 zs64) 30); generalize w2.heap.size = g5 at HB3 ⊢; generalize w2.alloc (.cells (arr .u8 zs64) 30) = w3 at HB3 ⊢) | ((with_reducible refine aT 3 ?_); refine wpList_store_whole rfl 30 _ _ rfl (g5) _ _ 30 (HB3.out.get 1 rfl) rfl rfl (arr_len2 _ _ HSL.out HLzs64.out) (Sl.sig_s HSL.out) (all_arr _ _) ?_; intro w4 hb4 hk4 hz4; have HB4 := Lib.hid (HB3.out.put 1 rfl hk4 hb4); clear hb4 hk4 hz4))
  (try simp only [World.size_alloc, Act.put, sA, sZ, sS])
  go_wp2_with (first | ((with_reducible show Calls _ 80 _ _ _); go_at_call 80; refine (HRED.out _ _ (Sl.src_all (HB4.out.get 1 rfl) 64 HSL.out) (HT.out.below HB4.out.below)).mono ?_; rintro e w5 ⟨rfl, hb5⟩; have HB5 := Lib.hid (HB4.out.kept hb5); clear hb5) | ((with_reducible refine aT 2 ?_); refine wpList_store_whole rfl 23 _ _ rfl (w.heap.size) _ _ 23 (HB5.out.get 0 rfl) rfl rfl (arr_len2 _ _ HRL.out HLzn.out) (num_s HRL.out) (all_arr _ _) ?_; intro w6 hb6 hk6 hz6; have HB6 := Lib.hid (HB5.out.put 0 rfl hk6 hb6); clear hb6 hk6 hz6))
  (try simp only [Exit.then])
  refine bodyPost_ret (results_cell_row rfl _ _ (w.heap.size) 23 _ (0, 0) _ rfl (HB6.out.get 0 rfl) Tryd.underlying23 rfl (num_s HRL.out)) rfl ?_
  exact ⟨rfl, HB6.out.below⟩
end Go.Proofs.YtanjhngehfbpbaaDoor.Rd
