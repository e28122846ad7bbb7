/- bank.has: what it answers and what it makes of the bank. Condition: flash, counter and bank lie there whole; the flash is on and has 64 sectors. bank.begin, Open: what they answer and what they make of the flash, the counter and the bank. Condition: flash and counter lie there whole; the flash is on and has 64 sectors. bank.begin in one; bank.Open: what it answers and what it makes of the flash and the counter. Condition: they lie there whole, in blocks of their own; 64 sectors. A calm flash behind a save: the record is read again, the other half is as it was. No program here; no condition. A bank on a flash whose power is on and for which nothing is planned: what a save and an opening leave is read again. No program here; no condition. A bank on a calm flash: Open and Save in one; the document's example (alive of portcullislaw21). No condition. -/
import Derived.Test.YtoljnogpegemjaaDoorB1
import Derived.Test.YtoljnogpegemjaaDoorPak
namespace Go.Proofs.YtoljnogpegemjaaDoor.Bk
open Go.RowKit Wr Sl Sm
set_option linter.unusedSimpArgs false
set_option linter.unusedVariables false

/-- The bytes of a half; does it hold a record of a number? Which half does? -/
def bb (f : Fl) (k : Nat) : List Int := f.read (8192 * k : Nat) 4148
def isN (s : List Int) (f : Fl) (k : Nat) (n : Int) : Bool := hok s (bb f k) && decide (hn (bb f k) = n)
def fnd (s : List Int) (f : Fl) (n : Int) : Option Nat := if isN s f 0 n then some 0 else if isN s f 1 n then some 1 else none
def fx (s : List Int) (f : Fl) (n : Int) (x : List Int) : List Int := match fnd s f n with | some k => hx (bb f k) | none => x
def fh (s : List Int) (f : Fl) (n : Int) (hf : Int) : Int := match fnd s f n with | some k => (k : Int) | none => hf
theorem hx_len {s b : List Int} (h : hok s b = true) : (hx b).length ≤ 4096 := by
  unfold hok at h
  rw [Bool.and_eq_true, hin_iff] at h
  unfold hx
  rw [List.length_take]
  omega
theorem hx_bytes {b : List Int} (h : bytes b) : bytes (hx b) := fun y hy => h y (List.mem_of_mem_drop (List.mem_of_mem_take hy))

set_option maxRecDepth 100000 in
set_option maxHeartbeats 4000000 in
theorem has_any (p g o q : Nat) (r s : List Int) (f : Fl) (c m : Nat) (x : List Int) (hf0 : Int) (dd : Bool) (num : Int) (w : World) (h : Sys w p g o q r s f c m x hf0 dd) (ha : Apart p g o q) (hsb : bytes s) (hd : f.dead = false) (hl : 16384 ≤ f.b.length) :
    Calls Tryd.prog 112 #[.pointer (some ⟨q, 0, none⟩), .int .i64 num] w fun e w' => e = .returned (.bool (fnd s f num).isSome) ∧ Sys w' p g o q r s f c m (fx s f num x) (fh s f num hf0) dd ∧ Kept (fun i => i = p ∨ i = g ∨ i = o ∨ i = q) w w' := by
  have hsl := h.ot.2.2
  have hby := fun k => read_bytes h.fl.ok ((8192 * k : Nat) : Int) 4148
  have hha := fun (k : Nat) (hk : k < 2) (u : World) (hu : IsFl u p g f) => half_on p g f s k u hu hd hl hk hsl hsb
  have H := Lib.hid h
  have HA := Lib.hid ha
  have HHA := Lib.hid hha
  have HBY := Lib.hid hby
  clear h ha hha hby hd hl hsb hsl
  go_enter Tryd.func112, Tryd.ntmps112
  go_wp2_with fail
  go_loopw [9] (fun v wr => ∃ k : Nat, k ≤ 2 ∧ v = .int .i64 (k : Int) ∧ (∀ j, j < k → isN s f j num = false) ∧ Sys wr p g o q r s f c m x hf0 dd ∧ Below w.heap.size w wr) (fun v _ => 2 - (intOf v).toNat)
  case atStart => exact ⟨0, by omega, rfl, fun j hj => absurd hj (Nat.not_lt_zero _), H.out, Below.refl _ _⟩
  case round =>
    obtain ⟨k, hk, rfl, hno, hs, hb⟩ := hrel
    by_cases hlt : k < 2
    · have hha := HHA.out k hlt
      have HS := Lib.hid (hs.drewN 1)
      have HB := Lib.hid (Below.drewN hb 1)
      have HNO := Lib.hid hno
      obtain ⟨q0, q1, q3, q4⟩ := (hs.drewN 1).cs
      have hbk := HBY.out k
      have hNk : isN s f k num = (hok s (bb f k) && decide (hn (bb f k) = num)) := rfl
      have hxl : hok s (bb f k) = true → (hx (bb f k)).length ≤ 4096 := hx_len
      have hxb : bytes (hx (bb f k)) := hx_bytes hbk
      rw [show f.read ((8192 * k : Nat) : Int) 4148 = bb f k from rfl] at hha
      clear hs hb hno hbk
      have hfin : isN s f k num = true → fnd s f num = some k := by
        intro e
        unfold fnd
        rcases (by omega : k = 0 ∨ k = 1) with rfl | rfl
        · rw [if_pos e]
        · rw [if_neg (by rw [HNO.out 0 (by omega)]; simp), if_pos e]
      have HFIN := Lib.hid hfin
      have HNK := Lib.hid hNk
      generalize hX : hx (bb f k) = X at hha hxl hxb
      generalize hok s (bb f k) = ok at hha hxl HNK
      generalize hn (bb f k) = nn at hha HNK
      have HX := Lib.hid hX
      have HXL := Lib.hid hxl
      have HXB := Lib.hid hxb
      clear hfin hNk hX hxl hxb
      cases ok with
      | false =>
        have HH := Lib.hid hha
        clear hha
        go_upto_region 4 with fail
        refine wp_region_held_drew (S := (fun w' => w'.cell? ⟨q, 0, none⟩ = some (.pointer (some ⟨p, 0, none⟩)) ∧ w'.cell? ⟨q, 1, none⟩ = some (.pointer (some ⟨o, 0, none⟩)))) (by kernel_rfl) (⟨q0, q1⟩) (fun hHeld => ?_)
        refine wpAnyH_take (i := 0) (oi := (⟨some 13, _, _, _, _, none⟩ : Oper)) (v := .pointer (some ⟨q, 0, none⟩)) rfl (by kernel_rfl) (by kernel_rfl) (by kernel_rfl) (fun _ _ _ h => h) (Or.inl ⟨by rfl, ?hy101⟩) (by assumption) ?rest101
        case hy101 => (intro u hSu; (try dsimp only at hSu); go_simp; try (with_reducible rfl))
        (try simp only [Act.put, List.setIfInBounds_toArray, List.set_cons_zero, List.set_cons_succ])
        refine wpAnyH_take (i := 1) (oi := (⟨some 14, _, _, _, _, none⟩ : Oper)) (v := .pointer (some ⟨q, 0, none⟩)) rfl (by kernel_rfl) (by kernel_rfl) (by kernel_rfl) (fun _ _ _ h => h) (Or.inl ⟨by rfl, ?hy102⟩) (by assumption) ?rest102
        case hy102 => (intro u hSu; (try dsimp only at hSu); go_simp; try (with_reducible rfl))
        (try simp only [Act.put, List.setIfInBounds_toArray, List.set_cons_zero, List.set_cons_succ])
        refine wpAnyH_take (i := 2) (oi := (⟨some 15, _, _, _, _, none⟩ : Oper)) (v := .pointer (some ⟨q, 0, none⟩)) rfl (by kernel_rfl) (by kernel_rfl) (by kernel_rfl) (fun _ _ _ h => h) (Or.inl ⟨by rfl, ?hy103⟩) (by assumption) ?rest103
        case hy103 => (intro u hSu; (try dsimp only at hSu); go_simp; try (with_reducible rfl))
        (try simp only [Act.put, List.setIfInBounds_toArray, List.set_cons_zero, List.set_cons_succ])
        refine wpAnyH_take (i := 3) (oi := (⟨some 16, _, _, _, _, none⟩ : Oper)) (v := .pointer (some ⟨p, 0, none⟩)) rfl (by kernel_rfl) (by kernel_rfl) (by kernel_rfl) (fun _ _ _ h => h) (Or.inl ⟨by rfl, ?hy104⟩) (by assumption) ?rest104
        case hy104 => (intro u hSu; (try dsimp only at hSu); obtain ⟨s0, s1⟩ := hSu; go_simp; try (with_reducible rfl))
        (try simp only [Act.put, List.setIfInBounds_toArray, List.set_cons_zero, List.set_cons_succ])
        refine wpAnyH_take (i := 4) (oi := (⟨some 17, _, _, _, _, none⟩ : Oper)) (v := .pointer (some ⟨q, 0, none⟩)) rfl (by kernel_rfl) (by kernel_rfl) (by kernel_rfl) (fun _ _ _ h => h) (Or.inl ⟨by rfl, ?hy105⟩) (by assumption) ?rest105
        case hy105 => (intro u hSu; (try dsimp only at hSu); go_simp; try (with_reducible rfl))
        (try simp only [Act.put, List.setIfInBounds_toArray, List.set_cons_zero, List.set_cons_succ])
        refine wpAnyH_take (i := 5) (oi := (⟨some 18, _, _, _, _, none⟩ : Oper)) (v := .pointer (some ⟨q, 0, none⟩)) rfl (by kernel_rfl) (by kernel_rfl) (by kernel_rfl) (fun _ _ _ h => h) (Or.inl ⟨by rfl, ?hy106⟩) (by assumption) ?rest106
        case hy106 => (intro u hSu; (try dsimp only at hSu); go_simp; try (with_reducible rfl))
        (try simp only [Act.put, List.setIfInBounds_toArray, List.set_cons_zero, List.set_cons_succ])
        refine wpAnyH_take (i := 6) (oi := (⟨some 19, _, _, _, _, none⟩ : Oper)) (v := .pointer (some ⟨q, 1, none⟩)) rfl (by kernel_rfl) (by kernel_rfl) (by kernel_rfl) (fun _ _ _ h => h) (Or.inl ⟨by rfl, ?hy107⟩) (by assumption) ?rest107
        case hy107 => (intro u hSu; (try dsimp only at hSu); go_simp; try (with_reducible rfl))
        (try simp only [Act.put, List.setIfInBounds_toArray, List.set_cons_zero, List.set_cons_succ])
        refine wpAnyH_take (i := 7) (oi := (⟨some 20, _, _, _, _, none⟩ : Oper)) (v := .pointer (some ⟨o, 0, none⟩)) rfl (by kernel_rfl) (by kernel_rfl) (by kernel_rfl) (fun _ _ _ h => h) (Or.inl ⟨by rfl, ?hy108⟩) (by assumption) ?rest108
        case hy108 => (intro u hSu; (try dsimp only at hSu); obtain ⟨s0, s1⟩ := hSu; go_simp; try (with_reducible rfl))
        (try simp only [Act.put, List.setIfInBounds_toArray, List.set_cons_zero, List.set_cons_succ])
        refine wpAnyH_take (i := 9) (oi := (⟨some 22, _, _, _, _, none⟩ : Oper)) (v := .int .i64 (k : Int)) rfl (by kernel_rfl) (by kernel_rfl) (by kernel_rfl) (fun _ _ _ h => h) (Or.inl ⟨by rfl, ?hy109⟩) (by assumption) ?rest109
        case hy109 => (intro u hSu; (try dsimp only at hSu); go_simp; try (with_reducible rfl))
        (try simp only [Act.put, List.setIfInBounds_toArray, List.set_cons_zero, List.set_cons_succ])
        refine wpAnyH_ready (rs := [8]) (by kernel_rfl) (by simp) ?_
        refine AllReadyH.cons (o := (⟨some 21, _, _, _, _, none⟩ : Oper)) rfl (fun K hK => ?_) AllReadyH.nil
        go_simp
        go_at_call 114
        refine (osecret_any o _ r s c m _ HS.out.ot).mono ?_
        rintro e w2 ⟨rfl, hb2⟩
        have HS2 := Lib.hid (HS.out.below hb2)
        have HB2 := Lib.hid (HB.out.trans (hb2.mono HB.out.size))
        clear hb2
        (try dsimp only)
        refine hK.out _ _ (⟨HS2.out.cs.1, HS2.out.cs.2.1⟩) (fun hHeld => ?_)
        clear hK K
        (try simp only [Act.put, List.setIfInBounds_toArray, List.set_cons_zero, List.set_cons_succ])
        refine wpAnyH_ready (rs := [10]) (by kernel_rfl) (by simp) ?_
        refine AllReadyH.cons (o := (⟨some 23, _, _, _, _, none⟩ : Oper)) rfl (fun K hK => ?_) AllReadyH.nil
        go_simp
        go_at_call 24
        refine (HH.out _ HS2.out.fl).mono ?_
        rintro e w3 ⟨⟨v3, rfl, hv3⟩, hb3⟩
        have HS3 := Lib.hid (HS2.out.below hb3)
        have HL2 := Lib.hid HS2.out.lt
        have HB3 := Lib.hid (HB2.out.trans (hb3.mono HB2.out.size))
        have HV3 : Hid (Own8 w3 w2.heap.size v3 []) := Lib.hid hv3
        clear hb3 hv3
        (try dsimp only)
        refine hK.out _ _ (⟨HS3.out.cs.1, HS3.out.cs.2.1⟩) (fun hHeld => ?_)
        clear hK K
        (try simp only [Act.put, List.setIfInBounds_toArray, List.set_cons_zero, List.set_cons_succ])
        refine wpAnyH_take (i := 11) (oi := (⟨some 12, _, _, _, _, none⟩ : Oper)) (v := .tuple #[.int .i64 0, v3, .bool false]) rfl (by kernel_rfl) (by kernel_rfl) (by kernel_rfl) (fun _ _ _ h => h) (Or.inl ⟨by rfl, ?hy110⟩) (by assumption) ?rest110
        case hy110 => (intro u hSu; (try dsimp only at hSu); go_simp; try (with_reducible rfl))
        (try simp only [Act.put, List.setIfInBounds_toArray, List.set_cons_zero, List.set_cons_succ])
        refine wpAnyH_take (i := 12) (oi := (⟨some 24, _, _, _, _, none⟩ : Oper)) (v := .int .i64 0) rfl (by kernel_rfl) (by kernel_rfl) (by kernel_rfl) (fun _ _ _ h => h) (Or.inl ⟨by rfl, ?hy111⟩) (by assumption) ?rest111
        case hy111 => (intro u hSu; (try dsimp only at hSu); go_simp; try (with_reducible rfl))
        (try simp only [Act.put, List.setIfInBounds_toArray, List.set_cons_zero, List.set_cons_succ])
        refine wpAnyH_take (i := 13) (oi := (⟨some 25, _, _, _, _, none⟩ : Oper)) (v := v3) rfl (by kernel_rfl) (by kernel_rfl) (by kernel_rfl) (fun _ _ _ h => h) (Or.inl ⟨by rfl, ?hy112⟩) (by assumption) ?rest112
        case hy112 => (intro u hSu; (try dsimp only at hSu); go_simp; try (with_reducible rfl))
        (try simp only [Act.put, List.setIfInBounds_toArray, List.set_cons_zero, List.set_cons_succ])
        refine wpAnyH_take (i := 14) (oi := (⟨some 26, _, _, _, _, none⟩ : Oper)) (v := .bool false) rfl (by kernel_rfl) (by kernel_rfl) (by kernel_rfl) (fun _ _ _ h => h) (Or.inl ⟨by rfl, ?hy113⟩) (by assumption) ?rest113
        case hy113 => (intro u hSu; (try dsimp only at hSu); go_simp; try (with_reducible rfl))
        (try simp only [Act.put, List.setIfInBounds_toArray, List.set_cons_zero, List.set_cons_succ])
        refine wpAnyH_take (i := 15) (oi := (⟨some 6, _, _, _, _, none⟩ : Oper)) (v := .int .i64 0) rfl (by kernel_rfl) (by kernel_rfl) (by kernel_rfl) (fun _ _ _ h => h) (Or.inl ⟨by rfl, ?hy114⟩) (by assumption) ?rest114
        case hy114 => (intro u hSu; (try dsimp only at hSu); go_simp; try (with_reducible rfl))
        (try simp only [Act.put, List.setIfInBounds_toArray, List.set_cons_zero, List.set_cons_succ])
        refine wpAnyH_take (i := 16) (oi := (⟨some 7, _, _, _, _, none⟩ : Oper)) (v := v3) rfl (by kernel_rfl) (by kernel_rfl) (by kernel_rfl) (fun _ _ _ h => h) (Or.inl ⟨by rfl, ?hy115⟩) (by assumption) ?rest115
        case hy115 => (intro u hSu; (try dsimp only at hSu); go_simp; try (with_reducible rfl))
        (try simp only [Act.put, List.setIfInBounds_toArray, List.set_cons_zero, List.set_cons_succ])
        refine wpAnyH_take (i := 17) (oi := (⟨some 8, _, _, _, _, none⟩ : Oper)) (v := .bool false) rfl (by kernel_rfl) (by kernel_rfl) (by kernel_rfl) (fun _ _ _ h => h) (Or.inl ⟨by rfl, ?hy116⟩) (by assumption) ?rest116
        case hy116 => (intro u hSu; (try dsimp only at hSu); go_simp; try (with_reducible rfl))
        (try simp only [Act.put, List.setIfInBounds_toArray, List.set_cons_zero, List.set_cons_succ])
        refine wpAnyH_done (by kernel_rfl) ?_ _
        (try simp only [Exit.then])
        clear hHeld q0 q1 q3 q4
        go_wp2_with fail
        go_roundw
        case rel => exact ⟨k + 1, by omega, by go_num, fun j hj => by
          rcases Nat.lt_or_ge j k with h | h
          · exact HNO.out j h
          · obtain rfl : j = k := by omega
            rw [HNK.out]; rfl, HS3.out, HB3.out⟩
        case measure => simp [intOf]; omega
      | true =>
        by_cases hnum : nn = num
        · have HH := Lib.hid hha
          clear hha
          have HN1 : Hid (isN s f k num = true) := Lib.hid (by rw [HNK.out, decide_eq_true hnum]; rfl)
          subst hnum
          go_upto_region 4 with fail
          refine wp_region_held_drew (S := (fun w' => w'.cell? ⟨q, 0, none⟩ = some (.pointer (some ⟨p, 0, none⟩)) ∧ w'.cell? ⟨q, 1, none⟩ = some (.pointer (some ⟨o, 0, none⟩)))) (by kernel_rfl) (⟨q0, q1⟩) (fun hHeld => ?_)
          refine wpAnyH_take (i := 0) (oi := (⟨some 13, _, _, _, _, none⟩ : Oper)) (v := .pointer (some ⟨q, 0, none⟩)) rfl (by kernel_rfl) (by kernel_rfl) (by kernel_rfl) (fun _ _ _ h => h) (Or.inl ⟨by rfl, ?hy117⟩) (by assumption) ?rest117
          case hy117 => (intro u hSu; (try dsimp only at hSu); go_simp; try (with_reducible rfl))
          (try simp only [Act.put, List.setIfInBounds_toArray, List.set_cons_zero, List.set_cons_succ])
          refine wpAnyH_take (i := 1) (oi := (⟨some 14, _, _, _, _, none⟩ : Oper)) (v := .pointer (some ⟨q, 0, none⟩)) rfl (by kernel_rfl) (by kernel_rfl) (by kernel_rfl) (fun _ _ _ h => h) (Or.inl ⟨by rfl, ?hy118⟩) (by assumption) ?rest118
          case hy118 => (intro u hSu; (try dsimp only at hSu); go_simp; try (with_reducible rfl))
          (try simp only [Act.put, List.setIfInBounds_toArray, List.set_cons_zero, List.set_cons_succ])
          refine wpAnyH_take (i := 2) (oi := (⟨some 15, _, _, _, _, none⟩ : Oper)) (v := .pointer (some ⟨q, 0, none⟩)) rfl (by kernel_rfl) (by kernel_rfl) (by kernel_rfl) (fun _ _ _ h => h) (Or.inl ⟨by rfl, ?hy119⟩) (by assumption) ?rest119
          case hy119 => (intro u hSu; (try dsimp only at hSu); go_simp; try (with_reducible rfl))
          (try simp only [Act.put, List.setIfInBounds_toArray, List.set_cons_zero, List.set_cons_succ])
          refine wpAnyH_take (i := 3) (oi := (⟨some 16, _, _, _, _, none⟩ : Oper)) (v := .pointer (some ⟨p, 0, none⟩)) rfl (by kernel_rfl) (by kernel_rfl) (by kernel_rfl) (fun _ _ _ h => h) (Or.inl ⟨by rfl, ?hy120⟩) (by assumption) ?rest120
          case hy120 => (intro u hSu; (try dsimp only at hSu); obtain ⟨s0, s1⟩ := hSu; go_simp; try (with_reducible rfl))
          (try simp only [Act.put, List.setIfInBounds_toArray, List.set_cons_zero, List.set_cons_succ])
          refine wpAnyH_take (i := 4) (oi := (⟨some 17, _, _, _, _, none⟩ : Oper)) (v := .pointer (some ⟨q, 0, none⟩)) rfl (by kernel_rfl) (by kernel_rfl) (by kernel_rfl) (fun _ _ _ h => h) (Or.inl ⟨by rfl, ?hy121⟩) (by assumption) ?rest121
          case hy121 => (intro u hSu; (try dsimp only at hSu); go_simp; try (with_reducible rfl))
          (try simp only [Act.put, List.setIfInBounds_toArray, List.set_cons_zero, List.set_cons_succ])
          refine wpAnyH_take (i := 5) (oi := (⟨some 18, _, _, _, _, none⟩ : Oper)) (v := .pointer (some ⟨q, 0, none⟩)) rfl (by kernel_rfl) (by kernel_rfl) (by kernel_rfl) (fun _ _ _ h => h) (Or.inl ⟨by rfl, ?hy122⟩) (by assumption) ?rest122
          case hy122 => (intro u hSu; (try dsimp only at hSu); go_simp; try (with_reducible rfl))
          (try simp only [Act.put, List.setIfInBounds_toArray, List.set_cons_zero, List.set_cons_succ])
          refine wpAnyH_take (i := 6) (oi := (⟨some 19, _, _, _, _, none⟩ : Oper)) (v := .pointer (some ⟨q, 1, none⟩)) rfl (by kernel_rfl) (by kernel_rfl) (by kernel_rfl) (fun _ _ _ h => h) (Or.inl ⟨by rfl, ?hy123⟩) (by assumption) ?rest123
          case hy123 => (intro u hSu; (try dsimp only at hSu); go_simp; try (with_reducible rfl))
          (try simp only [Act.put, List.setIfInBounds_toArray, List.set_cons_zero, List.set_cons_succ])
          refine wpAnyH_take (i := 7) (oi := (⟨some 20, _, _, _, _, none⟩ : Oper)) (v := .pointer (some ⟨o, 0, none⟩)) rfl (by kernel_rfl) (by kernel_rfl) (by kernel_rfl) (fun _ _ _ h => h) (Or.inl ⟨by rfl, ?hy124⟩) (by assumption) ?rest124
          case hy124 => (intro u hSu; (try dsimp only at hSu); obtain ⟨s0, s1⟩ := hSu; go_simp; try (with_reducible rfl))
          (try simp only [Act.put, List.setIfInBounds_toArray, List.set_cons_zero, List.set_cons_succ])
          refine wpAnyH_take (i := 9) (oi := (⟨some 22, _, _, _, _, none⟩ : Oper)) (v := .int .i64 (k : Int)) rfl (by kernel_rfl) (by kernel_rfl) (by kernel_rfl) (fun _ _ _ h => h) (Or.inl ⟨by rfl, ?hy125⟩) (by assumption) ?rest125
          case hy125 => (intro u hSu; (try dsimp only at hSu); go_simp; try (with_reducible rfl))
          (try simp only [Act.put, List.setIfInBounds_toArray, List.set_cons_zero, List.set_cons_succ])
          refine wpAnyH_ready (rs := [8]) (by kernel_rfl) (by simp) ?_
          refine AllReadyH.cons (o := (⟨some 21, _, _, _, _, none⟩ : Oper)) rfl (fun K hK => ?_) AllReadyH.nil
          go_simp
          go_at_call 114
          refine (osecret_any o _ r s c m _ HS.out.ot).mono ?_
          rintro e w2 ⟨rfl, hb2⟩
          have HS2 := Lib.hid (HS.out.below hb2)
          have HB2 := Lib.hid (HB.out.trans (hb2.mono HB.out.size))
          clear hb2
          (try dsimp only)
          refine hK.out _ _ (⟨HS2.out.cs.1, HS2.out.cs.2.1⟩) (fun hHeld => ?_)
          clear hK K
          (try simp only [Act.put, List.setIfInBounds_toArray, List.set_cons_zero, List.set_cons_succ])
          refine wpAnyH_ready (rs := [10]) (by kernel_rfl) (by simp) ?_
          refine AllReadyH.cons (o := (⟨some 23, _, _, _, _, none⟩ : Oper)) rfl (fun K hK => ?_) AllReadyH.nil
          go_simp
          go_at_call 24
          refine (HH.out _ HS2.out.fl).mono ?_
          rintro e w3 ⟨⟨v3, rfl, hv3⟩, hb3⟩
          have HS3 := Lib.hid (HS2.out.below hb3)
          have HL2 := Lib.hid HS2.out.lt
          have HB3 := Lib.hid (HB2.out.trans (hb3.mono HB2.out.size))
          have HV3 : Hid (Own8 w3 w2.heap.size v3 X) := Lib.hid hv3
          clear hb3 hv3
          (try dsimp only)
          refine hK.out _ _ (⟨HS3.out.cs.1, HS3.out.cs.2.1⟩) (fun hHeld => ?_)
          clear hK K
          (try simp only [Act.put, List.setIfInBounds_toArray, List.set_cons_zero, List.set_cons_succ])
          refine wpAnyH_take (i := 11) (oi := (⟨some 12, _, _, _, _, none⟩ : Oper)) (v := .tuple #[.int .i64 nn, v3, .bool true]) rfl (by kernel_rfl) (by kernel_rfl) (by kernel_rfl) (fun _ _ _ h => h) (Or.inl ⟨by rfl, ?hy126⟩) (by assumption) ?rest126
          case hy126 => (intro u hSu; (try dsimp only at hSu); go_simp; try (with_reducible rfl))
          (try simp only [Act.put, List.setIfInBounds_toArray, List.set_cons_zero, List.set_cons_succ])
          refine wpAnyH_take (i := 12) (oi := (⟨some 24, _, _, _, _, none⟩ : Oper)) (v := .int .i64 nn) rfl (by kernel_rfl) (by kernel_rfl) (by kernel_rfl) (fun _ _ _ h => h) (Or.inl ⟨by rfl, ?hy127⟩) (by assumption) ?rest127
          case hy127 => (intro u hSu; (try dsimp only at hSu); go_simp; try (with_reducible rfl))
          (try simp only [Act.put, List.setIfInBounds_toArray, List.set_cons_zero, List.set_cons_succ])
          refine wpAnyH_take (i := 13) (oi := (⟨some 25, _, _, _, _, none⟩ : Oper)) (v := v3) rfl (by kernel_rfl) (by kernel_rfl) (by kernel_rfl) (fun _ _ _ h => h) (Or.inl ⟨by rfl, ?hy128⟩) (by assumption) ?rest128
          case hy128 => (intro u hSu; (try dsimp only at hSu); go_simp; try (with_reducible rfl))
          (try simp only [Act.put, List.setIfInBounds_toArray, List.set_cons_zero, List.set_cons_succ])
          refine wpAnyH_take (i := 14) (oi := (⟨some 26, _, _, _, _, none⟩ : Oper)) (v := .bool true) rfl (by kernel_rfl) (by kernel_rfl) (by kernel_rfl) (fun _ _ _ h => h) (Or.inl ⟨by rfl, ?hy129⟩) (by assumption) ?rest129
          case hy129 => (intro u hSu; (try dsimp only at hSu); go_simp; try (with_reducible rfl))
          (try simp only [Act.put, List.setIfInBounds_toArray, List.set_cons_zero, List.set_cons_succ])
          refine wpAnyH_take (i := 15) (oi := (⟨some 6, _, _, _, _, none⟩ : Oper)) (v := .int .i64 nn) rfl (by kernel_rfl) (by kernel_rfl) (by kernel_rfl) (fun _ _ _ h => h) (Or.inl ⟨by rfl, ?hy130⟩) (by assumption) ?rest130
          case hy130 => (intro u hSu; (try dsimp only at hSu); go_simp; try (with_reducible rfl))
          (try simp only [Act.put, List.setIfInBounds_toArray, List.set_cons_zero, List.set_cons_succ])
          refine wpAnyH_take (i := 16) (oi := (⟨some 7, _, _, _, _, none⟩ : Oper)) (v := v3) rfl (by kernel_rfl) (by kernel_rfl) (by kernel_rfl) (fun _ _ _ h => h) (Or.inl ⟨by rfl, ?hy131⟩) (by assumption) ?rest131
          case hy131 => (intro u hSu; (try dsimp only at hSu); go_simp; try (with_reducible rfl))
          (try simp only [Act.put, List.setIfInBounds_toArray, List.set_cons_zero, List.set_cons_succ])
          refine wpAnyH_take (i := 17) (oi := (⟨some 8, _, _, _, _, none⟩ : Oper)) (v := .bool true) rfl (by kernel_rfl) (by kernel_rfl) (by kernel_rfl) (fun _ _ _ h => h) (Or.inl ⟨by rfl, ?hy132⟩) (by assumption) ?rest132
          case hy132 => (intro u hSu; (try dsimp only at hSu); go_simp; try (with_reducible rfl))
          (try simp only [Act.put, List.setIfInBounds_toArray, List.set_cons_zero, List.set_cons_succ])
          refine wpAnyH_done (by kernel_rfl) ?_ _
          (try simp only [Exit.then])
          clear hHeld q0 q1 q3 q4
          obtain ⟨sv, cv, e3, -⟩ := HV3.out.form
          subst e3
          obtain ⟨fin1, fin2⟩ := HS3.out.save HA.out HV3.out HL2.out HXB.out (HXL.out rfl) (k : Int)
          have FIN := Lib.hid (And.intro fin1 ((Kept.of_below HB3.out).trans (fin2.mono (fun x _ h => (.inr (.inr (.inr h)) : x = p ∨ x = g ∨ x = o ∨ x = q)))))
          obtain ⟨sa6, cc6, k2, -⟩ := HS3.out.c2
          obtain ⟨k0, k1, k3, k4⟩ := HS3.out.cs
          have k5 := HS3.out.fr 2
          have k6 := HS3.out.fr 3
          clear fin1 fin2
          go_wp2_with fail
          go_ret
          have hf := HFIN.out HN1.out
          refine ⟨by rw [hf]; rfl, ?_, FIN.out.2⟩
          have e1 : fx s f nn x = X := by unfold fx; rw [hf]; exact HX.out
          have e2 : fh s f nn hf0 = (k : Int) := by unfold fh; rw [hf]
          rw [e1, e2]
          exact FIN.out.1
        · have HH := Lib.hid hha
          clear hha
          go_upto_region 4 with fail
          refine wp_region_held_drew (S := (fun w' => w'.cell? ⟨q, 0, none⟩ = some (.pointer (some ⟨p, 0, none⟩)) ∧ w'.cell? ⟨q, 1, none⟩ = some (.pointer (some ⟨o, 0, none⟩)))) (by kernel_rfl) (⟨q0, q1⟩) (fun hHeld => ?_)
          refine wpAnyH_take (i := 0) (oi := (⟨some 13, _, _, _, _, none⟩ : Oper)) (v := .pointer (some ⟨q, 0, none⟩)) rfl (by kernel_rfl) (by kernel_rfl) (by kernel_rfl) (fun _ _ _ h => h) (Or.inl ⟨by rfl, ?hy133⟩) (by assumption) ?rest133
          case hy133 => (intro u hSu; (try dsimp only at hSu); go_simp; try (with_reducible rfl))
          (try simp only [Act.put, List.setIfInBounds_toArray, List.set_cons_zero, List.set_cons_succ])
          refine wpAnyH_take (i := 1) (oi := (⟨some 14, _, _, _, _, none⟩ : Oper)) (v := .pointer (some ⟨q, 0, none⟩)) rfl (by kernel_rfl) (by kernel_rfl) (by kernel_rfl) (fun _ _ _ h => h) (Or.inl ⟨by rfl, ?hy134⟩) (by assumption) ?rest134
          case hy134 => (intro u hSu; (try dsimp only at hSu); go_simp; try (with_reducible rfl))
          (try simp only [Act.put, List.setIfInBounds_toArray, List.set_cons_zero, List.set_cons_succ])
          refine wpAnyH_take (i := 2) (oi := (⟨some 15, _, _, _, _, none⟩ : Oper)) (v := .pointer (some ⟨q, 0, none⟩)) rfl (by kernel_rfl) (by kernel_rfl) (by kernel_rfl) (fun _ _ _ h => h) (Or.inl ⟨by rfl, ?hy135⟩) (by assumption) ?rest135
          case hy135 => (intro u hSu; (try dsimp only at hSu); go_simp; try (with_reducible rfl))
          (try simp only [Act.put, List.setIfInBounds_toArray, List.set_cons_zero, List.set_cons_succ])
          refine wpAnyH_take (i := 3) (oi := (⟨some 16, _, _, _, _, none⟩ : Oper)) (v := .pointer (some ⟨p, 0, none⟩)) rfl (by kernel_rfl) (by kernel_rfl) (by kernel_rfl) (fun _ _ _ h => h) (Or.inl ⟨by rfl, ?hy136⟩) (by assumption) ?rest136
          case hy136 => (intro u hSu; (try dsimp only at hSu); obtain ⟨s0, s1⟩ := hSu; go_simp; try (with_reducible rfl))
          (try simp only [Act.put, List.setIfInBounds_toArray, List.set_cons_zero, List.set_cons_succ])
          refine wpAnyH_take (i := 4) (oi := (⟨some 17, _, _, _, _, none⟩ : Oper)) (v := .pointer (some ⟨q, 0, none⟩)) rfl (by kernel_rfl) (by kernel_rfl) (by kernel_rfl) (fun _ _ _ h => h) (Or.inl ⟨by rfl, ?hy137⟩) (by assumption) ?rest137
          case hy137 => (intro u hSu; (try dsimp only at hSu); go_simp; try (with_reducible rfl))
          (try simp only [Act.put, List.setIfInBounds_toArray, List.set_cons_zero, List.set_cons_succ])
          refine wpAnyH_take (i := 5) (oi := (⟨some 18, _, _, _, _, none⟩ : Oper)) (v := .pointer (some ⟨q, 0, none⟩)) rfl (by kernel_rfl) (by kernel_rfl) (by kernel_rfl) (fun _ _ _ h => h) (Or.inl ⟨by rfl, ?hy138⟩) (by assumption) ?rest138
          case hy138 => (intro u hSu; (try dsimp only at hSu); go_simp; try (with_reducible rfl))
          (try simp only [Act.put, List.setIfInBounds_toArray, List.set_cons_zero, List.set_cons_succ])
          refine wpAnyH_take (i := 6) (oi := (⟨some 19, _, _, _, _, none⟩ : Oper)) (v := .pointer (some ⟨q, 1, none⟩)) rfl (by kernel_rfl) (by kernel_rfl) (by kernel_rfl) (fun _ _ _ h => h) (Or.inl ⟨by rfl, ?hy139⟩) (by assumption) ?rest139
          case hy139 => (intro u hSu; (try dsimp only at hSu); go_simp; try (with_reducible rfl))
          (try simp only [Act.put, List.setIfInBounds_toArray, List.set_cons_zero, List.set_cons_succ])
          refine wpAnyH_take (i := 7) (oi := (⟨some 20, _, _, _, _, none⟩ : Oper)) (v := .pointer (some ⟨o, 0, none⟩)) rfl (by kernel_rfl) (by kernel_rfl) (by kernel_rfl) (fun _ _ _ h => h) (Or.inl ⟨by rfl, ?hy140⟩) (by assumption) ?rest140
          case hy140 => (intro u hSu; (try dsimp only at hSu); obtain ⟨s0, s1⟩ := hSu; go_simp; try (with_reducible rfl))
          (try simp only [Act.put, List.setIfInBounds_toArray, List.set_cons_zero, List.set_cons_succ])
          refine wpAnyH_take (i := 9) (oi := (⟨some 22, _, _, _, _, none⟩ : Oper)) (v := .int .i64 (k : Int)) rfl (by kernel_rfl) (by kernel_rfl) (by kernel_rfl) (fun _ _ _ h => h) (Or.inl ⟨by rfl, ?hy141⟩) (by assumption) ?rest141
          case hy141 => (intro u hSu; (try dsimp only at hSu); go_simp; try (with_reducible rfl))
          (try simp only [Act.put, List.setIfInBounds_toArray, List.set_cons_zero, List.set_cons_succ])
          refine wpAnyH_ready (rs := [8]) (by kernel_rfl) (by simp) ?_
          refine AllReadyH.cons (o := (⟨some 21, _, _, _, _, none⟩ : Oper)) rfl (fun K hK => ?_) AllReadyH.nil
          go_simp
          go_at_call 114
          refine (osecret_any o _ r s c m _ HS.out.ot).mono ?_
          rintro e w2 ⟨rfl, hb2⟩
          have HS2 := Lib.hid (HS.out.below hb2)
          have HB2 := Lib.hid (HB.out.trans (hb2.mono HB.out.size))
          clear hb2
          (try dsimp only)
          refine hK.out _ _ (⟨HS2.out.cs.1, HS2.out.cs.2.1⟩) (fun hHeld => ?_)
          clear hK K
          (try simp only [Act.put, List.setIfInBounds_toArray, List.set_cons_zero, List.set_cons_succ])
          refine wpAnyH_ready (rs := [10]) (by kernel_rfl) (by simp) ?_
          refine AllReadyH.cons (o := (⟨some 23, _, _, _, _, none⟩ : Oper)) rfl (fun K hK => ?_) AllReadyH.nil
          go_simp
          go_at_call 24
          refine (HH.out _ HS2.out.fl).mono ?_
          rintro e w3 ⟨⟨v3, rfl, hv3⟩, hb3⟩
          have HS3 := Lib.hid (HS2.out.below hb3)
          have HL2 := Lib.hid HS2.out.lt
          have HB3 := Lib.hid (HB2.out.trans (hb3.mono HB2.out.size))
          have HV3 : Hid (Own8 w3 w2.heap.size v3 X) := Lib.hid hv3
          clear hb3 hv3
          (try dsimp only)
          refine hK.out _ _ (⟨HS3.out.cs.1, HS3.out.cs.2.1⟩) (fun hHeld => ?_)
          clear hK K
          (try simp only [Act.put, List.setIfInBounds_toArray, List.set_cons_zero, List.set_cons_succ])
          refine wpAnyH_take (i := 11) (oi := (⟨some 12, _, _, _, _, none⟩ : Oper)) (v := .tuple #[.int .i64 nn, v3, .bool true]) rfl (by kernel_rfl) (by kernel_rfl) (by kernel_rfl) (fun _ _ _ h => h) (Or.inl ⟨by rfl, ?hy142⟩) (by assumption) ?rest142
          case hy142 => (intro u hSu; (try dsimp only at hSu); go_simp; try (with_reducible rfl))
          (try simp only [Act.put, List.setIfInBounds_toArray, List.set_cons_zero, List.set_cons_succ])
          refine wpAnyH_take (i := 12) (oi := (⟨some 24, _, _, _, _, none⟩ : Oper)) (v := .int .i64 nn) rfl (by kernel_rfl) (by kernel_rfl) (by kernel_rfl) (fun _ _ _ h => h) (Or.inl ⟨by rfl, ?hy143⟩) (by assumption) ?rest143
          case hy143 => (intro u hSu; (try dsimp only at hSu); go_simp; try (with_reducible rfl))
          (try simp only [Act.put, List.setIfInBounds_toArray, List.set_cons_zero, List.set_cons_succ])
          refine wpAnyH_take (i := 13) (oi := (⟨some 25, _, _, _, _, none⟩ : Oper)) (v := v3) rfl (by kernel_rfl) (by kernel_rfl) (by kernel_rfl) (fun _ _ _ h => h) (Or.inl ⟨by rfl, ?hy144⟩) (by assumption) ?rest144
          case hy144 => (intro u hSu; (try dsimp only at hSu); go_simp; try (with_reducible rfl))
          (try simp only [Act.put, List.setIfInBounds_toArray, List.set_cons_zero, List.set_cons_succ])
          refine wpAnyH_take (i := 14) (oi := (⟨some 26, _, _, _, _, none⟩ : Oper)) (v := .bool true) rfl (by kernel_rfl) (by kernel_rfl) (by kernel_rfl) (fun _ _ _ h => h) (Or.inl ⟨by rfl, ?hy145⟩) (by assumption) ?rest145
          case hy145 => (intro u hSu; (try dsimp only at hSu); go_simp; try (with_reducible rfl))
          (try simp only [Act.put, List.setIfInBounds_toArray, List.set_cons_zero, List.set_cons_succ])
          refine wpAnyH_take (i := 15) (oi := (⟨some 6, _, _, _, _, none⟩ : Oper)) (v := .int .i64 nn) rfl (by kernel_rfl) (by kernel_rfl) (by kernel_rfl) (fun _ _ _ h => h) (Or.inl ⟨by rfl, ?hy146⟩) (by assumption) ?rest146
          case hy146 => (intro u hSu; (try dsimp only at hSu); go_simp; try (with_reducible rfl))
          (try simp only [Act.put, List.setIfInBounds_toArray, List.set_cons_zero, List.set_cons_succ])
          refine wpAnyH_take (i := 16) (oi := (⟨some 7, _, _, _, _, none⟩ : Oper)) (v := v3) rfl (by kernel_rfl) (by kernel_rfl) (by kernel_rfl) (fun _ _ _ h => h) (Or.inl ⟨by rfl, ?hy147⟩) (by assumption) ?rest147
          case hy147 => (intro u hSu; (try dsimp only at hSu); go_simp; try (with_reducible rfl))
          (try simp only [Act.put, List.setIfInBounds_toArray, List.set_cons_zero, List.set_cons_succ])
          refine wpAnyH_take (i := 17) (oi := (⟨some 8, _, _, _, _, none⟩ : Oper)) (v := .bool true) rfl (by kernel_rfl) (by kernel_rfl) (by kernel_rfl) (fun _ _ _ h => h) (Or.inl ⟨by rfl, ?hy148⟩) (by assumption) ?rest148
          case hy148 => (intro u hSu; (try dsimp only at hSu); go_simp; try (with_reducible rfl))
          (try simp only [Act.put, List.setIfInBounds_toArray, List.set_cons_zero, List.set_cons_succ])
          refine wpAnyH_done (by kernel_rfl) ?_ _
          (try simp only [Exit.then])
          clear hHeld q0 q1 q3 q4
          go_wp2_with fail
          go_roundw
          case rel => exact ⟨k + 1, by omega, by go_num, fun j hj => by
            rcases Nat.lt_or_ge j k with h | h
            · exact HNO.out j h
            · obtain rfl : j = k := by omega
              rw [HNK.out, decide_eq_false hnum]; rfl, HS3.out, HB3.out⟩
          case measure => simp [intOf]; omega
    · obtain rfl : k = 2 := by omega
      have hf : fnd s f num = none := by
        unfold fnd
        rw [if_neg (by rw [hno 0 (by omega)]; simp), if_neg (by rw [hno 1 (by omega)]; simp)]
      have HF := Lib.hid hf
      have HS := Lib.hid hs
      have HB := Lib.hid hb
      clear hno hs hb hf
      go_wp2_with fail
      go_ret
      refine ⟨by rw [HF.out]; rfl, ?_, Kept.of_below HB.out⟩
      have e1 : fx s f num x = x := by unfold fx; rw [HF.out]
      have e2 : fh s f num hf0 = hf0 := by unfold fh; rw [HF.out]
      rw [e1, e2]
      exact HS.out
end Go.Proofs.YtoljnogpegemjaaDoor.Bk
namespace Go.Proofs.YtoljnogpegemjaaDoor.Bk
open Go.RowKit Wr Sl Sm
set_option linter.unusedSimpArgs false
set_option linter.unusedVariables false

/-- What an opening answers and leaves. -/
structure OR where
  e : Int
  f : Fl
  c : Nat
  x : List Int
  h : Int
/-- Where the kept bytes stand, of a number of which no half has the next one. -/
def kh (s : List Int) (f : Fl) (c : Nat) : Nat := match fnd s f c with | some k => k | none => 1
def kx (s : List Int) (f : Fl) (c : Nat) : List Int := fx s f c []
def opB (s : List Int) (f : Fl) (c m : Nat) : OR :=
  if c < m ∧ (fnd s f ((c + 1 : Nat) : Int)).isSome = true then ⟨sel f.turnOk 0 8, f.turn, sel f.turnOk (c + 1) c, fx s f ((c + 1 : Nat) : Int) [], fh s f ((c + 1 : Nat) : Int) 0⟩
  else if (fnd s f c).isSome = false ∧ c ≠ 0 then ⟨18, f, c, [], 0⟩
  else if c = m then ⟨0, f, c, kx s f c, kh s f c⟩
  else ⟨sel (wB s f c (1 - kh s f c) (kx s f c)).ok 0 8, (wB s f c (1 - kh s f c) (kx s f c)).f, (wB s f c (1 - kh s f c) (kx s f c)).c, kx s f c, sel (wB s f c (1 - kh s f c) (kx s f c)).ok (1 - (kh s f c : Int)) (kh s f c)⟩
theorem fnd_lt {s : List Int} {f : Fl} {n : Int} {k : Nat} (h : fnd s f n = some k) : k < 2 := by
  unfold fnd at h
  split at h
  · cases h; omega
  · split at h
    · cases h; omega
    · cases h
theorem kh_lt (s : List Int) (f : Fl) (c : Nat) : kh s f c < 2 := by
  unfold kh
  split
  · rename_i k h; exact fnd_lt h
  · omega
/-- The bank's number of a half is set. -/
theorem Sys.half {w : World} {p g o q : Nat} {r s : List Int} {f : Fl} {c m : Nat} {x : List Int} {hf : Int} {dd : Bool} (h : Sys w p g o q r s f c m x hf dd) (ha : Apart p g o q) (t : Int) :
    Sys (w.setCell ⟨q, 3, none⟩ (.int .i64 t)) p g o q r s f c m x t dd ∧ Kept (fun i => i = q) w (w.setCell ⟨q, 3, none⟩ (.int .i64 t)) := by
  have hk : Kept (fun i => i = q) w (w.setCell ⟨q, 3, none⟩ (.int .i64 t)) := (Kept.refl _ w).at _ _
  have hne := ha.ne
  obtain ⟨sa, cc, h1, h2, h3, h4⟩ := h.bk
  refine ⟨⟨h.fl.kept hk (by omega) (by omega), h.ot.kept hk (by omega), ⟨sa, cc, ?_, src_far h2 h4 hk (by rintro i rfl; omega), h3, h4⟩, h.xs⟩, hk⟩
  rw [blk_setCell h1]
  simp
abbrev All4 (p g o q : Nat) : Nat → Prop := fun i => i = p ∨ i = g ∨ i = o ∨ i = q
set_option maxRecDepth 100000 in
set_option maxHeartbeats 1000000 in
theorem begin_ok (p g o q : Nat) (r s : List Int) (f : Fl) (c m : Nat) (w : World) (h : Sys w p g o q r s f c m [] 0 false) (ha : Apart p g o q) (hsb : bytes s) (hd : f.dead = false) (hl : 16384 ≤ f.b.length) (hm : m ≤ 1048576) (hc : c < m) (k : Nat) (hn : fnd s f ((c + 1 : Nat) : Int) = some k) (hto : f.turnOk = true) :
    Calls Tryd.prog 81 #[.pointer (some ⟨q, 0, none⟩)] w fun e w' => e = .returned (.int .i64 0) ∧ Sys w' p g o q r s f.turn (c + 1) m (fx s f ((c + 1 : Nat) : Int) []) (fh s f ((c + 1 : Nat) : Int) 0) false ∧ Kept (All4 p g o q) w w' := by
  obtain ⟨q0, q1, q3, q4⟩ := h.cs
  have hlt := h.lt
  have HS := Lib.hid h
  have HA := Lib.hid ha
  have hh := has_any p g o q r s f c m [] 0 false ((c + 1 : Nat) : Int) w h ha hsb hd hl
  rw [hn, show ((c + 1 : Nat) : Int) = (c : Int) + 1 by omega] at hh
  rw [show ((c + 1 : Nat) : Int) = (c : Int) + 1 by omega]
  have HH := Lib.hid hh
  have hcm : ((c : Int) == (m : Int)) = false := by rw [beq_eq_false_iff_ne]; omega
  have HCM := Lib.hid hcm
  have hst := fun u h1 h2 => ostep_ok o p g f r s c m u h1 h2 (by have := ha.ne; omega) (by have := ha.ne; omega) HCM.out hto (by omega)
  have HST := Lib.hid hst
  have HKO : Hid (∀ x, (x = p ∨ x = o) → x = p ∨ x = g ∨ x = o ∨ x = q) := Lib.hid (fun x h => by omega)
  have HNQ : Hid (¬ (q = p ∨ q = o) ∧ ((c : Int) + 1 = ((c + 1 : Nat) : Int))) := Lib.hid (by have := ha.ne; omega)
  clear h ha hh hst hto hn hsb hd hl
  generalize fx s f ((c : Int) + 1) [] = X at HH ⊢
  generalize fh s f ((c : Int) + 1) 0 = Y at HH ⊢
  go_enter Tryd.func81, Tryd.ntmps81
  go_wp2_with (first | (go_at_call 67; refine (ocount_any o _ r s _ _ _ HS.out.ot).mono ?_; rintro e w' ⟨rfl, rfl⟩) | (go_at_call 83; refine (omost_any o _ r s _ _ _ HS.out.ot).mono ?_; rintro e w' ⟨rfl, rfl⟩) | (go_at_call 112; refine (HH.out).mono ?_; rintro e w5 ⟨rfl, hs5, hk5⟩; have HS5 := Lib.hid hs5; have HK5 := Lib.hid hk5; obtain ⟨c50, c51, c53, c54⟩ := hs5.cs; have f53 := hs5.fr 3; clear hs5 hk5 HH) | (go_at_call 113; refine (HST.out _ HS5.out.ot HS5.out.fl).mono ?_; rintro e w6 ⟨rfl, hf6, ho6, hk6, -⟩; rw [HNQ.out.2] at ho6; have HS6 := Lib.hid (HS5.out.turn hk6 HKO.out HNQ.out.1 hf6 ho6); have HK6 := Lib.hid (HK5.out.trans (hk6.mono (fun x _ h => HKO.out x h))); clear hf6 ho6 hk6))
  go_ret
  exact ⟨rfl, HS6.out, HK6.out⟩

set_option maxRecDepth 100000 in
set_option maxHeartbeats 1000000 in
theorem begin_no (p g o q : Nat) (r s : List Int) (f : Fl) (c m : Nat) (w : World) (h : Sys w p g o q r s f c m [] 0 false) (ha : Apart p g o q) (hsb : bytes s) (hd : f.dead = false) (hl : 16384 ≤ f.b.length) (hm : m ≤ 1048576) (hc : c < m) (k : Nat) (hn : fnd s f ((c + 1 : Nat) : Int) = some k) (hto : f.turnOk = false) :
    Calls Tryd.prog 81 #[.pointer (some ⟨q, 0, none⟩)] w fun e w' => e = .returned (.int .i64 8) ∧ Sys w' p g o q r s f.turn c m (fx s f ((c + 1 : Nat) : Int) []) (fh s f ((c + 1 : Nat) : Int) 0) false ∧ Kept (All4 p g o q) w w' := by
  obtain ⟨q0, q1, q3, q4⟩ := h.cs
  have hlt := h.lt
  have HS := Lib.hid h
  have HA := Lib.hid ha
  have hh := has_any p g o q r s f c m [] 0 false ((c + 1 : Nat) : Int) w h ha hsb hd hl
  rw [hn, show ((c + 1 : Nat) : Int) = (c : Int) + 1 by omega] at hh
  rw [show ((c + 1 : Nat) : Int) = (c : Int) + 1 by omega]
  have HH := Lib.hid hh
  have hcm : ((c : Int) == (m : Int)) = false := by rw [beq_eq_false_iff_ne]; omega
  have HCM := Lib.hid hcm
  have hst := fun u h1 h2 => ostep_no o p g f r s c m u h1 h2 (by have := ha.ne; omega) HCM.out hto
  have HST := Lib.hid hst
  have HKO : Hid (∀ x, (x = p ∨ x = o) → x = p ∨ x = g ∨ x = o ∨ x = q) := Lib.hid (fun x h => by omega)
  have HNQ : Hid (¬ (q = p ∨ q = o) ∧ ((c : Int) + 1 = ((c + 1 : Nat) : Int))) := Lib.hid (by have := ha.ne; omega)
  clear h ha hh hst hto hn hsb hd hl
  generalize fx s f ((c : Int) + 1) [] = X at HH ⊢
  generalize fh s f ((c : Int) + 1) 0 = Y at HH ⊢
  go_enter Tryd.func81, Tryd.ntmps81
  go_wp2_with (first | (go_at_call 67; refine (ocount_any o _ r s _ _ _ HS.out.ot).mono ?_; rintro e w' ⟨rfl, rfl⟩) | (go_at_call 83; refine (omost_any o _ r s _ _ _ HS.out.ot).mono ?_; rintro e w' ⟨rfl, rfl⟩) | (go_at_call 112; refine (HH.out).mono ?_; rintro e w5 ⟨rfl, hs5, hk5⟩; have HS5 := Lib.hid hs5; have HK5 := Lib.hid hk5; obtain ⟨c50, c51, c53, c54⟩ := hs5.cs; have f53 := hs5.fr 3; clear hs5 hk5 HH) | (go_at_call 113; refine (HST.out _ HS5.out.ot HS5.out.fl).mono ?_; rintro e w6 ⟨rfl, hf6, ho6, hk6, -⟩; have HS6 := Lib.hid (HS5.out.turn hk6 HKO.out HNQ.out.1 hf6 ho6); have HK6 := Lib.hid (HK5.out.trans (hk6.mono (fun x _ h => HKO.out x h))); clear hf6 ho6 hk6))
  go_ret
  exact ⟨rfl, HS6.out, HK6.out⟩

set_option maxRecDepth 100000 in
set_option maxHeartbeats 1000000 in
theorem begin_refuse1 (p g o q : Nat) (r s : List Int) (f : Fl) (c m : Nat) (w : World) (h : Sys w p g o q r s f c m [] 0 false) (ha : Apart p g o q) (hsb : bytes s) (hd : f.dead = false) (hl : 16384 ≤ f.b.length) (hm : m ≤ 1048576) (hc : c = m) (h0 : c ≠ 0) (hf : fnd s f c = none) :
    Calls Tryd.prog 81 #[.pointer (some ⟨q, 0, none⟩)] w fun e w' => e = .returned (.int .i64 18) ∧ Sys w' p g o q r s f c m [] 0 false ∧ Kept (All4 p g o q) w w' := by
  subst hc
  obtain ⟨q0, q1, q3, q4⟩ := h.cs
  have hlt := h.lt
  have HS := Lib.hid h
  have HA := Lib.hid ha
  have hcm : ((c : Int) == (c : Int)) = true := by rw [beq_iff_eq]
  have hh2 := has_any p g o q r s f c c [] 0 false (c : Int) w h ha hsb hd hl
  rw [hf, show fx s f (c : Int) [] = [] by unfold fx; rw [hf], show fh s f (c : Int) 0 = 0 by unfold fh; rw [hf]] at hh2
  have HH2 := Lib.hid hh2
  clear hh2 h ha hsb hd hl hf
  have h00 : ((c : Int) == 0) = false := by rw [beq_eq_false_iff_ne]; omega
  go_enter Tryd.func81, Tryd.ntmps81
  go_wp2_with (first | (go_at_call 67; refine (ocount_any o _ r s _ _ _ HS.out.ot).mono ?_; rintro e w' ⟨rfl, rfl⟩) | (go_at_call 83; refine (omost_any o _ r s _ _ _ HS.out.ot).mono ?_; rintro e w' ⟨rfl, rfl⟩) | (go_at_call 112; refine (HH2.out).mono ?_; rintro e w6 ⟨rfl, hs6, hk6⟩; have HS6 := Lib.hid hs6; have HK6 := Lib.hid hk6; obtain ⟨c60, c61, c63, c64⟩ := hs6.cs; have f63 := hs6.fr 3; clear hs6 hk6 HH2))
  go_ret
  exact ⟨rfl, HS6.out, HK6.out⟩

set_option maxRecDepth 100000 in
set_option maxHeartbeats 1000000 in
theorem begin_end_some (p g o q : Nat) (r s : List Int) (f : Fl) (c m : Nat) (w : World) (h : Sys w p g o q r s f c m [] 0 false) (ha : Apart p g o q) (hsb : bytes s) (hd : f.dead = false) (hl : 16384 ≤ f.b.length) (hm : m ≤ 1048576) (hc : c = m) (K : Nat) (hf : fnd s f c = some K) :
    Calls Tryd.prog 81 #[.pointer (some ⟨q, 0, none⟩)] w fun e w' => e = .returned (.int .i64 0) ∧ Sys w' p g o q r s f c m (kx s f c) (kh s f c : Int) false ∧ Kept (All4 p g o q) w w' := by
  subst hc
  obtain ⟨q0, q1, q3, q4⟩ := h.cs
  have hlt := h.lt
  have HS := Lib.hid h
  have HA := Lib.hid ha
  have hcm : ((c : Int) == (c : Int)) = true := by rw [beq_iff_eq]
  have hh2 := has_any p g o q r s f c c [] 0 false (c : Int) w h ha hsb hd hl
  rw [hf] at hh2
  have hK : fh s f (c : Int) 0 = (K : Int) := by unfold fh; rw [hf]
  have hK2 := fnd_lt hf
  have hkh : kh s f c = K := by unfold kh; rw [hf]
  have hkx : kx s f c = fx s f c [] := rfl
  rw [hkx, hkh]
  rw [hK] at hh2
  have HH2 := Lib.hid hh2
  clear hh2 h ha hsb hd hl hf
  generalize fx s f (c : Int) [] = X at HH2 ⊢
  go_enter Tryd.func81, Tryd.ntmps81
  go_wp2_with (first | (go_at_call 67; refine (ocount_any o _ r s _ _ _ HS.out.ot).mono ?_; rintro e w' ⟨rfl, rfl⟩) | (go_at_call 83; refine (omost_any o _ r s _ _ _ HS.out.ot).mono ?_; rintro e w' ⟨rfl, rfl⟩) | (go_at_call 112; refine (HH2.out).mono ?_; rintro e w6 ⟨rfl, hs6, hk6⟩; have HS6 := Lib.hid hs6; have HK6 := Lib.hid hk6; obtain ⟨c60, c61, c63, c64⟩ := hs6.cs; have f63 := hs6.fr 3; clear hs6 hk6 HH2))
  go_ret
  exact ⟨rfl, HS6.out, HK6.out⟩

set_option maxRecDepth 100000 in
set_option maxHeartbeats 1000000 in
theorem begin_end_none (p g o q : Nat) (r s : List Int) (f : Fl) (c m : Nat) (w : World) (h : Sys w p g o q r s f c m [] 0 false) (ha : Apart p g o q) (hsb : bytes s) (hd : f.dead = false) (hl : 16384 ≤ f.b.length) (hm : m ≤ 1048576) (hc : c = m) (h0 : c = 0) (hf : fnd s f c = none) :
    Calls Tryd.prog 81 #[.pointer (some ⟨q, 0, none⟩)] w fun e w' => e = .returned (.int .i64 0) ∧ Sys w' p g o q r s f c m (kx s f c) (kh s f c : Int) false ∧ Kept (All4 p g o q) w w' := by
  subst hc
  obtain ⟨q0, q1, q3, q4⟩ := h.cs
  have hlt := h.lt
  have HS := Lib.hid h
  have HA := Lib.hid ha
  have hcm : ((c : Int) == (c : Int)) = true := by rw [beq_iff_eq]
  have hh2 := has_any p g o q r s f c c [] 0 false (c : Int) w h ha hsb hd hl
  rw [hf, show fx s f (c : Int) [] = [] by unfold fx; rw [hf], show fh s f (c : Int) 0 = 0 by unfold fh; rw [hf]] at hh2
  have hkh : kh s f c = 1 := by unfold kh; rw [hf]
  have hkx : kx s f c = [] := by unfold kx fx; rw [hf]
  rw [hkx, hkh]
  have HH2 := Lib.hid hh2
  clear hh2 h ha hsb hd hl hf
  have h00 : ((c : Int) == 0) = true := by rw [beq_iff_eq]; omega
  go_enter Tryd.func81, Tryd.ntmps81
  subst h0
  go_wp2_with (first | (go_at_call 67; refine (ocount_any o _ r s _ _ _ HS.out.ot).mono ?_; rintro e w' ⟨rfl, rfl⟩) | (go_at_call 83; refine (omost_any o _ r s _ _ _ HS.out.ot).mono ?_; rintro e w' ⟨rfl, rfl⟩) | (go_at_call 112; refine (HH2.out).mono ?_; rintro e w6 ⟨rfl, hs6, hk6⟩; have HS6 := Lib.hid hs6; have HK6 := Lib.hid hk6; obtain ⟨c60, c61, c63, c64⟩ := hs6.cs; have f63 := hs6.fr 3; clear hs6 hk6 HH2))
  go_ret
  obtain ⟨e1, e2⟩ := HS6.out.half HA.out 1
  exact ⟨rfl, e1, HK6.out.trans (e2.mono (fun x _ h => .inr (.inr (.inr h))))⟩

set_option maxRecDepth 100000 in
set_option maxHeartbeats 1000000 in
theorem begin_refuse2 (p g o q : Nat) (r s : List Int) (f : Fl) (c m : Nat) (w : World) (h : Sys w p g o q r s f c m [] 0 false) (ha : Apart p g o q) (hsb : bytes s) (hd : f.dead = false) (hl : 16384 ≤ f.b.length) (hm : m ≤ 1048576) (hc : c < m) (hn : fnd s f ((c + 1 : Nat) : Int) = none) (h0 : c ≠ 0) (hf : fnd s f c = none) :
    Calls Tryd.prog 81 #[.pointer (some ⟨q, 0, none⟩)] w fun e w' => e = .returned (.int .i64 18) ∧ Sys w' p g o q r s f c m [] 0 false ∧ Kept (All4 p g o q) w w' := by
  obtain ⟨q0, q1, q3, q4⟩ := h.cs
  have hlt := h.lt
  have HS := Lib.hid h
  have HA := Lib.hid ha
  have hcm : ((c : Int) == (m : Int)) = false := by rw [beq_eq_false_iff_ne]; omega
  have hh := has_any p g o q r s f c m [] 0 false ((c + 1 : Nat) : Int) w h ha hsb hd hl
  rw [hn, show fx s f ((c + 1 : Nat) : Int) [] = [] by unfold fx; rw [hn], show fh s f ((c + 1 : Nat) : Int) 0 = 0 by unfold fh; rw [hn], show ((c + 1 : Nat) : Int) = (c : Int) + 1 by omega] at hh
  have HH := Lib.hid hh
  have hh2 := fun u h => has_any p g o q r s f c m [] 0 false (c : Int) u h ha hsb hd hl
  clear hh
  simp only [hf, show fx s f (c : Int) [] = [] by unfold fx; rw [hf], show fh s f (c : Int) 0 = 0 by unfold fh; rw [hf]] at hh2
  have HH2 := Lib.hid hh2
  clear hh2 h ha hsb hd hl hf hn
  have h00 : ((c : Int) == 0) = false := by rw [beq_eq_false_iff_ne]; omega
  go_enter Tryd.func81, Tryd.ntmps81
  go_wp2_with (first | (go_at_call 67; refine (ocount_any o _ r s _ _ _ HS.out.ot).mono ?_; rintro e w' ⟨rfl, rfl⟩) | (go_at_call 83; refine (omost_any o _ r s _ _ _ HS.out.ot).mono ?_; rintro e w' ⟨rfl, rfl⟩) | (go_at_call 112; refine (HH.out).mono ?_; rintro e w5 ⟨rfl, hs5, hk5⟩; have HS5 := Lib.hid hs5; have HK5 := Lib.hid hk5; obtain ⟨c50, c51, c53, c54⟩ := hs5.cs; have f53 := hs5.fr 3; clear hs5 hk5 HH) | (go_at_call 112; refine (HH2.out _ HS5.out).mono ?_; rintro e w6 ⟨rfl, hs6, hk6⟩; have HS6 := Lib.hid hs6; have HK6 := Lib.hid (HK5.out.trans hk6); obtain ⟨c60, c61, c63, c64⟩ := hs6.cs; have f63 := hs6.fr 3; clear hs6 hk6 HH2))
  go_ret
  exact ⟨rfl, HS6.out, HK6.out⟩

set_option maxRecDepth 100000 in
set_option maxHeartbeats 1000000 in
theorem begin_write_some (p g o q : Nat) (r s : List Int) (f : Fl) (c m : Nat) (w : World) (h : Sys w p g o q r s f c m [] 0 false) (ha : Apart p g o q) (hsb : bytes s) (hd : f.dead = false) (hl : 16384 ≤ f.b.length) (hm : m ≤ 1048576) (hc' : c < m) (hn : fnd s f ((c + 1 : Nat) : Int) = none) (K : Nat) (hf : fnd s f c = some K) :
    Calls Tryd.prog 81 #[.pointer (some ⟨q, 0, none⟩)] w fun e w' => e = .returned (.int .i64 (sel (wB s f c (1 - kh s f c) (kx s f c)).ok 0 8)) ∧ Sys w' p g o q r s (wB s f c (1 - kh s f c) (kx s f c)).f (wB s f c (1 - kh s f c) (kx s f c)).c m (kx s f c) (sel (wB s f c (1 - kh s f c) (kx s f c)).ok (1 - (kh s f c : Int)) (kh s f c : Int)) false ∧ Kept (All4 p g o q) w w' := by
  obtain ⟨q0, q1, q3, q4⟩ := h.cs
  have hlt := h.lt
  have HS := Lib.hid h
  have HA := Lib.hid ha
  have hcm : ((c : Int) == (m : Int)) = false := by rw [beq_eq_false_iff_ne]; omega
  have hh := has_any p g o q r s f c m [] 0 false ((c + 1 : Nat) : Int) w h ha hsb hd hl
  rw [hn, show fx s f ((c + 1 : Nat) : Int) [] = [] by unfold fx; rw [hn], show fh s f ((c + 1 : Nat) : Int) 0 = 0 by unfold fh; rw [hn], show ((c + 1 : Nat) : Int) = (c : Int) + 1 by omega] at hh
  have HH := Lib.hid hh
  have hh2 := fun u h => has_any p g o q r s f c m [] 0 false (c : Int) u h ha hsb hd hl
  clear hh
  simp only [hf] at hh2
  have hK : fh s f (c : Int) 0 = (K : Int) := by unfold fh; rw [hf]
  have hK2 := fnd_lt hf
  have hkh : kh s f c = K := by unfold kh; rw [hf]
  have hkx : kx s f c = fx s f c [] := rfl
  have hkk : 1 - kh s f c = (1 - K) := by rw [hkh]
  have hK1 : (K : Int) = 1 - (((1 - K) : Nat) : Int) := by omega
  rw [hkk, hkh]
  have hxl : (fx s f (c : Int) []) = kx s f c := rfl
  simp only [hxl] at hh2
  simp only [hK] at hh2
  have hwr := fun (u : World) (X : List Int) (hu : Sys u p g o q r s f c m X (1 - (((1 - K) : Nat) : Int)) false) (sx : Option Addr) (cx : Nat) hs hf hc => write_any p g o q r s f c m (1 - K) X false sx X.length cx X u hu ha (by omega) hc' hm hsb hs hf hu.xs.1 hu.xs.2 hc
  have HWR := Lib.hid hwr
  have HK1 := Lib.hid hK1
  clear hwr
  have HH2 := Lib.hid hh2
  clear hh2 h ha hsb hd hl hf hn
  clear hkx hkh hkk hK1 hK hxl
  generalize kx s f c = X at HH2 ⊢
  have HW0 : Hid (∀ u, Sys u p g o q r s f c m X (K : Int) false → ∃ sa9 cc9, u.cell? ⟨q, 2, none⟩ = some (.slice sa9 X.length cc9) ∧ Calls Tryd.prog 84 #[.pointer (some ⟨q, 0, none⟩), .slice sa9 X.length cc9] u fun e w' => e = .returned (.int .i64 (sel (wB s f c (1 - K) X).ok 0 8)) ∧ Sys w' p g o q r s (wB s f c (1 - K) X).f (wB s f c (1 - K) X).c m X (sel (wB s f c (1 - K) X).ok (1 - (K : Int)) (K : Int)) false ∧ Kept (All4 p g o q) u w') := Lib.hid (by
    intro u hu
    rw [HK1.out] at hu
    obtain ⟨sa9, cc9, z1, z2, z3, z4⟩ := hu.c2
    refine ⟨sa9, cc9, z1, (HWR.out u X hu sa9 cc9 z2 z4 z3).mono ?_⟩
    rintro e w' ⟨rfl, hs9, hk9⟩
    have e1 : ((1 - K : Nat) : Int) = 1 - (K : Int) := by omega
    refine ⟨rfl, ?_, hk9⟩
    have e2 : sel (wB s f c (1 - K) X).ok X X = X := by unfold sel; split <;> rfl
    rw [e2, e1, show 1 - (1 - (K : Int)) = (K : Int) by omega] at hs9
    exact hs9)
  generalize wB s f c (1 - K) X = RR at HW0 ⊢
  clear HWR HK1
  go_enter Tryd.func81, Tryd.ntmps81
  go_upto_region 11 with (first | (go_at_call 67; refine (ocount_any o _ r s _ _ _ HS.out.ot).mono ?_; rintro e w' ⟨rfl, rfl⟩) | (go_at_call 83; refine (omost_any o _ r s _ _ _ HS.out.ot).mono ?_; rintro e w' ⟨rfl, rfl⟩) | (go_at_call 112; refine (HH.out).mono ?_; rintro e w5 ⟨rfl, hs5, hk5⟩; have HS5 := Lib.hid hs5; have HK5 := Lib.hid hk5; obtain ⟨c50, c51, c53, c54⟩ := hs5.cs; have f53 := hs5.fr 3; clear hs5 hk5 HH) | (go_at_call 112; refine (HH2.out _ HS5.out).mono ?_; rintro e w6 ⟨rfl, hs6, hk6⟩; have HS6 := Lib.hid hs6; have HK6 := Lib.hid (HK5.out.trans hk6); obtain ⟨c60, c61, c63, c64⟩ := hs6.cs; have f63 := hs6.fr 3; clear hs6 hk6 HH2))
  obtain ⟨sa9, cc9, z1, hw9⟩ := HW0.out _ HS6.out
  have HW9 := Lib.hid hw9
  clear hw9 HW0
  go_wp2_with (go_at_call 84; refine HW9.out.mono ?_; rintro e w9 ⟨rfl, hs9, hk9⟩; have HS9 := Lib.hid hs9; have HK9 := Lib.hid (HK6.out.trans hk9); clear hs9 hk9)
  go_ret
  exact ⟨rfl, HS9.out, HK9.out⟩

set_option maxRecDepth 100000 in
set_option maxHeartbeats 1000000 in
theorem begin_write_none (p g o q : Nat) (r s : List Int) (f : Fl) (c m : Nat) (w : World) (h : Sys w p g o q r s f c m [] 0 false) (ha : Apart p g o q) (hsb : bytes s) (hd : f.dead = false) (hl : 16384 ≤ f.b.length) (hm : m ≤ 1048576) (hc' : c < m) (hn : fnd s f ((c + 1 : Nat) : Int) = none) (h0 : c = 0) (hf : fnd s f c = none) :
    Calls Tryd.prog 81 #[.pointer (some ⟨q, 0, none⟩)] w fun e w' => e = .returned (.int .i64 (sel (wB s f c (1 - kh s f c) (kx s f c)).ok 0 8)) ∧ Sys w' p g o q r s (wB s f c (1 - kh s f c) (kx s f c)).f (wB s f c (1 - kh s f c) (kx s f c)).c m (kx s f c) (sel (wB s f c (1 - kh s f c) (kx s f c)).ok (1 - (kh s f c : Int)) (kh s f c : Int)) false ∧ Kept (All4 p g o q) w w' := by
  obtain ⟨q0, q1, q3, q4⟩ := h.cs
  have hlt := h.lt
  have HS := Lib.hid h
  have HA := Lib.hid ha
  have hcm : ((c : Int) == (m : Int)) = false := by rw [beq_eq_false_iff_ne]; omega
  have hh := has_any p g o q r s f c m [] 0 false ((c + 1 : Nat) : Int) w h ha hsb hd hl
  rw [hn, show fx s f ((c + 1 : Nat) : Int) [] = [] by unfold fx; rw [hn], show fh s f ((c + 1 : Nat) : Int) 0 = 0 by unfold fh; rw [hn], show ((c + 1 : Nat) : Int) = (c : Int) + 1 by omega] at hh
  have HH := Lib.hid hh
  have hh2 := fun u h => has_any p g o q r s f c m [] 0 false (c : Int) u h ha hsb hd hl
  clear hh
  simp only [hf, show fx s f (c : Int) [] = [] by unfold fx; rw [hf], show fh s f (c : Int) 0 = 0 by unfold fh; rw [hf]] at hh2
  have hkh : kh s f c = 1 := by unfold kh; rw [hf]
  have hkx : kx s f c = [] := by unfold kx fx; rw [hf]
  have hkk : 1 - kh s f c = 0 := by rw [hkh]
  have hK1 : (1 : Int) = 1 - ((0 : Nat) : Int) := by omega
  rw [hkk, hkh]
  rw [hkx]
  have hwr := fun (u : World) (X : List Int) (hu : Sys u p g o q r s f c m X (1 - ((0 : Nat) : Int)) false) (sx : Option Addr) (cx : Nat) hs hf hc => write_any p g o q r s f c m 0 X false sx X.length cx X u hu ha (by omega) hc' hm hsb hs hf hu.xs.1 hu.xs.2 hc
  have HWR := Lib.hid hwr
  have HK1 := Lib.hid hK1
  clear hwr
  have HH2 := Lib.hid hh2
  clear hh2 h ha hsb hd hl hf hn
  clear hkx hkh hkk hK1
  have HW0 : Hid (∀ u, Sys u p g o q r s f c m [] 1 false → ∃ sa9 cc9, u.cell? ⟨q, 2, none⟩ = some (.slice sa9 0 cc9) ∧ Calls Tryd.prog 84 #[.pointer (some ⟨q, 0, none⟩), .slice sa9 0 cc9] u fun e w' => e = .returned (.int .i64 (sel (wB s f c 0 []).ok 0 8)) ∧ Sys w' p g o q r s (wB s f c 0 []).f (wB s f c 0 []).c m [] (sel (wB s f c 0 []).ok (1 - ((1 : Nat) : Int)) ((1 : Nat) : Int)) false ∧ Kept (All4 p g o q) u w') := Lib.hid (by
    intro u hu
    obtain ⟨sa9, cc9, z1, z2, z3, z4⟩ := hu.c2
    refine ⟨sa9, cc9, z1, (HWR.out u [] hu sa9 cc9 z2 z4 z3).mono ?_⟩
    rintro e w' ⟨rfl, hs9, hk9⟩
    refine ⟨rfl, ?_, hk9⟩
    have e2 : sel (wB s f c 0 []).ok ([] : List Int) [] = [] := by unfold sel; split <;> rfl
    rw [e2] at hs9
    exact hs9)
  generalize wB s f c 0 [] = RR at HW0 ⊢
  clear HWR HK1
  have h00 : ((c : Int) == 0) = true := by rw [beq_iff_eq]; omega
  clear h0
  go_enter Tryd.func81, Tryd.ntmps81
  go_upto_region 11 with (first | (go_at_call 67; refine (ocount_any o _ r s _ _ _ HS.out.ot).mono ?_; rintro e w' ⟨rfl, rfl⟩) | (go_at_call 83; refine (omost_any o _ r s _ _ _ HS.out.ot).mono ?_; rintro e w' ⟨rfl, rfl⟩) | (go_at_call 112; refine (HH.out).mono ?_; rintro e w5 ⟨rfl, hs5, hk5⟩; have HS5 := Lib.hid hs5; have HK5 := Lib.hid hk5; obtain ⟨c50, c51, c53, c54⟩ := hs5.cs; have f53 := hs5.fr 3; clear hs5 hk5 HH) | (go_at_call 112; refine (HH2.out _ HS5.out).mono ?_; rintro e w6 ⟨rfl, hs6, hk6⟩; have HS6 := Lib.hid hs6; have HK6 := Lib.hid (HK5.out.trans hk6); obtain ⟨c60, c61, c63, c64⟩ := hs6.cs; have f63 := hs6.fr 3; clear hs6 hk6 HH2))
  obtain ⟨e1, e2⟩ := HS6.out.half HA.out 1
  have HS7 := Lib.hid e1
  have HK7 := Lib.hid (HK6.out.trans (e2.mono (fun x _ h => (.inr (.inr (.inr h)) : All4 p g o q x))))
  clear e1 e2
  obtain ⟨sa9, cc9, z1, hw9⟩ := HW0.out _ HS7.out
  have HW9 := Lib.hid hw9
  clear hw9 HW0
  go_wp2_with (go_at_call 84; refine HW9.out.mono ?_; rintro e w9 ⟨rfl, hs9, hk9⟩; have HS9 := Lib.hid hs9; have HK9 := Lib.hid (HK7.out.trans hk9); clear hs9 hk9)
  go_ret
  exact ⟨rfl, HS9.out, HK9.out⟩

end Go.Proofs.YtoljnogpegemjaaDoor.Bk
namespace Go.Proofs.YtoljnogpegemjaaDoor.Bk
open Go.RowKit Wr Sl Sm
set_option linter.unusedSimpArgs false
set_option linter.unusedVariables false

theorem begin_any (p g o q : Nat) (r s : List Int) (f : Fl) (c m : Nat) (w : World) (h : Sys w p g o q r s f c m [] 0 false) (ha : Apart p g o q) (hsb : bytes s) (hd : f.dead = false) (hl : 16384 ≤ f.b.length) (hm : m ≤ 1048576) (hcm : c ≤ m) :
    Calls Tryd.prog 81 #[.pointer (some ⟨q, 0, none⟩)] w fun e w' => e = .returned (.int .i64 (opB s f c m).e) ∧ Sys w' p g o q r s (opB s f c m).f (opB s f c m).c m (opB s f c m).x (opB s f c m).h false ∧ Kept (All4 p g o q) w w' := by
  unfold opB
  by_cases h1 : c < m ∧ (fnd s f ((c + 1 : Nat) : Int)).isSome = true
  · rw [if_pos h1]
    obtain ⟨k, hk⟩ := Option.isSome_iff_exists.1 h1.2
    cases hto : f.turnOk with
    | true => exact begin_ok p g o q r s f c m w h ha hsb hd hl hm h1.1 k hk hto
    | false => exact begin_no p g o q r s f c m w h ha hsb hd hl hm h1.1 k hk hto
  · rw [if_neg h1]
    have hn : c < m → fnd s f ((c + 1 : Nat) : Int) = none := fun hc => by
      cases e : fnd s f ((c + 1 : Nat) : Int) with
      | none => rfl
      | some k => exact absurd ⟨hc, by rw [e]; rfl⟩ h1
    by_cases h2 : (fnd s f c).isSome = false ∧ c ≠ 0
    · rw [if_pos h2]
      have hf : fnd s f c = none := by
        cases e : fnd s f (c : Int) with
        | none => rfl
        | some k => rw [e] at h2; exact absurd h2.1 (by simp)
      by_cases hc : c = m
      · exact begin_refuse1 p g o q r s f c m w h ha hsb hd hl hm hc h2.2 hf
      · exact begin_refuse2 p g o q r s f c m w h ha hsb hd hl hm (by omega) (hn (by omega)) h2.2 hf
    · rw [if_neg h2]
      by_cases hc : c = m
      · rw [if_pos hc]
        cases e : fnd s f (c : Int) with
        | none => exact begin_end_none p g o q r s f c m w h ha hsb hd hl hm hc (by
            rcases Nat.eq_zero_or_pos c with h0 | h0
            · exact h0
            · exact absurd ⟨by rw [e]; rfl, by omega⟩ h2) e
        | some k => exact begin_end_some p g o q r s f c m w h ha hsb hd hl hm hc k e
      · rw [if_neg hc]
        cases e : fnd s f (c : Int) with
        | none => exact begin_write_none p g o q r s f c m w h ha hsb hd hl hm (by omega) (hn (by omega)) (by
            rcases Nat.eq_zero_or_pos c with h0 | h0
            · exact h0
            · exact absurd ⟨by rw [e]; rfl, by omega⟩ h2) e
        | some k => exact begin_write_some p g o q r s f c m w h ha hsb hd hl hm (by omega) (hn (by omega)) k e

theorem open_off (p g o : Nat) (f : Fl) (w : World) (h : IsFl w p g f) (hd : f.dead = true) (hl : 16384 ≤ f.b.length) :
    Calls Tryd.prog 29 #[.pointer (some ⟨p, 0, none⟩), .pointer (some ⟨o, 0, none⟩)] w fun e w' => e = .returned (.tuple #[.pointer none, .int .i64 8]) ∧ w = w' := by
  have hde := dead_any p g f w h
  rw [hd] at hde
  have hsz := size_any p g f w h
  obtain ⟨z, hz⟩ : ∃ z, z = f.b.length / 256 := ⟨_, rfl⟩
  have hz64 : 64 ≤ z := by omega
  rw [← hz] at hsz
  have HD := Lib.hid hde
  have HZ := Lib.hid hsz
  clear h hde hsz hz hd hl
  go_enter Tryd.func29, Tryd.ntmps29
  go_wp2_with (first | (go_at_call 72; refine HD.out.mono ?_; rintro e w' ⟨rfl, rfl⟩) | (go_at_call 73; refine HZ.out.mono ?_; rintro e w' ⟨rfl, rfl⟩))
  go_ret2
  exact ⟨rfl, rfl⟩

set_option maxRecDepth 100000 in
set_option maxHeartbeats 2000000 in
theorem open_on (p g o : Nat) (r s : List Int) (f : Fl) (c m : Nat) (w : World) (h : IsFl w p g f) (ho : IsOtp w o (.pointer (some ⟨p, 0, none⟩)) r s c m) (hne : p ≠ g ∧ p ≠ o ∧ g ≠ o) (hsb : bytes s) (hd : f.dead = false) (hl : 16384 ≤ f.b.length) (hm : m ≤ 1048576) (hcm : c ≤ m) :
    Calls Tryd.prog 29 #[.pointer (some ⟨p, 0, none⟩), .pointer (some ⟨o, 0, none⟩)] w fun e w' => ∃ q, e = .returned (.tuple #[.pointer (sel ((opB s f c m).e == 0) (some ⟨q, 0, none⟩) none), .int .i64 (opB s f c m).e]) ∧
      Sys w' p g o q r s (opB s f c m).f (opB s f c m).c m (opB s f c m).x (opB s f c m).h false ∧ w.heap.size ≤ q ∧ Kept (fun i => i = p ∨ i = g ∨ i = o) w w' := by
  have hde := dead_any p g f w h
  rw [hd] at hde
  have hsz := size_any p g f w h
  obtain ⟨z, hz⟩ : ∃ z, z = f.b.length / 256 := ⟨_, rfl⟩
  have hz64 : 64 ≤ z := by omega
  rw [← hz] at hsz
  have hb1 : Below w.heap.size w (w.alloc (.cells #[.pointer (some ⟨p, 0, none⟩), .pointer (some ⟨o, 0, none⟩), .slice none 0 0, .int .i64 0, .bool false] 132)) := (Below.refl _ w).alloc (Nat.le_refl _) _
  have hsys : Sys (w.alloc (.cells #[.pointer (some ⟨p, 0, none⟩), .pointer (some ⟨o, 0, none⟩), .slice none 0 0, .int .i64 0, .bool false] 132)) p g o w.heap.size r s f c m [] 0 false :=
    ⟨h.below hb1, ho.below hb1, ⟨none, 0, blk_new w _, ⟨rfl, fun i hi => absurd hi (Nat.not_lt_zero _)⟩, Nat.le_refl _, fun b e => by cases e⟩, fun x hx => by simp at hx, by simp⟩
  have hap : Apart p g o w.heap.size := ⟨by have := h.lt; have := blk_lt ho.1; omega⟩
  have hbg := begin_any p g o w.heap.size r s f c m _ hsys hap hsb hd hl hm hcm
  have hkk : ∀ w', Kept (All4 p g o w.heap.size) (w.alloc (.cells #[.pointer (some ⟨p, 0, none⟩), .pointer (some ⟨o, 0, none⟩), .slice none 0 0, .int .i64 0, .bool false] 132)) w' → Kept (fun i => i = p ∨ i = g ∨ i = o) w w' := fun w' k =>
    (Kept.of_below hb1).trans_new (T := fun i => i = p ∨ i = g ∨ i = o) k (fun i hi e => by rcases e with e | e | e | e <;> omega)
  have HD := Lib.hid hde
  have HZ := Lib.hid hsz
  have HBG := Lib.hid hbg
  have HKK := Lib.hid hkk
  clear h ho hde hsz hz hd hl hsys hap hbg hkk hb1 hsb hne
  obtain ⟨O, hO⟩ : ∃ O, O = opB s f c m := ⟨_, rfl⟩
  rw [← hO] at HBG ⊢
  clear hO
  by_cases he : O.e = 0
  · have hsl : sel (O.e == 0) (some (⟨w.heap.size, 0, none⟩ : Addr)) none = some ⟨w.heap.size, 0, none⟩ := by rw [he]; rfl
    have HSL := Lib.hid hsl
    have hne0 : (O.e != 0) = false := by rw [he]; rfl
    have HE := Lib.hid he
    clear hsl he
    go_enter Tryd.func29, Tryd.ntmps29
    go_wp2_with (first | (go_at_call 72; refine HD.out.mono ?_; rintro e w' ⟨rfl, rfl⟩) | (go_at_call 73; refine HZ.out.mono ?_; rintro e w' ⟨rfl, rfl⟩) | (go_at_call 81; refine HBG.out.mono ?_; rintro e w2 ⟨rfl, hs2, hk2⟩; have HS2 := Lib.hid hs2; have HK2 := Lib.hid (HKK.out _ hk2); clear hs2 hk2))
    go_ret2
    exact ⟨_, by rw [HSL.out, HE.out]; rfl, HS2.out, Nat.le_refl _, HK2.out⟩
  · have hsl : sel (O.e == 0) (some (⟨w.heap.size, 0, none⟩ : Addr)) none = none := by rw [beq_eq_false_iff_ne.2 he]; rfl
    have HSL := Lib.hid hsl
    have hne0 : (O.e != 0) = true := by rw [bne_iff_ne]; exact he
    clear hsl he
    go_enter Tryd.func29, Tryd.ntmps29
    go_wp2_with (first | (go_at_call 72; refine HD.out.mono ?_; rintro e w' ⟨rfl, rfl⟩) | (go_at_call 73; refine HZ.out.mono ?_; rintro e w' ⟨rfl, rfl⟩) | (go_at_call 81; refine HBG.out.mono ?_; rintro e w2 ⟨rfl, hs2, hk2⟩; have HS2 := Lib.hid hs2; have HK2 := Lib.hid (HKK.out _ hk2); clear hs2 hk2))
    go_ret2
    exact ⟨w.heap.size, by rw [HSL.out]; rfl, HS2.out, Nat.le_refl _, HK2.out⟩
end Go.Proofs.YtoljnogpegemjaaDoor.Bk
namespace Go.Proofs.YtoljnogpegemjaaDoor.Bk
open Go.RowKit Wr Sl Sm
set_option linter.unusedVariables false

/-! ### Numbers -/
theorem or_add64 (u x : Nat) (hu : u < 2 ^ 56) (hx : x < 256) : bits .or .u64 (IntKind.u64.wrap ((u : Int) * 256)) (IntKind.u64.wrap (x : Int)) = ((u * 256 + x : Nat) : Int) := by
  have e1 : IntKind.u64.wrap ((u : Int) * 256) = ((u * 256 : Nat) : Int) := by rw [IntKind.wrap_u64]; omega
  have e2 : IntKind.u64.wrap (x : Int) = (x : Int) := by rw [IntKind.wrap_u64]; omega
  rw [e1, e2]
  show IntKind.u64.wrap ((BitVec.ofInt 64 ((u * 256 : Nat) : Int) ||| BitVec.ofInt 64 (x : Int)).toNat : Int) = _
  have hy : x < 2 ^ 8 := hx
  rw [BitVec.ofInt_natCast, BitVec.ofInt_natCast, BitVec.toNat_or, BitVec.toNat_ofNat, BitVec.toNat_ofNat, Nat.mod_eq_of_lt (by omega), Nat.mod_eq_of_lt (by omega), show u * 256 = 2 ^ 8 * u by omega, ← Nat.two_pow_add_eq_or_of_lt hy, IntKind.wrap_u64]
  omega
/-- Eight bytes' number, by its steps. -/
theorem be64_nat (ys : List Int) (hb : bytes ys) : ∀ j, j ≤ ys.length → j ≤ 8 → ∃ u : Nat, be64 (ys.take j) = (u : Int) ∧ u < 256 ^ j ∧ ∀ k, k < 8 → k < j → u / 256 ^ (j - 1 - k) % 256 = (ys.getD k 0).toNat
  | 0, _, _ => ⟨0, rfl, by decide, fun k _ h => absurd h (Nat.not_lt_zero _)⟩
  | j + 1, hj, h8 => by
    obtain ⟨u, h1, h2, h3⟩ := be64_nat ys hb j (by omega) (by omega)
    have hx := bytes_at hb j
    obtain ⟨x, hxe⟩ : ∃ x : Nat, ys.getD j 0 = (x : Int) := ⟨(ys.getD j 0).toNat, by omega⟩
    have hx2 : x < 256 := by omega
    have hu : u < 2 ^ 56 := Nat.lt_of_lt_of_le h2 (by
      have : (256 : Nat) ^ j ≤ 256 ^ 7 := Nat.pow_le_pow_right (by decide) (by omega)
      exact Nat.le_trans this (by decide))
    refine ⟨u * 256 + x, ?_, ?_, ?_⟩
    · rw [be64_snoc ys j (by omega), h1, hxe, or_add64 u x hu hx2]
    · rw [Nat.pow_succ]; omega
    · intro k hk hkj
      by_cases e : k = j
      · subst e
        rw [show k + 1 - 1 - k = 0 by omega, Nat.pow_zero, Nat.div_one, hxe]
        omega
      · have := h3 k hk (by omega)
        rw [← this, show j + 1 - 1 - k = (j - 1 - k) + 1 by omega, Nat.pow_succ, Nat.mul_comm (256 ^ (j - 1 - k)) 256, ← Nat.div_div_eq_div_mul, show (u * 256 + x) / 256 = u by omega]
theorem be64_be8 (n : Int) (h : 0 ≤ n) (h2 : n < 2 ^ 63) (zs : List Int) : be64 ((be8 n ++ zs).take 8) = n := by
  have hb : bytes (be8 n) := be8_bytes n
  have e : (be8 n ++ zs).take 8 = be8 n := by rw [List.take_append_of_le_length (by rw [be8_len]; exact Nat.le_refl _), List.take_of_length_le (by rw [be8_len]; exact Nat.le_refl _)]
  obtain ⟨m, rfl⟩ := Int.eq_ofNat_of_zero_le h
  obtain ⟨u, h1, h3, h4⟩ := be64_nat (be8 m) hb 8 (by rw [be8_len]; omega) (by omega)
  rw [List.take_of_length_le (by rw [be8_len]; omega)] at h1
  rw [e, h1]
  have hm : m < 2 ^ 63 := by omega
  have g : ∀ k, k < 8 → u / 256 ^ (7 - k) % 256 = m / 256 ^ (7 - k) % 256 := by
    intro k hk
    have := h4 k hk hk
    rw [this]
    have e2 : (be8 (m : Int)).getD k 0 = (m : Int) / 2 ^ (8 * (7 - k)) % 256 := by simp [be8, List.getD, hk]
    rw [e2, show (256 : Nat) ^ (7 - k) = 2 ^ (8 * (7 - k)) by rw [Nat.pow_mul]]
    have : ((m : Int) / 2 ^ (8 * (7 - k)) % 256) = ((m / 2 ^ (8 * (7 - k)) % 256 : Nat) : Int) := by
      rw [Int.natCast_emod, Int.natCast_ediv, Int.natCast_pow]; rfl
    rw [this, Int.toNat_natCast]
  have g0 := g 0 (by omega)
  have g1 := g 1 (by omega)
  have g2 := g 2 (by omega)
  have g3 := g 3 (by omega)
  have g4 := g 4 (by omega)
  have g5 := g 5 (by omega)
  have g6 := g 6 (by omega)
  have g7 := g 7 (by omega)
  simp only [Nat.sub_zero, Nat.reduceSub, Nat.reducePow] at g0 g1 g2 g3 g4 g5 g6 g7
  rw [show (256 : Nat) ^ 8 = 18446744073709551616 by decide] at h3
  congr 1
  omega
theorem intV_be8 (n : Int) (h : 0 ≤ n) (h2 : n < 2 ^ 63) (zs : List Int) : intV (be8 n ++ zs) false = n := by
  unfold intV rawV
  have : rawOk (be8 n ++ zs) false 8 = true := rawOk_iff.2 ⟨rfl, by omega, by rw [List.length_append, be8_len]; omega⟩
  rw [if_pos this, show (8 : Int).toNat = 8 from rfl, be64_be8 n h h2]
  exact IntWalk.wrap64_in n ⟨by omega, by omega⟩
end Go.Proofs.YtoljnogpegemjaaDoor.Bk
namespace Go.Proofs.YtoljnogpegemjaaDoor.Bk
open Go.RowKit Wr Sl Sm
set_option linter.unusedVariables false

theorem erase_get (f : Fl) (L : Nat) (h : Calm f L) (k : Nat) (hk : 256 * (k + 1) ≤ L) : f.eraseOk (k : Int) = true ∧ ∀ i, i < L → (f.erase (k : Int)).b.getD i 0 = if 256 * k ≤ i ∧ i < 256 * (k + 1) then 255 else f.b.getD i 0 := by
  have hlt : (k : Int) < ((L / 256 : Nat) : Int) := by omega
  have hin : f.eraseIn (k : Int) = true := by
    unfold Fl.eraseIn
    rw [h.dead, h.len, decide_eq_true hlt, decide_eq_true (show (0 : Int) ≤ k by omega)]
    rfl
  have hop : f.op ≠ 0 := by rw [h.op]; decide
  refine ⟨by unfold Fl.eraseOk; rw [hin, h.goes]; rfl, fun i hi => ?_⟩
  have hb : (f.erase (k : Int)).b = upd f.b (256 * k) 256 (fun _ _ => 255) := by
    unfold Fl.erase
    rw [if_pos hin]
    simp only [Fl.opN, if_neg hop, Int.toNat_natCast]
    rfl
  rw [hb, upd_getD _ _ _ _ _ (by rw [h.len]; exact hi)]
  split
  · rw [if_pos (by omega)]
  · rw [if_neg (by omega)]
theorem wE_calm : ∀ (n k : Nat) (f : Fl) (L : Nat), Calm f L → 256 * (k + n) ≤ L → (wE n (k : Int) f).2 = true ∧ Calm (wE n (k : Int) f).1 L ∧ ∀ i, i < L → (wE n (k : Int) f).1.b.getD i 0 = if 256 * k ≤ i ∧ i < 256 * (k + n) then 255 else f.b.getD i 0
  | 0, k, f, L, h, _ => ⟨rfl, h, fun i hi => by rw [if_neg (by omega)]; rfl⟩
  | n + 1, k, f, L, h, hL => by
    obtain ⟨h1, h2⟩ := erase_get f L h k (by omega)
    obtain ⟨g1, g2, g3⟩ := wE_calm n (k + 1) (f.erase (k : Int)) L (h.erase _) (by omega)
    rw [wE, if_pos h1, show ((k : Int) + 1) = ((k + 1 : Nat) : Int) by omega]
    refine ⟨g1, g2, fun i hi => ?_⟩
    rw [g3 i hi, h2 i hi]
    by_cases e1 : 256 * (k + 1) ≤ i ∧ i < 256 * (k + 1 + n)
    · rw [if_pos e1, if_pos (by omega)]
    · rw [if_neg e1]
      by_cases e2 : 256 * k ≤ i ∧ i < 256 * (k + 1)
      · rw [if_pos e2, if_pos (by omega)]
      · rw [if_neg e2, if_neg (by omega)]
theorem and255 (x : Int) (h : 0 ≤ x ∧ x ≤ 255) : bits .and .u8 255 x = x := by
  have : ∀ n : Fin 256, bits .and .u8 255 ((n.val : Nat) : Int) = ((n.val : Nat) : Int) := by decide +kernel
  obtain ⟨m, rfl⟩ := Int.eq_ofNat_of_zero_le h.1
  exact this ⟨m, by omega⟩
theorem calm_turn {f : Fl} {L : Nat} (h : Calm f L) : f.turnOk = true ∧ Calm f.turn L ∧ f.turn.b = f.b := by
  have h1 := h.step
  unfold Fl.turnOk Fl.turn
  rw [h.dead, h.goes]
  refine ⟨rfl, ?_, ?_⟩
  · simp only [Bool.false_eq_true, if_false]
    exact ⟨by rw [Fl.step_b]; exact h.len, h1.1, h1.2⟩
  · simp only [Bool.false_eq_true, if_false]
    exact Fl.step_b _
/-- What a save leaves. -/
theorem wB_calm (s : List Int) (f : Fl) (L c t : Nat) (y : List Int) (h : Calm f L) (hL : 16384 ≤ L) (ht : t < 2) (hy : y.length ≤ 4096) (hb : bytes y) :
    (wB s f c t y).ok = true ∧ (wB s f c t y).c = c + 1 ∧ Calm (wB s f c t y).f L ∧ ∀ i, i < L → (wB s f c t y).f.b.getD i 0 =
      if 8192 * t ≤ i ∧ i < 8192 * t + (52 + y.length) then (recd s (c + 1) y).getD (i - 8192 * t) 0 else if 8192 * t ≤ i ∧ i < 8192 * t + 256 * secs (52 + y.length) then 255 else f.b.getD i 0 := by
  have hs17 : secs (52 + y.length) ≤ 17 := by unfold secs; omega
  have hsn : 52 + y.length ≤ 256 * secs (52 + y.length) := by unfold secs; omega
  obtain ⟨g1, g2, g3⟩ := wE_calm (secs (52 + y.length)) (32 * t) f L h (by omega)
  have hrl := recd_len s ((c : Int) + 1) y
  have hrb := recd_bytes s ((c : Int) + 1) y hb
  unfold wB
  generalize hE : wE (secs (52 + y.length)) ((32 * t : Nat) : Int) f = E at g1 g2 g3
  obtain ⟨e, b⟩ := E
  simp only at g1 g2 g3
  subst g1
  generalize hR : recd s ((c : Int) + 1) y = R at hrl hrb
  have hin : inB L ((8192 * t : Nat) : Int) ((52 + y.length : Nat) : Int) = true := by rw [inB_iff]; omega
  have hpo : e.progOk ((8192 * t : Nat) : Int) (R.length : Int) = true := by rw [g2.progOk, hrl]; exact hin
  have hpi : e.progIn ((8192 * t : Nat) : Int) (R.length : Int) = true := by unfold Fl.progIn; rw [g2.dead, g2.len, hrl, hin]; rfl
  have hop : e.op ≠ 0 := by rw [g2.op]; decide
  have hpb : (e.prog ((8192 * t : Nat) : Int) R).b = upd e.b (8192 * t) (52 + y.length) (andB R) := by
    unfold Fl.prog
    rw [if_pos hpi]
    simp only [Fl.opN, if_neg hop, Int.toNat_natCast, hrl]
  obtain ⟨k1, k2, k3⟩ := calm_turn (g2.prog ((8192 * t : Nat) : Int) R)
  have hF : wF (e, true) (8192 * t) R c = ⟨(e.prog ((8192 * t : Nat) : Int) R).turn, c + 1, true⟩ := by
    unfold wF
    simp only [if_true]
    rw [hpo]
    simp only [if_true]
    rw [k1]
    rfl
  rw [hF]
  refine ⟨rfl, rfl, k2, fun i hi => ?_⟩
  simp only
  rw [k3, hpb, upd_getD _ _ _ _ _ (by rw [g2.len]; exact hi), g3 i hi]
  by_cases e1 : 8192 * t ≤ i ∧ i < 8192 * t + (52 + y.length)
  · rw [if_pos e1, if_pos e1, if_pos (by omega)]
    unfold andB
    exact and255 _ (bytes_at hrb _)
  · rw [if_neg e1, if_neg e1]
    by_cases e2 : 8192 * t ≤ i ∧ i < 8192 * t + 256 * secs (52 + y.length)
    · rw [if_pos e2, if_pos (by omega)]
    · rw [if_neg e2, if_neg (by omega)]
theorem bb_get (f : Fl) (L k : Nat) (h : f.b.length = L) (hk : 8192 * k + 4148 ≤ L) (i : Nat) (hi : i < 4148) : (bb f k).getD i 0 = f.b.getD (8192 * k + i) 0 := by
  unfold bb Fl.read
  simp only [Int.toNat_natCast, show (4148 : Int).toNat = 4148 from rfl, List.getD, List.getElem?_take, hi, if_true, List.getElem?_drop]
theorem bb_len (f : Fl) (k : Nat) (hk : 8192 * k + 4148 ≤ f.b.length) : (bb f k).length = 4148 := by
  unfold bb Fl.read
  simp only [Int.toNat_natCast, show (4148 : Int).toNat = 4148 from rfl, List.length_take, List.length_drop]
  omega
theorem ext_getD {xs ys : List Int} (hl : xs.length = ys.length) (h : ∀ i, i < xs.length → xs.getD i 0 = ys.getD i 0) : xs = ys := by
  apply List.ext_getElem hl
  intro i h1 h2
  have := h i h1
  simpa [List.getD, h1, h2] using this
theorem bb_other (s : List Int) (f : Fl) (L c t k : Nat) (y : List Int) (h : Calm f L) (hL : 16384 ≤ L) (ht : t < 2) (hk : k < 2) (hne : k ≠ t) (hy : y.length ≤ 4096) (hb : bytes y) : bb (wB s f c t y).f k = bb f k := by
  obtain ⟨-, -, h3, h4⟩ := wB_calm s f L c t y h hL ht hy hb
  have hs17 : secs (52 + y.length) ≤ 17 := by unfold secs; omega
  have l1 := bb_len (wB s f c t y).f k (by rw [h3.len]; omega)
  have l2 := bb_len f k (by rw [h.len]; omega)
  refine ext_getD (by rw [l1, l2]) fun i hi => ?_
  rw [l1] at hi
  rw [bb_get _ L k h3.len (by omega) i hi, bb_get _ L k h.len (by omega) i hi, h4 _ (by omega), if_neg (by omega), if_neg (by omega)]
theorem hok_of (s b : List Int) (n : Int) (y : List Int) (h0 : 0 ≤ n) (h1 : n < 2 ^ 63) (hy : y.length ≤ 4096) (h : b.take (52 + y.length) = recd s n y) : hok s b = true ∧ hn b = n ∧ hx b = y := by
  obtain ⟨zs, hzs⟩ : ∃ zs, b = recd s n y ++ zs := ⟨b.drop (52 + y.length), by rw [← h, List.take_append_drop]⟩
  have e0 : b = mk ++ (be8 n ++ (be8 (y.length : Int) ++ (y ++ (mac (mac s nm) (body n y) ++ zs)))) := by
    rw [hzs, recd, body, packL]
    simp only [List.flatMap_cons, List.flatMap_nil, List.append_nil, List.append_assoc]
  have e4 : b.drop 4 = be8 n ++ (be8 (y.length : Int) ++ (y ++ (mac (mac s nm) (body n y) ++ zs))) := by rw [e0]; exact List.drop_left' rfl
  have e12 : b.drop 12 = be8 (y.length : Int) ++ (y ++ (mac (mac s nm) (body n y) ++ zs)) := by
    rw [show (12 : Nat) = 4 + 8 from rfl, ← List.drop_drop, e4]
    exact List.drop_left' (be8_len n)
  have e20 : b.drop 20 = y ++ (mac (mac s nm) (body n y) ++ zs) := by
    rw [show (20 : Nat) = 12 + 8 from rfl, ← List.drop_drop, e12]
    exact List.drop_left' (be8_len _)
  have n1 : hn b = n := by unfold hn; rw [e4]; exact intV_be8 n h0 h1 _
  have n2 : hz b = (y.length : Int) := by unfold Bk.hz; rw [e12]; exact intV_be8 _ (by omega) (by omega) _
  have n3 : hx b = y := by unfold hx; rw [n2, e20, Int.toNat_natCast]; exact List.take_left' rfl
  refine ⟨?_, n1, n3⟩
  unfold hok
  rw [Bool.and_eq_true, hin_iff, n1, n2, n3, Int.toNat_natCast, h, decide_eq_true rfl]
  exact ⟨⟨h0, by omega, by omega⟩, rfl⟩
theorem bb_new (s : List Int) (f : Fl) (L c t : Nat) (y : List Int) (h : Calm f L) (hL : 16384 ≤ L) (ht : t < 2) (hy : y.length ≤ 4096) (hb : bytes y) (hc : c ≤ 1048576) :
    hok s (bb (wB s f c t y).f t) = true ∧ hn (bb (wB s f c t y).f t) = ((c + 1 : Nat) : Int) ∧ hx (bb (wB s f c t y).f t) = y := by
  obtain ⟨-, -, h3, h4⟩ := wB_calm s f L c t y h hL ht hy hb
  have l1 := bb_len (wB s f c t y).f t (by rw [h3.len]; omega)
  refine hok_of s _ _ y (by omega) (by omega) hy ?_
  refine ext_getD (by rw [List.length_take, l1, recd_len]; omega) fun i hi => ?_
  rw [List.length_take, l1] at hi
  have e1 : ((bb (wB s f c t y).f t).take (52 + y.length)).getD i 0 = (bb (wB s f c t y).f t).getD i 0 := by
    simp only [List.getD, List.getElem?_take, show i < 52 + y.length by omega, if_true]
  rw [e1, bb_get _ L t h3.len (by omega) i (by omega), h4 _ (by omega), if_pos (by omega), show 8192 * t + i - 8192 * t = i by omega]
  rfl

/-- Half h has what is kept, bound to c; the other half nothing of that number or above. -/
structure Gd (s : List Int) (f : Fl) (c h : Nat) (x : List Int) : Prop where
  lt : h < 2
  other : ∀ k, k < 2 → k ≠ h → hok s (bb f k) = true → hn (bb f k) < c
  zero : c = 0 → hok s (bb f h) = false ∧ x = [] ∧ h = 1
  kept : c ≠ 0 → hok s (bb f h) = true ∧ hn (bb f h) = c ∧ hx (bb f h) = x
  xs : bytes x ∧ x.length ≤ 4096
theorem Gd.next {s : List Int} {f : Fl} {c h : Nat} {x : List Int} (g : Gd s f c h x) : ∀ k, k < 2 → ∀ n : Int, (c : Int) < n → isN s f k n = false := by
  intro k hk n hn
  unfold isN
  rw [Bool.and_eq_false_iff]
  by_cases hok' : hok s (bb f k) = true
  · right
    rw [decide_eq_false_iff_not]
    by_cases e : k = h
    · subst e
      rcases Nat.eq_zero_or_pos c with h0 | h0
      · rw [(g.zero h0).1] at hok'; cases hok'
      · have := (g.kept (by omega)).2.1; omega
    · have := g.other k hk e hok'; omega
  · exact .inl (by simpa using hok')
theorem Gd.nope {s : List Int} {f : Fl} {c h : Nat} {x : List Int} (g : Gd s f c h x) : fnd s f ((c + 1 : Nat) : Int) = none := by
  unfold fnd
  rw [g.next 0 (by omega) _ (by omega), g.next 1 (by omega) _ (by omega)]
  rfl
theorem Gd.here {s : List Int} {f : Fl} {c h : Nat} {x : List Int} (g : Gd s f c h x) (hc : c ≠ 0) : fnd s f (c : Int) = some h := by
  obtain ⟨h1, h2, h3⟩ := g.kept hc
  have e1 : isN s f h (c : Int) = true := by unfold isN; rw [h1, h2, decide_eq_true rfl]; rfl
  have hl := g.lt
  unfold fnd
  rcases (by omega : h = 0 ∨ h = 1) with rfl | rfl
  · rw [if_pos e1]
  · have e2 : isN s f 0 (c : Int) = false := by
      unfold isN
      rw [Bool.and_eq_false_iff]
      by_cases hok' : hok s (bb f 0) = true
      · right
        rw [decide_eq_false_iff_not]
        have := g.other 0 (by omega) (by omega) hok'
        omega
      · exact .inl (by simpa using hok')
    rw [e2, if_pos e1]
    rfl
theorem Gd.zero' {s : List Int} {f : Fl} {h : Nat} {x : List Int} (g : Gd s f 0 h x) : fnd s f ((0 : Nat) : Int) = none := by
  have h0 := g.zero rfl
  unfold fnd isN
  have e1 : hok s (bb f 1) = false := by have := h0.1; rw [h0.2.2] at this; exact this
  have e0 : ∀ n : Int, n = 0 → (hok s (bb f 0) && decide (hn (bb f 0) = n)) = false := by
    rintro n rfl
    rw [Bool.and_eq_false_iff]
    by_cases hok' : hok s (bb f 0) = true
    · right
      rw [decide_eq_false_iff_not]
      have := g.other 0 (by omega) (by rw [h0.2.2]; omega) hok'
      omega
    · exact .inl (by simpa using hok')
  rw [e0 ((0 : Nat) : Int) rfl, e1]
  rfl
theorem Gd.kh {s : List Int} {f : Fl} {c h : Nat} {x : List Int} (g : Gd s f c h x) : Bk.kh s f c = h ∧ kx s f c = x := by
  rcases Nat.eq_zero_or_pos c with h0 | h0
  · subst h0
    unfold Bk.kh kx fx
    rw [g.zero']
    exact ⟨(g.zero rfl).2.2.symm, (g.zero rfl).2.1.symm⟩
  · unfold Bk.kh kx fx
    rw [g.here (by omega)]
    exact ⟨rfl, (g.kept (by omega)).2.2⟩
/-- A save. -/
theorem Gd.save {s : List Int} {f : Fl} {c h L : Nat} {x : List Int} (g : Gd s f c h x) (hc : Calm f L) (hL : 16384 ≤ L) (hcm : c ≤ 1048576) (y : List Int) (hy : y.length ≤ 4096) (hb : bytes y) :
    (wB s f c (1 - h) y).ok = true ∧ (wB s f c (1 - h) y).c = c + 1 ∧ Calm (wB s f c (1 - h) y).f L ∧ Gd s (wB s f c (1 - h) y).f (c + 1) (1 - h) y := by
  have hl := g.lt
  obtain ⟨h1, h2, h3, -⟩ := wB_calm s f L c (1 - h) y hc hL (by omega) hy hb
  refine ⟨h1, h2, h3, by omega, fun k hk hne hok' => ?_, fun e => by omega, fun _ => bb_new s f L c (1 - h) y hc hL (by omega) hy hb hcm, hb, hy⟩
  obtain rfl : k = h := by omega
  rw [bb_other s f L c (1 - k) k y hc hL (by omega) hk (by omega) hy hb] at hok' ⊢
  rcases Nat.eq_zero_or_pos c with h0 | h0
  · rw [(g.zero h0).1] at hok'; cases hok'
  · rw [(g.kept (by omega)).2.1]; omega
/-- An opening. -/
theorem Gd.opens {s : List Int} {f : Fl} {c h L m : Nat} {x : List Int} (g : Gd s f c h x) (hc : Calm f L) (hL : 16384 ≤ L) (hm : m ≤ 1048576) (hcm : c ≤ m) :
    (opB s f c m).e = 0 ∧ (opB s f c m).x = x ∧ Calm (opB s f c m).f L ∧ (opB s f c m).c = (if c = m then c else c + 1) ∧ ∃ t : Nat, t < 2 ∧ (opB s f c m).h = 1 - (t : Int) ∧ Gd s (opB s f c m).f (opB s f c m).c (1 - t) x := by
  have hl := g.lt
  have hn := g.nope
  obtain ⟨k1, k2⟩ := g.kh
  unfold opB
  rw [if_neg (by rw [hn]; simp)]
  have h2 : ¬ ((fnd s f (c : Int)).isSome = false ∧ c ≠ 0) := by
    rintro ⟨e1, e2⟩
    rw [g.here e2] at e1
    cases e1
  rw [if_neg h2, k1, k2]
  by_cases e : c = m
  · rw [if_pos e, if_pos e]
    exact ⟨rfl, rfl, hc, rfl, 1 - h, by omega, by show (h : Int) = 1 - ((1 - h : Nat) : Int); omega, by show Gd s f c (1 - (1 - h)) x; rw [show 1 - (1 - h) = h by omega]; exact g⟩
  · rw [if_neg e, if_neg e]
    obtain ⟨s1, s2, s3, s4⟩ := g.save hc hL (by omega) x g.xs.2 g.xs.1
    refine ⟨?_, rfl, s3, s2, h, hl, ?_, ?_⟩
    · show sel _ (0 : Int) 8 = 0
      rw [s1]; rfl
    · show sel _ (1 - (h : Int)) (h : Int) = _
      rw [s1]; rfl
    · show Gd s _ (wB s f c (1 - h) x).c (1 - h) x
      rw [s2]; exact s4
theorem new_calm : Calm (Fl.new 64) 16384 := Calm.new 64 16384 rfl
theorem new_gd (s : List Int) : Gd s (Fl.new 64) 0 1 [] := by
  have hbb : ∀ k, k < 2 → bb (Fl.new 64) k = List.replicate 4148 255 := by
    intro k hk
    unfold bb Fl.read
    simp only [Int.toNat_natCast, show (4148 : Int).toNat = 4148 from rfl]
    show ((List.replicate 16384 (255 : Int)).drop (8192 * k)).take 4148 = _
    rw [List.drop_replicate, List.take_replicate]
    congr 1
    omega
  have hneg : hn (List.replicate 4148 255) = -1 := by decide +kernel
  have hno : ∀ k, k < 2 → hok s (bb (Fl.new 64) k) = false := by
    intro k hk
    rw [hbb k hk]
    unfold hok hin
    rw [hneg]
    rfl
  exact ⟨by omega, fun k hk _ h => (by rw [hno k hk] at h; cases h), fun _ => ⟨hno 1 (by omega), rfl, rfl⟩, fun h => absurd rfl h, fun x hx => by simp at hx, by simp⟩
end Go.Proofs.YtoljnogpegemjaaDoor.Bk
namespace Go.Proofs.YtoljnogpegemjaaDoor.Bk
open Go.RowKit Wr Sl Sm
set_option linter.unusedSimpArgs false
set_option linter.unusedVariables false

/-- A bank on a calm flash, all told: half k keeps the bytes x. -/
structure St (w : World) (p g o q : Nat) (r s : List Int) (f : Fl) (c m : Nat) (x : List Int) (k : Nat) : Prop where
  sys : Sys w p g o q r s f c m x (k : Int) false
  calm : Calm f 16384
  gd : Gd s f c k x
  ap : Apart p g o q
  sb : bytes s
  cm : c ≤ m ∧ m ≤ 1048576
theorem St.below {w w' : World} {p g o q : Nat} {r s : List Int} {f : Fl} {c m : Nat} {x : List Int} {k : Nat} (h : St w p g o q r s f c m x k) (b : Below w.heap.size w w') : St w' p g o q r s f c m x k := ⟨h.sys.below b, h.calm, h.gd, h.ap, h.sb, h.cm⟩
theorem St.drewN {w : World} {p g o q : Nat} {r s : List Int} {f : Fl} {c m : Nat} {x : List Int} {k : Nat} (h : St w p g o q r s f c m x k) (n : Nat) : St (w.drewN n) p g o q r s f c m x k := ⟨h.sys.drewN n, h.calm, h.gd, h.ap, h.sb, h.cm⟩

theorem open_st (p g o : Nat) (r s : List Int) (f : Fl) (c m h : Nat) (x : List Int) (w : World) (hf : IsFl w p g f) (ho : IsOtp w o (.pointer (some ⟨p, 0, none⟩)) r s c m) (hne : p ≠ g ∧ p ≠ o ∧ g ≠ o) (hsb : bytes s) (hc : Calm f 16384) (hg : Gd s f c h x) (hm : m ≤ 1048576) (hcm : c ≤ m) :
    Calls Tryd.prog 29 #[.pointer (some ⟨p, 0, none⟩), .pointer (some ⟨o, 0, none⟩)] w fun e w' => ∃ q f' k, e = .returned (.tuple #[.pointer (some ⟨q, 0, none⟩), .int .i64 0]) ∧
      St w' p g o q r s f' (sel (decide (c = m)) c (c + 1)) m x k ∧ w.heap.size ≤ q ∧ Kept (fun i => i = p ∨ i = g ∨ i = o) w w' := by
  obtain ⟨h1, h2, h3, h4, t, h5, h6, h7⟩ := hg.opens hc (by omega) hm hcm
  refine (open_on p g o r s f c m w hf ho hne hsb hc.dead (by rw [hc.len]; omega) hm hcm).mono ?_
  rintro e w' ⟨q, rfl, hs, hq, hk⟩
  have e1 : (opB s f c m).c = sel (decide (c = m)) c (c + 1) := by rw [h4]; unfold sel; by_cases e : c = m <;> simp [e]
  have hlt := hf.lt
  have hlo := blk_lt ho.1
  rw [h2, e1, h6] at hs
  rw [e1] at h7
  rw [h1]
  refine ⟨q, (opB s f c m).f, 1 - t, rfl, ⟨by rw [show ((1 - t : Nat) : Int) = 1 - (t : Int) by omega]; exact hs, h3, h7, ⟨by omega⟩, hsb, ?_, hm⟩, hq, hk⟩
  unfold sel
  by_cases e : c = m
  · rw [decide_eq_true e]; exact hcm
  · rw [decide_eq_false e]; show c + 1 ≤ m; omega
theorem save_st (p g o q : Nat) (r s : List Int) (f : Fl) (c m k : Nat) (x : List Int) (sx : Option Addr) (n cx : Nat) (y : List Int) (w : World) (h : St w p g o q r s f c m x k) (hc : c < m) (hy : Src w sx n y) (hfy : far sx n p g o q) (hyb : bytes y) (hn : n ≤ 4096) (hnc : n ≤ cx) :
    Calls Tryd.prog 31 #[.pointer (some ⟨q, 0, none⟩), .slice sx n cx] w fun e w' => e = .returned (.int .i64 0) ∧ (∃ f', St w' p g o q r s f' (c + 1) m y (1 - k)) ∧ Kept (All4 p g o q) w w' := by
  have hk := h.gd.lt
  have hm := h.cm.2
  have hyl := hy.len
  obtain ⟨s1, s2, s3, s4⟩ := h.gd.save h.calm (by omega) (by omega) y (by omega) hyb
  have hs := h.sys
  rw [show (k : Int) = 1 - ((1 - k : Nat) : Int) by omega] at hs
  refine (save_go p g o q r s f c m (1 - k) x sx n cx y w hs h.ap (by omega) hc hm h.sb hy hfy hyb hn hnc h.calm.dead).mono ?_
  rintro e w' ⟨rfl, hs', hk'⟩
  rw [s1, s2] at hs'
  rw [s1]
  exact ⟨rfl, ⟨_, hs', s3, s4, h.ap, h.sb, by omega, hm⟩, hk'⟩
theorem num21_any (n : Int) (w : World) : Calls Tryd.prog 22 #[.int .i64 n] w fun e w' => e = .returned (.int .i64 n) ∧ w = w' := by
  go_enter Tryd.func22, Tryd.ntmps22
  go_wp2
  go_ret
  exact ⟨rfl, rfl⟩

theorem build_no (w : World) : (Instr.build 23 #[]).run Tryd.prog w = .ok (.agg (arr .u8 (List.replicate 32 0))) w := by kernel_rfl
theorem conv_x (w : World) : (convert 24 24 (.slice (some ⟨w.heap.size, 0, none⟩) 1 1)).run Tryd.prog (w.alloc (.cells #[.int .u8 120] 5)) = .ok (.slice (some ⟨w.heap.size, 0, none⟩) 1 1) (w.alloc (.cells #[.int .u8 120] 5 (1, 2))) :=
  Lib.run_convert_bytes_const w 24 5 #[.int .u8 120] 1 1 Tryd.underlying24 Tryd.underlying5
theorem str_x : strOfNums [120] = ⟨#[120]⟩ := by decide +kernel
theorem str_xx : ((⟨#[120]⟩ : ByteArray).toList == (⟨#[120]⟩ : ByteArray).toList) = true := by decide +kernel

set_option maxRecDepth 100000 in
set_option maxHeartbeats 4000000 in
theorem alive21_any (w : World) : Calls Tryd.prog 20 #[] w fun e w' => e = .returned (.bool true) ∧ Below w.heap.size w w' := by
  have hnew := fun w => new_any 64 w
  have hcm0 := new_calm
  obtain ⟨r, hr⟩ : ∃ r, r = List.replicate 32 (0 : Int) := ⟨_, rfl⟩
  obtain ⟨s, hs⟩ : ∃ s, s = one 1 := ⟨_, rfl⟩
  have hrl : r.length = 32 := by rw [hr]; simp
  have hsl : s.length = 32 := by rw [hs]; exact one_len 1
  have hsb : bytes s := by
    rw [hs]
    intro x hx
    simp only [one, List.mem_cons, List.mem_replicate] at hx
    omega
  have hgd := new_gd s
  have hb0 := fun w => build_no w
  have hb1 := fun w => build_one 1 w
  rw [← hr] at hb0
  rw [← hs] at hb1
  obtain ⟨f0, hf0⟩ : ∃ f, f = Fl.new 64 := ⟨_, rfl⟩
  rw [← hf0] at hnew hcm0 hgd
  have hno := fun (a : Option Addr) w => onew_any a r s hrl hsl 9 w
  have HNEW := Lib.hid hnew
  have HNO := Lib.hid hno
  have HC0 := Lib.hid hcm0
  have HGD := Lib.hid hgd
  have HSB := Lib.hid hsb
  have HB0 := Lib.hid hb0
  have HB1 := Lib.hid hb1
  clear hnew hno hcm0 hgd hsb hr hs hrl hsl hf0 hb0 hb1
  go_enter Tryd.func20, Tryd.ntmps20
  go_upto_region 2 with (go_at_call 43; refine (HNEW.out _).mono ?_; rintro e w1 ⟨p, g, rfl, hf1, hp, hg, hb1⟩; have HF1 := Lib.hid hf1; have HPG := Lib.hid (And.intro hp hg); have HW1 := Lib.hid hb1; clear hf1 hp hg hb1)
  go_upto_region 3 with (first | ((with_reducible show wpList _ _ _ (Oper.mk (some 10) _ _ _ _ _ :: _) _ _); refine wpList_build (by rfl) 23 _ rfl #[] rfl _ (HB0.out _) ?_) | ((with_reducible show wpList _ _ _ (Oper.mk (some 11) _ _ _ _ _ :: _) _ _); refine wpList_build (by rfl) 23 _ rfl #[(0, .int .u8 1)] rfl _ (HB1.out _) ?_) | (go_at_call 66; refine (HNO.out _ _).mono ?_; rintro e w2 ⟨o, rfl, ho2, hq2, hb2⟩; have HO2 : Hid (IsOtp w2 o (.pointer (some ⟨p, 0, none⟩)) r s ((0 : Nat) : Int) ((9 : Nat) : Int)) := Lib.hid ho2; have HF2 := Lib.hid (HF1.out.below hb2); have HQ2 := Lib.hid hq2; have HW2 := Lib.hid (HW1.out.trans (hb2.mono HW1.out.size)); have HZ2 := Lib.hid hb2.size; clear ho2 hq2 hb2))
  have hne : p ≠ g ∧ p ≠ o ∧ g ≠ o := by
    have h1 := HF1.out.ne
    have h2 := HF1.out.lt
    have h3 := HQ2.out
    omega
  have HNE := Lib.hid hne
  have HLO : Hid (w.heap.size ≤ p ∧ w.heap.size ≤ g ∧ w.heap.size ≤ o) := Lib.hid (by have := HPG.out; have := HQ2.out; have := HW1.out.size; omega)
  clear hne HNO HNEW HB0 HB1
  go_upto_region 4 with (go_at_call 29; refine (open_st p g o r s f0 0 9 1 [] _ HF2.out HO2.out HNE.out HSB.out HC0.out HGD.out (by decide) (by decide)).mono ?_; rintro e w3 ⟨q, f1, k, rfl, hst, hq3, hk3⟩; have HS3 : Hid (St w3 p g o q r s f1 1 9 [] k) := Lib.hid hst; have HW3 := Lib.hid (HW2.out.trans (hk3.toBelow HW2.out.size (by have := HLO.out; rintro i (rfl | rfl | rfl) <;> omega))); have HQ3 : Hid (w.heap.size ≤ q) := Lib.hid (Nat.le_trans HW2.out.size hq3); clear hst hq3 hk3)
  clear HF1 HPG HW1 HO2 HF2 HQ2 HW2 HZ2 HC0 HGD
  go_upto_region 6 with (first | (go_at_call 22; refine (num21_any _ _).mono ?_; rintro e w' ⟨rfl, rfl⟩) | (go_at_call 67; refine (ocount_any o _ r s _ _ _ HS3.out.sys.ot).mono ?_; rintro e w' ⟨rfl, rfl⟩))
  have kc := conv_x w3
  have HB4 : Hid (Below w3.heap.size w3 (w3.alloc (.cells #[.int .u8 120] 5 (1, 2)))) := Lib.hid ((Below.refl _ w3).alloc (Nat.le_refl _) _)
  have HS4 := Lib.hid (HS3.out.below HB4.out)
  have HY4 : Hid (Src (w3.alloc (.cells #[.int .u8 120] 5 (1, 2))) (some ⟨w3.heap.size, 0, none⟩) 1 [120]) := Lib.hid (src_row (blk_new w3 _) rfl rfl)
  have HF4 : Hid (far (some ⟨w3.heap.size, 0, none⟩) 1 p g o q) := Lib.hid (fun b e => by cases e; have := HS3.out.sys.lt; exact .inr (by show w3.heap.size ≠ p ∧ w3.heap.size ≠ g ∧ w3.heap.size ≠ o ∧ w3.heap.size ≠ q; omega))
  have HW4 := Lib.hid (HW3.out.trans (HB4.out.mono HW3.out.size))
  go_upto_region 7 with (go_at_call 31; refine (save_st p g o q r s f1 1 9 k [] _ 1 1 [120] _ HS4.out (by decide) HY4.out HF4.out (by intro x hx; simp only [List.mem_cons, List.not_mem_nil, or_false] at hx; omega) (by decide) (by decide)).mono ?_; rintro e w5 ⟨rfl, ⟨f2, hs5⟩, hk5⟩; have HS5 : Hid (St w5 p g o q r s f2 2 9 [120] (1 - k)) := Lib.hid hs5; have HW5 := Lib.hid (HW4.out.trans (hk5.toBelow HW4.out.size (by have := HLO.out; have := HQ3.out; rintro i (rfl | rfl | rfl | rfl) <;> omega))); clear hs5 hk5)
  clear kc HB4 HS4 HY4 HF4 HW4 HW3 HS3
  go_upto_region 8 with (go_at_call 29; refine (open_st p g o r s f2 2 9 (1 - k) [120] _ HS5.out.sys.fl HS5.out.sys.ot HNE.out HSB.out HS5.out.calm HS5.out.gd (by decide) (by decide)).mono ?_; rintro e w6 ⟨q2, f3, k2, rfl, hst, hq6, hk6⟩; have HS6 : Hid (St w6 p g o q2 r s f3 3 9 [120] k2) := Lib.hid hst; have HW6 := Lib.hid (HW5.out.trans (hk6.toBelow HW5.out.size (by have := HLO.out; rintro i (rfl | rfl | rfl) <;> omega))); clear hst hq6 hk6)
  clear HS5 HW5
  have hxx := str_xx
  go_wp2_with (first | (go_at_call 22; refine (num21_any _ _).mono ?_; rintro e w' ⟨rfl, rfl⟩) | (go_at_call 33; refine (load_any p g o q2 r s f3 3 9 [120] _ _ _ HS6.out.sys).mono ?_; rintro e w7 ⟨v7, rfl, ho7, hb7⟩; have c7 := ho7.str; rw [str_x] at c7; have HS7 := Lib.hid (HS6.out.below hb7); have HW7 := Lib.hid (HW6.out.trans (hb7.mono HW6.out.size)); clear ho7 hb7) | (go_at_call 67; refine (ocount_any o _ r s _ _ _ HS7.out.sys.ot).mono ?_; rintro e w' ⟨rfl, rfl⟩))
  go_ret
  exact ⟨rfl, HW7.out⟩
end Go.Proofs.YtoljnogpegemjaaDoor.Bk
