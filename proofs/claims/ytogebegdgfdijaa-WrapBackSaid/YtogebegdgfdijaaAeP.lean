/- What is sealed, in plain words. No program here; no condition. -/
import Derived.Test.YtogebegdgfdijaaChG
import Derived.Test.YtogebegdgfdijaaPa
namespace Go.Proofs.Ytogebegdgfdijaa.Ae
open Go.RowKit Lm Po Ch

/-- How many zeros follow so many bytes. -/
def zr (n : Nat) : Nat := (16 - n % 16) % 16
def le8 (n : Nat) : List Int := nar (dig 256 8 n)
/-- What the tag is summed over. -/
def msg (beside c : List Int) : List Int := beside ++ (List.replicate (zr beside.length) 0 ++ (c ++ (List.replicate (zr c.length) 0 ++ (le8 beside.length ++ le8 c.length))))
def toN (xs : List Int) : List Nat := xs.map Int.toNat
def tag (key nonce c beside : List Int) : List Int := nar (tagP (toN ((block key 0 nonce).take 32)) (toN (msg beside c)))
def seal' (key nonce plain beside : List Int) : List Int := turn key 1 nonce plain ++ tag key nonce (turn key 1 nonce plain) beside
def okay (key nonce b beside : List Int) : Bool := decide (16 ≤ b.length ∧ tag key nonce (b.take (b.length - 16)) beside = b.drop (b.length - 16))
def opened (key nonce b beside : List Int) : List Int := if okay key nonce b beside then turn key 1 nonce (b.take (b.length - 16)) else []
theorem toN_nar {xs : List Int} (h : bytes xs) : nar (toN xs) = xs := nar_of xs (fun x hx => (h x hx).1)
theorem toN_lt {xs : List Int} (h : bytes xs) : ∀ x ∈ toN xs, x < 256 := by
  intro x hx
  obtain ⟨y, hy, rfl⟩ := List.mem_map.1 hx
  have := h y hy
  omega
theorem toN_len (xs : List Int) : (toN xs).length = xs.length := by simp [toN]
theorem tag_len (key nonce c beside : List Int) : (tag key nonce c beside).length = 16 := by rw [tag, nar_len, tagP, dig_len]
theorem bytes_nar {xs : List Nat} (h : ∀ x ∈ xs, x < 256) : bytes (nar xs) := by
  intro x hx
  obtain ⟨y, hy, rfl⟩ := List.mem_map.1 hx
  have := h y hy
  show 0 ≤ (y : Int) ∧ (y : Int) ≤ 255
  omega
theorem bytes_tag (key nonce c beside : List Int) : bytes (tag key nonce c beside) := bytes_nar (dig_lt 256 (by decide) _ _)
theorem bytes_le8 (n : Nat) : bytes (le8 n) := bytes_nar (dig_lt 256 (by decide) _ _)
theorem le8_len (n : Nat) : (le8 n).length = 8 := by rw [le8, nar_len, dig_len]
theorem bytes_zeros (n : Nat) : bytes (List.replicate n 0) := by
  intro x hx
  rw [List.mem_replicate] at hx
  omega
theorem bytes_append {xs ys : List Int} (h : bytes xs) (k : bytes ys) : bytes (xs ++ ys) := by
  intro x hx
  rcases List.mem_append.1 hx with hx | hx
  · exact h x hx
  · exact k x hx
theorem bytes_take {xs : List Int} (h : bytes xs) (n : Nat) : bytes (xs.take n) := fun x hx => h x (List.mem_of_mem_take hx)
theorem bytes_drop {xs : List Int} (h : bytes xs) (n : Nat) : bytes (xs.drop n) := fun x hx => h x (List.mem_of_mem_drop hx)
theorem bytes_block (key : List Int) (c : Int) (nonce : List Int) : bytes (block key c nonce) := by
  intro x hx
  obtain ⟨i, _, rfl⟩ := List.mem_map.1 hx
  omega
theorem bytes_msg {beside c : List Int} (h : bytes beside) (k : bytes c) : bytes (msg beside c) :=
  bytes_append h (bytes_append (bytes_zeros _) (bytes_append k (bytes_append (bytes_zeros _) (bytes_append (bytes_le8 _) (bytes_le8 _)))))
theorem msg_len (beside c : List Int) : (msg beside c).length ≤ beside.length + c.length + 46 := by
  simp only [msg, List.length_append, List.length_replicate, le8_len]
  have h1 : zr beside.length < 16 := Nat.mod_lt _ (by decide)
  have h2 : zr c.length < 16 := Nat.mod_lt _ (by decide)
  omega
theorem xor_byte (x y : Int) : 0 ≤ bits .xor .u8 x y ∧ bits .xor .u8 x y ≤ 255 := by
  unfold bits
  simp only
  show 0 ≤ IntKind.u8.wrap _ ∧ IntKind.u8.wrap _ ≤ 255
  rw [IntKind.wrap_u8]
  omega
theorem bytes_turn (key : List Int) (c : Int) (nonce b : List Int) : bytes (turn key c nonce b) := by
  intro x hx
  obtain ⟨i, h, rfl⟩ := List.mem_mapIdx.1 hx
  exact xor_byte _ _
theorem xor8 (x y : Int) (h : 0 ≤ x ∧ x ≤ 255) (k : 0 ≤ y ∧ y ≤ 255) : bits .xor .u8 (bits .xor .u8 x y) y = x := by
  obtain ⟨a, rfl⟩ : ∃ a : Nat, x = a := ⟨x.toNat, by omega⟩
  obtain ⟨b, rfl⟩ : ∃ b : Nat, y = b := ⟨y.toNat, by omega⟩
  have ha : a < 2 ^ 8 := by omega
  have hb : b < 2 ^ 8 := by omega
  have e : ∀ a b : Nat, a < 2 ^ 8 → b < 2 ^ 8 → bits .xor .u8 (a : Int) (b : Int) = ((a ^^^ b : Nat) : Int) := by
    intro a b ha hb
    have h1 : (BitVec.ofInt 8 (a : Int)).toNat = a := by rw [BitVec.ofInt_natCast, BitVec.toNat_ofNat]; exact Nat.mod_eq_of_lt ha
    have h2 : (BitVec.ofInt 8 (b : Int)).toNat = b := by rw [BitVec.ofInt_natCast, BitVec.toNat_ofNat]; exact Nat.mod_eq_of_lt hb
    show IntKind.u8.wrap ((BitVec.ofInt 8 (a : Int) ^^^ BitVec.ofInt 8 (b : Int)).toNat : Int) = _
    rw [BitVec.toNat_xor, h1, h2, IntKind.wrap_u8]
    have := Nat.xor_lt_two_pow ha hb
    omega
  rw [e a b ha hb, e _ b (Nat.xor_lt_two_pow ha hb) hb, Nat.xor_assoc, Nat.xor_self, Nat.xor_zero]
theorem turn_turn (key : List Int) (c : Int) (nonce b : List Int) (h : bytes b) : turn key c nonce (turn key c nonce b) = b := by
  apply List.ext_getElem
  · rw [turn_len, turn_len]
  · intro i h1 h2
    have e1 := turn_at key c nonce (turn key c nonce b) i (by rw [turn_len]; exact h2)
    have e2 := turn_at key c nonce b i h2
    rw [e2] at e1
    have g1 : (turn key c nonce (turn key c nonce b)).getD i 0 = (turn key c nonce (turn key c nonce b))[i] := by simp [List.getD, h1]
    have g2 : b.getD i 0 = b[i] := by simp [List.getD, h2]
    rw [← g1, e1, ← g2]
    exact xor8 _ _ (bytes_at h i) (bytes_at (bytes_block _ _ _) _)
theorem seal_len (key nonce plain beside : List Int) : (seal' key nonce plain beside).length = plain.length + 16 := by rw [seal', List.length_append, turn_len, tag_len]
theorem bytes_seal (key nonce plain beside : List Int) : bytes (seal' key nonce plain beside) := bytes_append (bytes_turn _ _ _ _) (bytes_tag _ _ _ _)
theorem okay_seal (key nonce plain beside : List Int) : okay key nonce (seal' key nonce plain beside) beside = true := by
  have hl := seal_len key nonce plain beside
  have e : plain.length = (turn key 1 nonce plain).length := (turn_len _ _ _ _).symm
  unfold okay
  rw [hl, Nat.add_sub_cancel, seal', e, List.take_left, List.drop_left]
  simp [turn_len]
theorem opened_seal (key nonce plain beside : List Int) (h : bytes plain) : opened key nonce (seal' key nonce plain beside) beside = plain := by
  have hl := seal_len key nonce plain beside
  have e : plain.length = (turn key 1 nonce plain).length := (turn_len _ _ _ _).symm
  unfold opened
  rw [okay_seal, if_pos rfl, hl, Nat.add_sub_cancel, seal', e, List.take_left, turn_turn _ _ _ _ h]
end Go.Proofs.Ytogebegdgfdijaa.Ae
