/- The document's Open. Conditions: key of 32 bytes, nonce of 12; at most 2^37 bytes. -/
import Derived.Test.YtoljnogpegemjaaAeF
namespace Go.Proofs.Ytoljnogpegemjaa.Ae
open Go.RowKit Lm Po Ch

theorem str_inj : ∀ (xs ys : List Int), bytes xs → bytes ys → strOfNums xs = strOfNums ys → xs = ys := by
  intro xs ys hx hy h
  have h2 : (strOfNums xs).data.toList = (strOfNums ys).data.toList := by rw [h]
  rw [strOfNums_data, strOfNums_data] at h2
  have hl : xs.length = ys.length := by have := congrArg List.length h2; simpa using this
  apply List.ext_getElem hl
  intro i h1 h3
  have e := congrArg (fun l => l[i]?) h2
  simp only [List.getElem?_map, List.getElem?_eq_getElem h1, List.getElem?_eq_getElem h3, Option.map_some, Option.some.injEq] at e
  have b1 := hx xs[i] (List.getElem_mem h1)
  have b2 := hy ys[i] (List.getElem_mem h3)
  have e2 := congrArg UInt8.toNat e
  rw [UInt8.toNat_ofNat', UInt8.toNat_ofNat'] at e2
  omega

theorem str_eq (xs ys : List Int) (hx : bytes xs) (hy : bytes ys) : ((strOfNums xs).toList == (strOfNums ys).toList) = decide (xs = ys) := by
  by_cases h : xs = ys
  · rw [h, decide_eq_true rfl, beq_iff_eq]
  · rw [decide_eq_false h, beq_eq_false_iff_ne]
    intro e
    apply h
    apply str_inj xs ys hx hy
    rw [ByteArray.toList_eq, ByteArray.toList_eq] at e
    exact ByteArray.ext (Array.toList_inj.1 e)

end Go.Proofs.Ytoljnogpegemjaa.Ae
