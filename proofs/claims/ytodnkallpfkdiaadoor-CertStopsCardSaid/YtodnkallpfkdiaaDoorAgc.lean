/- A signature holds, and its key is a point. No program here; no condition. -/
import Derived.Test.YtodnkallpfkdiaaDoorAgb
import Derived.Test.YtodnkallpfkdiaaDoorCc
namespace Go.Proofs.YtodnkallpfkdiaaDoor.Ed
open Go.RowKit Lm Fp Cu Pri Sc
theorem clamp_lt (k:Nat):clamp k < 2 ^ 256:=by
 have:=Nat.mod_lt (k / 8 * 8) (show 2 ^ 254 > 0 by decide)
 unfold clamp
 omega
theorem q_lt:Sc.q < 2 ^ 256:=by decide +kernel
theorem wide_lt (xs:List Int):wide xs < 2 ^ 256:=Nat.lt_trans (Nat.mod_lt _ (by decide +kernel)) q_lt
theorem base_is (k:Nat) (hk:k < 2 ^ 256):Is (emul base k 256) (tm B0 k):=Is.base.mul_full on_base k hk
theorem on_b (k:Nat):on (tm B0 k):=on_times fld inv_ok on_base k
/-- A multiple of the base is read back. -/
theorem read_b (k:Nat) (hk:k < 2 ^ 256):∃ Q,eread (ebytes (emul base k 256))=some Q∧Is Q (tm B0 k):=by
 rw [(base_is k hk).bytes]
 exact read_back (on_b k)
theorem may_pub (seed:Nat):(eread (epub seed)).isSome=true:=by
 obtain ⟨Q,h,_⟩:=read_b (spart seed) (clamp_lt _)
 unfold epub
 rw [h]
 rfl
theorem bytes_eq {P Q:Pt} {A:K×K} (hP:Is P A) (hQ:Is Q A):ebytes P=ebytes Q:=by rw [hP.bytes,hQ.bytes]
/-- Every signature holds. -/
theorem holds (seed:Nat) (b:List Int):everify (epub seed) (esignR seed b) (esignS seed b) b=true:=by
 obtain ⟨R,hR,iR⟩:=read_b (wide (srest seed ++ b)) (wide_lt _)
 obtain ⟨A,hA,iA⟩:=read_b (spart seed) (clamp_lt _)
 have hS:esignS seed b < Sc.q:=Nat.mod_lt _ (by decide +kernel)
 have e1:eread (esignR seed b)=some R:=hR
 have e2:eread (epub seed)=some A:=hA
 unfold everify
 rw [e1,e2]
 show (decide (esignS seed b < Sc.q) && _)=true
 rw [decide_eq_true hS,Bool.true_and,beq_iff_eq]
 have m1:=base_is (esignS seed b) (Nat.lt_trans hS q_lt)
 have m2:=iA.mul_full (on_b _) (wide (n32 (esignR seed b) ++ (n32 (epub seed) ++ b))) (wide_lt _)
 have m3:=iR.add m2 (on_b _) (on_times fld inv_ok (on_b _) _)
 refine bytes_eq m1 ?_
 have h1:tm B0 (esignS seed b)=tm B0 (wide (srest seed ++ b)+spart seed * wide (n32 (esignR seed b) ++ (n32 (epub seed) ++ b))):=by
  unfold esignS
  rw [base_mod,← base_mod,Nat.add_mod,Nat.mod_mod,← Nat.add_mod,base_mod,Nat.mul_comm]
 have h2:tm B0 (wide (srest seed ++ b)+spart seed * wide (n32 (esignR seed b) ++ (n32 (epub seed) ++ b)))=Ed.add (tm B0 (wide (srest seed ++ b))) (tm (tm B0 (spart seed)) (wide (n32 (esignR seed b) ++ (n32 (epub seed) ++ b)))):=by
  exact (times_add fld inv_ok on_base _ _).trans (congrArg (eadd (toK D0) inv _) (times_mul fld inv_ok on_base _ _))
 rw [h1,h2]
 exact m3
/-- A number that is q or more is none. -/
theorem great (key R S:Nat) (b:List Int) (h:Sc.q≤S):everify key R S b=false:=by
 unfold everify
 split
 ·rw [decide_eq_false (Nat.not_lt.2 h),Bool.false_and]
 ·rfl
end Go.Proofs.YtodnkallpfkdiaaDoor.Ed
