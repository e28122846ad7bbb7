/- portcullislaw11: num, alive (the example of the document, by computation). No condition. -/
import Derived.Test.YtoljnogpegemjaaAeG
import Derived.Lib.SlBytesConst
namespace Go.Proofs.Ytoljnogpegemjaa.Ae
open Go.RowKit Lm Po Ch

def k0 : List Int := 1 :: List.replicate 31 0
def n0 : List Int := List.replicate 12 0
theorem alive_no : okay k0 n0 (seal' k0 n0 [120] [121]) [] = false := by decide +kernel
theorem build_k (w : World) : (Instr.build 23 #[(0, .int .u8 1)]).run Try.prog w = .ok (.agg (arr .u8 k0)) w := by kernel_rfl
theorem build_n (w : World) : (Instr.build 46 #[]).run Try.prog w = .ok (.agg (arr .u8 n0)) w := by kernel_rfl
theorem x_str : strOfNums [120] = ⟨#[120]⟩ := by decide +kernel
theorem src_nil (w : World) : Src w none 0 [] := ⟨rfl, fun i hi => absurd hi (by omega)⟩

end Go.Proofs.Ytoljnogpegemjaa.Ae
