/- A scope out of which the run jumps forward to one label. Over any program; no condition. -/
import Derived.Test.YtoljnogpegemjaaDoorBase
import Derived.ScopeJumps
import Derived.WalkMore
import Derived.Deep.DeepCutAuto
namespace Go.Proofs.YtoljnogpegemjaaDoor
open Go.RowKit
theorem wp_scope_fwd {P : Program} {a : Act} {w : World} {Q : Exit → Act → World → Prop} {c rest : Code} (l : Nat) (hf : findLabel c l = some rest)
    (h : c.wp P (Exit.jump l (fun a w => rest.wp P (Exit.noGoto Q) a w) Q) a w) : (Code.scope c).wp P Q a w := by
  refine wp_scope_jumps l (fun a w => rest.wp P (Exit.noGoto Q) a w) (fun _ _ => 0) hf h (fun a w hJ => Code.wp_mono (fun e a w q => ?_) hJ)
  cases e <;> first | exact q | exact q.elim
theorem jump_ret {l : Nat} {J : Act → World → Prop} {Q : Exit → Act → World → Prop} {a : Act} {w : World} : Exit.jump l J Q .ret a w = Q .ret a w := rfl
theorem jump_goto {l : Nat} {J : Act → World → Prop} {Q : Exit → Act → World → Prop} {a : Act} {w : World} : Exit.jump l J Q (.goto l) a w = (l = l ∧ J a w) := rfl
end Go.Proofs.YtoljnogpegemjaaDoor
