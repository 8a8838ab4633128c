/- part 5 of the proof of dir_holds. -/
import Derived.Test.YtkeknmgnoceogaaGreatDH4
import Derived.KernelRfl
set_option linter.unusedSimpArgs false
set_option linter.unusedVariables false
set_option maxRecDepth 100000
namespace Go.Proofs.YtkeknmgnoceogaaGreat
namespace Tw
theorem XW:CP ((y7 EL 60).fn 11 [] ⟨0,.nil⟩)=true:=by kernel_rfl
end Tw
end Go.Proofs.YtkeknmgnoceogaaGreat
