/- part 5 of the proof of dir_takes. -/
import Derived.Test.YtkeknmgnoceogaaGreatDT4
import Derived.KernelRfl
set_option linter.unusedSimpArgs false
set_option linter.unusedVariables false
set_option maxRecDepth 100000
namespace Go.Proofs.YtkeknmgnoceogaaGreat
namespace Tw
theorem w16:zp3 ((zdX E16 60).fn 11 [] ⟨0,.nil⟩)=true:=by kernel_rfl
end Tw
end Go.Proofs.YtkeknmgnoceogaaGreat
