/- part 5 of the proof of tree_takes. -/
import Derived.Test.YtfomlmhnmheenaaGreatTT4
import Derived.KernelRfl
set_option linter.unusedSimpArgs false
set_option linter.unusedVariables false
set_option maxRecDepth 1000000
namespace Go.Proofs.YtfomlmhnmheenaaGreat
namespace Tw
theorem w12:zru ((zc2 E12 60).fn 9 [] ⟨0,.nil⟩)=true:=by kernel_rfl
end Tw
end Go.Proofs.YtfomlmhnmheenaaGreat
