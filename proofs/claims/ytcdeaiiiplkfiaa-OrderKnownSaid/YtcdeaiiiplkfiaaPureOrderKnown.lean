import Derived.Test.YtcdeaiiiplkfiaaKnown
namespace Go.Proofs.Ytcdeaiiiplkfiaa.Pure
open Go.RowKit Go.Proofs.Ytcdeaiiiplkfiaa.X Go.Proofs.YtcdeaiiiplkfiaaW.PrintWords Go.Proofs.YtcdeaiiiplkfiaaW.PrintLast

set_option maxRecDepth 100000 in
theorem OrderKnown : headgatelaw08_OrderKnown.Pure := ⟨1100, by decide +kernel⟩

end Go.Proofs.Ytcdeaiiiplkfiaa.Pure
