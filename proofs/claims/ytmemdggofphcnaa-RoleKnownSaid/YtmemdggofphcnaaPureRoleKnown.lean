/- RoleKnown: the chapter's examples have the results given there. -/
import Derived.Test.YtmemdggofphcnaaKnown
namespace Go.Proofs.Ytmemdggofphcnaa.Pure
open Go.RowKit Go.Proofs.Ytmemdggofphcnaa.X Go.Proofs.YtmemdggofphcnaaW.PrintWords Go.Proofs.YtmemdggofphcnaaW.PrintLast
theorem RoleKnown : headgatelaw16_RoleKnown.Pure := ⟨60, by decide +kernel⟩
end Go.Proofs.Ytmemdggofphcnaa.Pure
