/- FaultKnown: at enough rounds what it computes is true. -/
import Derived.Test.YtigpacfcklcmpaaKnown
namespace Go.Proofs.Ytigpacfcklcmpaa.Pure
open Go.RowKit Go.Proofs.Ytigpacfcklcmpaa.X Go.Proofs.YtigpacfcklcmpaaW.PrintWords Go.Proofs.YtigpacfcklcmpaaW.PrintLast
set_option maxRecDepth 100000 in
theorem FaultKnown : headgatelaw35_FaultKnown.Pure := ⟨60, by decide +kernel⟩
end Go.Proofs.Ytigpacfcklcmpaa.Pure
