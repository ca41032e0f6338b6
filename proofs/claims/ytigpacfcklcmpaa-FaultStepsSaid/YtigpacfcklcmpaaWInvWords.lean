import Derived.Test.YtigpacfcklcmpaaWInv
import Derived.Test.YtigpacfcklcmpaaWFootNe
namespace Go.Proofs.YtigpacfcklcmpaaW.PrintWords
open Go.RowKit
end Go.Proofs.YtigpacfcklcmpaaW.PrintWords
namespace Go.Proofs.YtigpacfcklcmpaaW.PrintLast
section
variable {ops : Array Oper} {a : Act} {o og : Oper} {g : Nat} {t : Tmp} {u : Bool}
theorem wanted_on (hg : o.guard = some (g, u)) (ho : ops[g]? = some og) (hd : og.dst = some t) (hv : a.tmps[t]? = some (.bool u)) : Region.wanted o (yielded ops a.tmps) = true := by
  simp [Region.wanted, hg, yielded, ho, hd, hv]
theorem wanted_off (hg : o.guard = some (g, u)) (ho : ops[g]? = some og) (hd : og.dst = some t) (hv : a.tmps[t]? = some (.bool (!u))) : Region.wanted o (yielded ops a.tmps) = false := by
  cases u <;> simp_all [Region.wanted, yielded]
end
end Go.Proofs.YtigpacfcklcmpaaW.PrintLast
