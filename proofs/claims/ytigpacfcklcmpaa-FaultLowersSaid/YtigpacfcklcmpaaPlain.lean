/- What all statements of this layer use: reads of a list, a request's own copy, the examples. -/
import Derived.Test.YtigpacfcklcmpaaXx0
import Derived.Test.YtigpacfcklcmpaaXx4
import Derived.Test.YtigpacfcklcmpaaXx6
import Derived.Test.YtigpacfcklcmpaaXx9
import Derived.Test.YtigpacfcklcmpaaClone
namespace Go.Proofs.Ytigpacfcklcmpaa.Pure
open Go.RowKit Go.Proofs.Ytigpacfcklcmpaa.X Go.Proofs.YtigpacfcklcmpaaW.PrintWords Go.Proofs.YtigpacfcklcmpaaW.PrintLast
theorem rd_get (l : List Int) (i : Nat) (h : i < l.length) : rd l (i : Int) = l[i] := by
  simp [rd, h]
theorem most_f (T K P A B V S : Int) (l : List Int) (L : Int) : fault_request_most.f T K P A B V S l L = some (if K = 6 then 9 else 1) := by
  unfold fault_request_most.f
  split <;> rfl
theorem access_f (T K P A B V S : Int) (l : List Int) (L : Int) : fault_request_access.f T K P A B V S l L = some (decide (K = 4 ∨ K = 5)) := by
  unfold fault_request_access.f
  by_cases h : K = 4
  · rw [if_pos h, decide_eq_true (Or.inl h)]
  · rw [if_neg h]
    by_cases h5 : K = 5
    · rw [decide_eq_true (Or.inr h5), beq_iff_eq.mpr h5]
    · rw [decide_eq_false (by omega), beq_eq_false_iff_ne.mpr h5]
theorem own_f (T K P A B V S : Int) (l : List Int) (L : Int) (h : l.length < 1000) : fault_request_own.f T K P A B V S l L = some (T, K, P, A, B, V, S, l, L) := by
  unfold fault_request_own.f slices_Clone_int_int.f
  rw [if_pos (by omega)]; rfl
theorem leo_from {α : Type} {f : Nat → Option α} (hm : ∀ k, LeO (f k) (f (k + 1))) {k0 : Nat} {r : α} (h : f k0 = some r) (k : Nat) (hk : k0 ≤ k) : f k = some r := by
  induction k with
  | zero => obtain rfl : k0 = 0 := by omega
            exact h
  | succ n ih =>
    by_cases e : k0 = n + 1
    · subst e; exact h
    · exact hm n _ (ih (by omega))
theorem awake_ok (k : Nat) (hk : 40 ≤ k) : headgatelaw35_awake.f k = some true :=
  leo_from (f := headgatelaw35_awake.f) headgatelaw35_awake.mono (by decide +kernel) k hk
end Go.Proofs.Ytigpacfcklcmpaa.Pure
