/- What both statements use: the examples, Claim, the made requests. -/
import Derived.Test.YtigpacfcklcmpaaValid
import Derived.Test.YtigpacfcklcmpaaXx0
import Derived.Test.YtigpacfcklcmpaaXx2
import Derived.Test.YtigpacfcklcmpaaXx7
namespace Go.Proofs.Ytigpacfcklcmpaa.Pure
open Go.RowKit Go.Proofs.Ytigpacfcklcmpaa.X Go.Proofs.YtigpacfcklcmpaaW.PrintWords Go.Proofs.YtigpacfcklcmpaaW.PrintLast
theorem claim_yes {T K P A B V S : Int} {l : List Int} {L p : Int} (v : Valid T K P A B V S l L) (hs : S ≤ 2) (ha : K = 4 ∨ K = 5) (hp : 0 ≤ p ∧ p < 256) (k : Nat) (hk : 2 * l.length + 8 ≤ k) :
    fault_Claim.f k T K P A B V S l L p = some (T, K, P, A, B, V, 3, l, p, 0) := by
  obtain ⟨k, rfl⟩ : ∃ n, k = n + 1 := ⟨k - 1, by omega⟩
  have s0 := v.s0
  unfold fault_Claim.f fault_wait.f
  rw [check_ok v _ (by omega), Option.bind_some, if_pos rfl, access_f, Option.bind_some, if_pos (decide_eq_true ha), if_neg (by omega), decide_eq_false (by omega), fault_wait.j0, if_neg (by decide), in_f _ _ _ hp, Option.bind_some, if_pos rfl, if_pos rfl, own_f _ _ _ _ _ _ _ _ _ v.len]
  rfl
theorem claim_no {T K P A B V S : Int} {l : List Int} {L p : Int} (v : Valid T K P A B V S l L) (ha : ¬ (K = 4 ∨ K = 5)) (k : Nat) (hk : 2 * l.length + 8 ≤ k) :
    fault_Claim.f k T K P A B V S l L p = some (0, 0, 0, 0, 0, 0, 0, [], 0, 9) := by
  obtain ⟨k, rfl⟩ : ∃ n, k = n + 1 := ⟨k - 1, by omega⟩
  unfold fault_Claim.f fault_wait.f
  rw [check_ok v _ (by omega), Option.bind_some, if_pos rfl, access_f, Option.bind_some, if_neg (by rw [decide_eq_false ha]; decide), fault_wait.j0, if_pos rfl, if_neg (by decide)]
  rfl
/-- A made request is valid. -/
theorem made_valid (a0 a1 : Int) : ∃ (T K P A B V S : Int) (l : List Int), (∀ k, 12 ≤ k → headgatelaw35_made.f k a0 a1 = some (T, K, P, A, B, V, S, l, 0)) ∧ Valid T K P A B V S l 0 ∧ S = (if l.length = 0 then 1 else 2) ∧ (K = 4 ∨ K = 5 ∨ K = 6 ∨ K = 1) ∧ l.length ≤ (if K = 6 then 9 else 1) := by
  obtain ⟨T, K, P, A, B, V, m, n, hf, t0, t1, c, hk, hn⟩ := made_is a0 a1
  have n9 : n ≤ 9 := by split at hn <;> omega
  refine ⟨T, K, P, A, B, V, if n = 0 then 1 else 2, frames m n, hf, ⟨t0, by omega, c, by split <;> omega, by split <;> omega, Or.inl (by split <;> omega), by rw [frames_length]; omega, frames_nodup m n n9, frames_in m n, ?_⟩, by rw [frames_length], hk, by rw [frames_length]; exact hn⟩
  unfold okH
  rw [frames_length]
  by_cases h : n = 0
  · rw [if_pos h]; exact Or.inl ⟨rfl, h, rfl⟩
  · rw [if_neg h]; exact Or.inr (Or.inl ⟨rfl, by omega, hn, rfl⟩)
end Go.Proofs.Ytigpacfcklcmpaa.Pure
