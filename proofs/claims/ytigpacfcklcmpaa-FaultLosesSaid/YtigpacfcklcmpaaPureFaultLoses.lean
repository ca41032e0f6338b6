/- Lose undoes Claim: of a made request and any slot. -/
import Derived.Test.YtigpacfcklcmpaaOnes
import Derived.Test.YtigpacfcklcmpaaXx0
import Derived.Test.YtigpacfcklcmpaaXx10
import Derived.Test.YtigpacfcklcmpaaXx11
namespace Go.Proofs.Ytigpacfcklcmpaa.Pure
open Go.RowKit Go.Proofs.Ytigpacfcklcmpaa.X Go.Proofs.YtigpacfcklcmpaaW.PrintWords Go.Proofs.YtigpacfcklcmpaaW.PrintLast
theorem lose_ok {T K P A B V : Int} {l : List Int} {L : Int} (v : Valid T K P A B V 3 l L) (k : Nat) (hk : 2 * l.length + 9 ≤ k) :
    fault_Lose.f k T K P A B V 3 l L = some (T, K, P, A, B, V, (if l.length = 0 then 1 else 2), l, 0, 0) := by
  obtain ⟨k, rfl⟩ : ∃ n, k = n + 2 := ⟨k - 2, by omega⟩
  unfold fault_Lose.f
  rw [check_ok v _ (by omega), Option.bind_some, if_pos rfl, fault_Lose.j0, if_neg (by decide), fault_Lose.j1, if_pos rfl, own_f _ _ _ _ _ _ _ _ _ v.len, Option.bind_some]
  by_cases h : l.length = 0
  · rw [if_neg (by show ¬ ((l.length : Int) > 0); omega), if_pos h]
  · rw [if_pos (by show (l.length : Int) > 0; omega), if_neg h]
theorem ints_same (l : List Int) (hl : l.length < 1000) : ∀ (d i k : Nat), l.length = i + d → d + 1 ≤ k → headgatekit_SameInts.l0 k l l (i : Int) = some true
  | 0, i, k + 1, h, _ => by
    rw [headgatekit_SameInts.l0, if_neg (by omega)]
  | d + 1, i, k + 1, h, hk => by
    rw [headgatekit_SameInts.l0, if_pos (by omega), if_pos (by omega), if_pos (by omega), if_pos rfl, IntWalk.wrap64_in _ (by omega)]
    exact ints_same l hl d (i + 1) k (by omega) (by omega)
theorem request_same (T K P A B V S : Int) (l : List Int) (L : Int) (hl : l.length < 1000) (k : Nat) (hk : l.length + 1 ≤ k) : headgatekit_SameRequest.f k T K P A B V S l L T K P A B V S l L = some true := by
  unfold headgatekit_SameRequest.f headgatekit_SameInts.f
  rw [if_pos rfl, if_pos (by simp), if_pos rfl, if_pos rfl, if_pos rfl, show (0 : Int) = ((0 : Nat) : Int) from rfl, ints_same l hl l.length 0 k (by omega) hk]
  rfl
theorem FaultLoses : headgatelaw35_FaultLoses.Pure := by
  intro a0 a1 a2 _ _ _
  obtain ⟨T, K, P, A, B, V, S, l, hf, v, hS, hK, hn⟩ := made_valid a0 a1
  obtain ⟨p, hp, p0, p1⟩ := mod_f a2 256 (by decide) (by decide)
  have n9 : l.length ≤ 9 := by split at hn <;> omega
  refine ⟨60, ?_⟩
  unfold headgatelaw35_FaultLoses.f
  rw [hf 60 (by omega), Option.bind_some, hp, Option.bind_some]
  by_cases ha : K = 4 ∨ K = 5
  · have hS2 : S ≤ 2 := by rw [hS]; split <;> omega
    have w : Valid T K P A B V 3 l p := ⟨v.t0, v.t1, v.c, by decide, by decide, Or.inr ha, v.len, v.nd, v.ins, Or.inr (Or.inr (Or.inl ⟨rfl, by rw [if_neg (by omega)] at hn; exact hn, p0, p1⟩))⟩
    have e1 := claim_yes v hS2 ha ⟨p0, p1⟩ 60 (by omega)
    have e2 := lose_ok w 60 (by omega)
    rw [← hS] at e2
    dsimp only
    rw [e1, Option.bind_some]
    dsimp only
    rw [if_pos rfl, e2, Option.bind_some]
    dsimp only
    rw [if_pos rfl, if_pos rfl, Option.bind_some, if_pos rfl, request_same _ _ _ _ _ _ _ _ _ v.len 60 (by omega), Option.bind_some, if_pos rfl, awake_ok 60 (by omega)]
    rfl
  · have e1 := claim_no (p := p) v ha 60 (by omega)
    dsimp only
    rw [e1, Option.bind_some]
    dsimp only
    rw [if_neg (by decide), if_pos rfl, if_neg (by omega), if_neg (by omega), awake_ok 60 (by omega)]
    rfl
end Go.Proofs.Ytigpacfcklcmpaa.Pure
