/- OrderPowers, without the machine: for any number, made one from 1 to 2^40, the two logarithms lie to each other and to the powers of two as the law says, and the chapter's examples hold. No condition. -/
import Derived.Test.YtcdeaiiiplkfiaaLogs
namespace Go.Proofs.Ytcdeaiiiplkfiaa.Pure
open Go.RowKit Go.Proofs.Ytcdeaiiiplkfiaa.X Go.Proofs.YtcdeaiiiplkfiaaW.PrintWords Go.Proofs.YtcdeaiiiplkfiaaW.PrintLast Go.Proofs.YtcdeaiiiplkfiaaW.PrintMore OrdMath
theorem OrderPowers : headgatelaw08_OrderPowers.Pure := by
  intro a0 _
  have g0 := Int.emod_nonneg a0 (show (1099511627776 : Int) ≠ 0 by omega)
  have g1 := Int.emod_lt_of_pos a0 (show (0 : Int) < 1099511627776 by omega)
  obtain ⟨n, hn⟩ : ∃ n : Nat, (n : Int) = 1 + a0 % 1099511627776 := ⟨(1 + a0 % 1099511627776).toNat, by omega⟩
  obtain ⟨j, hj, h1, h2⟩ := bl_spec n (by omega) (by omega)
  have hj40 : j ≤ 40 := by
    rcases Nat.lt_or_ge 40 j with h3 | h3
    · have := Nat.pow_le_pow_right (n := 2) (by omega) (show 41 ≤ j by omega); omega
    · exact h3
  have hm := bl_pred h1 h2 (by omega)
  refine Ev.rounds (g := fun k => headgatelaw08_OrderPowers.f k a0) ?_
  unfold headgatelaw08_OrderPowers.f
  rw [mod_at _ _ (by omega) (by omega)]
  simp only [Option.bind_some]
  rw [wsm (x := 1 + a0 % 1099511627776) (by omega) (by omega), ← hn, log_at (by omega) (by omega), least_at (by omega) (by omega)]
  simp only [Option.bind_some, if_true]
  rw [hj, hm, show ((j + 1 : Nat) : Int) - 1 = (j : Int) by omega]
  have w1 : wrap64 ((j : Int) + 1) = ((j + 1 : Nat) : Int) := by rw [wsm (by omega) (by omega)]; rfl
  rw [w1, u64_small (x := (j : Int)) (by omega) (by omega), u64_small (x := ((j + 1 : Nat) : Int)) (by omega) (by omega), shl_u (by omega), shl_u (by omega)]
  refine Ev.congr (f := fun k => (headgatelaw08_awake.f k).bind fun t => some t) (fun k => ?_) (Ev.bind awake_ev (Ev.now _))
  by_cases he : n = 2 ^ j
  · rw [if_pos he, if_neg (by omega), if_neg (by omega), if_neg (by omega), if_neg (by omega), if_pos (by omega), if_pos (by omega), if_pos (by omega), if_pos (by omega), if_pos (by rw [he]; simp)]
  · have h3 : ((n : Int) == ((2 ^ j : Nat) : Int)) = false := beq_eq_false_iff_ne.mpr (by omega)
    have h4 : (((j + 1 : Nat) : Int) == (j : Int)) = false := beq_eq_false_iff_ne.mpr (by omega)
    rw [if_neg he, if_neg (by omega), if_neg (by omega), if_neg (by omega), if_neg (by omega), if_pos (by omega), if_pos (by omega), if_pos (by omega), if_pos (by omega), h3, h4, if_pos (by rfl)]
end Go.Proofs.Ytcdeaiiiplkfiaa.Pure
