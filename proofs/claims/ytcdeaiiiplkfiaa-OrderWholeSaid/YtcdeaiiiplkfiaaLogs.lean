/- The length in bits of a number, headgatekit.Mod and the shifts of 1, as plain arithmetic: without the machine. -/
import Derived.Test.YtcdeaiiiplkfiaaXx7
import Derived.Test.YtcdeaiiiplkfiaaXx11
import Derived.Test.YtcdeaiiiplkfiaaJoin
namespace Go.Proofs.Ytcdeaiiiplkfiaa.X
open Go.RowKit Go.Proofs.YtcdeaiiiplkfiaaW.PrintWords Go.Proofs.YtcdeaiiiplkfiaaW.PrintLast Go.Proofs.YtcdeaiiiplkfiaaW.PrintMore OrdMath
theorem awake_now : headgatelaw08_awake.f 40 = some true := by decide +kernel
theorem awake_ev : Ev (fun k => headgatelaw08_awake.f k) true := Ev.of headgatelaw08_awake.mono awake_now

theorem bl_zero : Lib.bitLen 0 = 0 := by decide
theorem bl_spec (x : Nat) : x ≠ 0 → x < 2 ^ 64 → ∃ j, Lib.bitLen x = j + 1 ∧ 2 ^ j ≤ x ∧ x < 2 ^ (j + 1) := by
  induction x using Nat.strongRecOn with
  | _ x ih =>
    intro h0 h
    have hh := Lib.bitLen_half x h0 h
    by_cases h1 : x = 1
    · subst h1
      exact ⟨0, by decide, by omega, by omega⟩
    · obtain ⟨j, hj, h2, h3⟩ := ih (x / 2) (by omega) (by omega) (by omega)
      refine ⟨j + 1, by omega, ?_, ?_⟩
      · rw [Nat.pow_succ]; omega
      · rw [Nat.pow_succ]; omega
theorem bl_at {x j : Nat} (h1 : 2 ^ j ≤ x) (h2 : x < 2 ^ (j + 1)) (h : x < 2 ^ 64) : Lib.bitLen x = j + 1 := by
  have hp := pow_pos' j
  obtain ⟨i, hi, h3, h4⟩ := bl_spec x (by omega) h
  rcases Nat.lt_trichotomy i j with hlt | heq | hgt
  · have := Nat.pow_le_pow_right (n := 2) (by omega) (show i + 1 ≤ j by omega); omega
  · omega
  · have := Nat.pow_le_pow_right (n := 2) (by omega) (show j + 1 ≤ i by omega); omega
/-- The least order: one less than a number. -/
theorem bl_pred {n j : Nat} (h1 : 2 ^ j ≤ n) (h2 : n < 2 ^ (j + 1)) (h : n < 2 ^ 64) : Lib.bitLen (n - 1) = if n = 2 ^ j then j else j + 1 := by
  by_cases he : n = 2 ^ j
  · rw [if_pos he]
    cases j with
    | zero =>
      rw [he]
      exact bl_zero
    | succ j =>
      have hs := pow_succ' j
      have hp := pow_pos' j
      exact bl_at (by omega) (by omega) (by omega)
  · rw [if_neg he]
    exact bl_at (by omega) (by omega) (by omega)
theorem u64_small {x : Int} (h0 : 0 ≤ x) (h1 : x ≤ 18446744073709551615) : IntKind.u64.wrap x = x := by
  show x % 18446744073709551616 = x
  omega
theorem mod_at (a m : Int) (h0 : 1 ≤ m) (h1 : m ≤ 4611686018427387904) : headgatekit_Mod.f a m = some (a % m) := by
  unfold headgatekit_Mod.f
  rw [if_neg (by omega), if_neg (by omega)]
  have h2 := Int.emod_nonneg a (show m ≠ 0 by omega)
  have h3 := Int.emod_lt_of_pos a (show 0 < m by omega)
  have hm : Int.tmod a m = if 0 ≤ a ∨ m ∣ a then a % m else a % m - m := by
    rw [Int.tmod_eq_emod]
    split
    · omega
    · omega
  rw [hm]
  by_cases hc : 0 ≤ a ∨ m ∣ a
  · rw [if_pos hc, if_neg (by omega)]
  · rw [if_neg hc]
    rw [if_pos (by omega), wsm (by omega) (by omega)]
    congr 1
    omega
theorem log_at {n : Nat} (h0 : n ≠ 0) (h : n < 9223372036854775808) : order_Log.f (n : Int) = some (((Lib.bitLen n : Nat) : Int) - 1, 0) := by
  unfold order_Log.f bits_Len.f
  rw [if_neg (by omega), u64_small (by omega) (by omega), if_pos (by omega), if_pos (by omega)]
  obtain ⟨j, hj, h1, h2⟩ := bl_spec n h0 (by omega)
  have hle : j < 64 := by
    rcases Nat.lt_or_ge j 64 with h3 | h3
    · exact h3
    · have := Nat.pow_le_pow_right (n := 2) (by omega) h3; omega
  simp only [Option.bind_some, Int.toNat_natCast]
  rw [wsm (by omega) (by omega)]
theorem least_at {n : Nat} (h0 : n ≠ 0) (h : n < 9223372036854775808) : order_Least.f (n : Int) = some (((Lib.bitLen (n - 1) : Nat) : Int), 0) := by
  unfold order_Least.f bits_Len.f
  rw [if_neg (by omega), u64_small (x := (n : Int)) (by omega) (by omega), u64_small (by omega) (by omega), if_pos (by omega), if_pos (by omega)]
  simp only [Option.bind_some]
  rw [show ((n : Int) - 1).toNat = n - 1 by omega]
theorem shl_tab : ∀ k : Fin 43, shl .i64 1 (IntKind.u64.wrap (k.val : Int)) = ((2 ^ k.val : Nat) : Int) := by decide +kernel
theorem shl_u {k : Nat} (h : k ≤ 42) : shl .i64 1 (k : Int) = ((2 ^ k : Nat) : Int) := by
  have := shl_tab ⟨k, by omega⟩
  rwa [u64_small (by dsimp only; omega) (by dsimp only; omega)] at this
end Go.Proofs.Ytcdeaiiiplkfiaa.X
