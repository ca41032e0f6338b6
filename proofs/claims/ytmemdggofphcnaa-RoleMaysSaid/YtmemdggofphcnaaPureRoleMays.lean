/- RoleMays: role.May and role.Path, and the reference's May and Path, have the same results for any two numbers. -/
import Derived.Test.YtmemdggofphcnaaBase
namespace Go.Proofs.Ytmemdggofphcnaa.Pure
open Go.RowKit Go.Proofs.Ytmemdggofphcnaa.X Go.Proofs.YtmemdggofphcnaaW.PrintWords Go.Proofs.YtmemdggofphcnaaW.PrintLast
theorem may_out {a b : Int} (h : ¬ ((0 ≤ a ∧ a < 8) ∧ (0 ≤ b ∧ b < 8))) : role_May.f a b = some (false, 14) := by
  unfold role_May.f
  rw [is_f, is_f]
  simp only [Option.bind_some]
  by_cases ha : 0 ≤ a ∧ a < 8
  · rw [decide_eq_true ha, if_pos rfl, decide_eq_false (fun hb => h ⟨ha, hb⟩), if_neg (by decide)]
  · rw [decide_eq_false ha, if_neg (by decide)]
theorem ris_f (a : Int) : headgateref16_is.f a = some (decide (0 ≤ a ∧ a < 8)) := is_f a
theorem rmay_out {a b : Int} (h : ¬ ((0 ≤ a ∧ a < 8) ∧ (0 ≤ b ∧ b < 8))) (k : Nat) : headgateref16_May.f k a b = some (false, 14) := by
  unfold headgateref16_May.f
  rw [ris_f, ris_f]
  simp only [Option.bind_some]
  by_cases ha : 0 ≤ a ∧ a < 8
  · rw [decide_eq_true ha, if_pos rfl, decide_eq_false (fun hb => h ⟨ha, hb⟩), if_neg (by decide)]
  · rw [decide_eq_false ha, if_neg (by decide)]
theorem path_out {a b : Int} (h : ¬ ((0 ≤ a ∧ a < 8) ∧ (0 ≤ b ∧ b < 8))) (k : Nat) : role_Path.f k a b = some ([], 14) := by
  unfold role_Path.f
  by_cases ha : 0 ≤ a ∧ a < 8
  · rw [if_pos ha, if_neg (fun hb => h ⟨ha, hb⟩)]
  · rw [if_neg ha]
theorem rpath_out {a b : Int} (h : ¬ ((0 ≤ a ∧ a < 8) ∧ (0 ≤ b ∧ b < 8))) (k : Nat) : headgateref16_Path.f (k + 1) a b = some ([], 14) := by
  unfold headgateref16_Path.f
  rw [ris_f, ris_f]
  simp only [Option.bind_some]
  by_cases ha : 0 ≤ a ∧ a < 8
  · rw [decide_eq_true ha, if_pos rfl, decide_eq_false (fun hb => h ⟨ha, hb⟩)]
    rfl
  · rw [decide_eq_false ha, if_neg (by decide)]
    rfl
theorem mays_in : ∀ a b : Fin 8, headgatelaw16_RoleMays.f 900 (a.val : Int) (b.val : Int) = some true := by decide +kernel
theorem RoleMays : headgatelaw16_RoleMays.Pure := by
  intro a b _ _
  by_cases h : (0 ≤ a ∧ a < 8) ∧ (0 ≤ b ∧ b < 8)
  · obtain ⟨⟨h0, h1⟩, h2, h3⟩ := h
    obtain ⟨m, rfl⟩ := Int.eq_ofNat_of_zero_le h0
    obtain ⟨n, rfl⟩ := Int.eq_ofNat_of_zero_le h2
    exact ⟨900, mays_in ⟨m, by omega⟩ ⟨n, by omega⟩⟩
  · obtain ⟨K, hK⟩ := awake_ev
    refine ⟨K + 1, ?_⟩
    have h1 : headgatelaw16_awake.f (K + 1) = some true := hK (K + 1) (by omega)
    have h2 : headgatekit_SameInts.f (K + 1) [] [] = some true := rfl
    unfold headgatelaw16_RoleMays.f
    rw [may_out h, rmay_out h, path_out h, rpath_out h]
    simp only [Option.bind_some]
    rw [h2]
    simp only [Option.bind_some]
    rw [h1]
    rfl
end Go.Proofs.Ytmemdggofphcnaa.Pure
