/- RoleWays: between any two roles, a path is one, or there is none out of PoolFrame alone; from Free at most three changes, back just one. -/
import Derived.Test.YtmemdggofphcnaaBase
import Derived.Test.YtmemdggofphcnaaXx9
namespace Go.Proofs.Ytmemdggofphcnaa.Pure
open Go.RowKit Go.Proofs.Ytmemdggofphcnaa.X Go.Proofs.YtmemdggofphcnaaW.PrintWords Go.Proofs.YtmemdggofphcnaaW.PrintLast
theorem ways_in : ∀ a b : Fin 8, headgatelaw16_RoleWays.f 60 (a.val : Int) (b.val : Int) = some true := by decide +kernel
theorem ways_mod (k : Nat) (a b : Int) : headgatelaw16_RoleWays.f k a b = headgatelaw16_RoleWays.f k (a % 8) (b % 8) := by
  unfold headgatelaw16_RoleWays.f
  rw [mod_at a 8 (by omega) (by omega), mod_at b 8 (by omega) (by omega), mod_at (a % 8) 8 (by omega) (by omega), mod_at (b % 8) 8 (by omega) (by omega), Int.emod_emod, Int.emod_emod]
theorem RoleWays : headgatelaw16_RoleWays.Pure := by
  intro a b _ _
  obtain ⟨m, hm⟩ := Int.eq_ofNat_of_zero_le (show 0 ≤ a % 8 by omega)
  obtain ⟨n, hn⟩ := Int.eq_ofNat_of_zero_le (show 0 ≤ b % 8 by omega)
  refine ⟨60, ?_⟩
  rw [ways_mod, hm, hn]
  exact ways_in ⟨m, by omega⟩ ⟨n, by omega⟩
end Go.Proofs.Ytmemdggofphcnaa.Pure
