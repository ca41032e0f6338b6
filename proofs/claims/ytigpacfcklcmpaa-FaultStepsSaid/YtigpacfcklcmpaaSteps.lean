/- FaultSteps, the plain law: Give, Claim, Read and Lose of any request of at most 12 frames answer as the reference's. -/
import Derived.Test.YtigpacfcklcmpaaSame
import Derived.Test.YtigpacfcklcmpaaXx0
import Derived.Test.YtigpacfcklcmpaaXx6
import Derived.Test.YtigpacfcklcmpaaXx7
import Derived.Test.YtigpacfcklcmpaaXx10
import Derived.Test.YtigpacfcklcmpaaXx13
import Derived.Test.YtigpacfcklcmpaaXx14
import Derived.Test.YtigpacfcklcmpaaXx16
import Derived.Test.YtigpacfcklcmpaaXx19
import Derived.Test.YtigpacfcklcmpaaXx20
namespace Go.Proofs.Ytigpacfcklcmpaa.Pure
open Go.RowKit Go.Proofs.Ytigpacfcklcmpaa.X Go.Proofs.YtigpacfcklcmpaaW.PrintWords Go.Proofs.YtigpacfcklcmpaaW.PrintLast
abbrev Res := Int × Int × Int × Int × Int × Int × Int × List Int × Int × Int
def noR (e : Int) : Res := (0, 0, 0, 0, 0, 0, 0, [], 0, e)
def giveV (T K P A B V S : Int) (l : List Int) (L x : Int) : Res :=
  if chk T K P A B V S l L = 0 then (if S > 2 then noR 9 else (if (l.length : Int) ≥ mostV K then noR 5 else (if 0 ≤ x ∧ x < 256 then (if x ∈ l then noR 7 else (T, K, P, A, B, V, 2, l ++ [x], L, 0)) else noR 2))) else noR (chk T K P A B V S l L)
def waitV (T K P A B V S : Int) (l : List Int) (L p least st : Int) : Res :=
  if chk T K P A B V S l L = 0 then (if accV K = true ∧ least ≤ S ∧ S ≤ 2 then (if 0 ≤ p ∧ p < 256 then (T, K, P, A, B, V, st, l, p, 0) else noR 2) else noR 9) else noR (chk T K P A B V S l L)
def loseV (T K P A B V S : Int) (l : List Int) (L : Int) : Res :=
  if chk T K P A B V S l L = 0 then (if S = 3 then (T, K, P, A, B, V, if (l.length : Int) > 0 then 2 else 1, l, 0, 0) else noR 9) else noR (chk T K P A B V S l L)
theorem chk_len {T K P A B V S : Int} {l : List Int} {L : Int} (h : chk T K P A B V S l L = 0) (hS : ¬ S > 2) : (l.length : Int) ≤ mostV K := by
  unfold chk at h
  have hm : 1 ≤ mostV K := by unfold mostV; split <;> omega
  split at h
  · split at h
    · split at h
      · split at h
        · rename_i h1 h2 h3 h4
          unfold numV at h4
          by_cases s1 : S = 1
          · rw [if_pos s1] at h4
            have := of_decide_eq_true h4
            omega
          · rw [if_neg s1, if_pos (by omega)] at h4
            exact (of_decide_eq_true h4).2
        · omega
      · omega
    · rename_i h1 h2
      exact absurd h h2
  · omega
theorem own_v (T K P A B V S : Int) (l : List Int) (L : Int) (h : l.length < 1000) : fault_request_own.f T K P A B V S l L = some (T, K, P, A, B, V, S, l, L) := own_f T K P A B V S l L h
theorem rown_v (T K P A B V S : Int) (l : List Int) (L : Int) (h : l.length < 1000) : headgateref35_own.f T K P A B V S l L = some (T, K, P, A, B, V, S, l, L) := by
  unfold headgateref35_own.f
  rw [Option.bind_some, if_pos (by simp; omega), List.nil_append]
variable (T K P A B V S : Int) (l : List Int) (L : Int)
theorem give_v (x : Int) (hl : l.length ≤ 12) (k : Nat) (hk : 60 ≤ k) : fault_Give.f k T K P A B V S l L x = some (giveV T K P A B V S l L x) := by
  unfold fault_Give.f giveV
  rw [chk_f T K P A B V S l L (by omega) k (by omega), Option.bind_some]
  by_cases hc : chk T K P A B V S l L = 0
  · rw [if_pos hc, if_pos hc]
    by_cases hS : S > 2
    · rw [if_pos hS, if_pos hS, if_neg (by decide)]; rfl
    rw [if_neg hS, if_neg hS, most_f, Option.bind_some]
    by_cases hn : (l.length : Int) ≥ mostV K
    · rw [if_pos (show (l.length : Int) ≥ (if K = 6 then 9 else 1) from hn), if_pos hn, if_neg (by decide)]; rfl
    rw [if_neg (show ¬ (l.length : Int) ≥ (if K = 6 then 9 else 1) from hn), if_neg hn, in_v, Option.bind_some]
    by_cases hx : 0 ≤ x ∧ x < 256
    · rw [if_pos (decide_eq_true hx), if_pos hx, contains_v l x (by omega) k (by omega), Option.bind_some]
      by_cases hm : x ∈ l
      · rw [if_pos (decide_eq_true hm), if_pos hm, if_neg (by decide)]; rfl
      · rw [if_neg (by simpa using hm), if_neg hm, own_v _ _ _ _ _ _ _ _ _ (by omega), Option.bind_some]
        exact if_pos (show l.length < 17592186044416 by omega)
    · rw [if_neg (by simpa using hx), if_neg hx, if_neg (by decide)]; rfl
  · rw [if_neg hc, if_neg hc]; rfl
theorem rgive_v (x : Int) (hl : l.length ≤ 12) (k : Nat) (hk : 60 ≤ k) : headgateref35_Give.f k T K P A B V S l L x = some (giveV T K P A B V S l L x) := by
  obtain ⟨k, rfl⟩ : ∃ n, k = n + 1 := ⟨k - 1, by omega⟩
  unfold headgateref35_Give.f giveV
  rw [rchk T K P A B V S l L (by omega) (k + 1) (by omega), Option.bind_some]
  by_cases hc : chk T K P A B V S l L = 0
  · rw [if_pos hc, if_pos hc]
    by_cases hS : S > 2
    · rw [if_pos hS, if_pos hS]; rfl
    rw [if_neg hS, if_neg hS, rroom, Option.bind_some]
    have hle := chk_len hc hS
    by_cases hn : (l.length : Int) ≥ mostV K
    · rw [if_pos (show (l.length : Int) = mostV K by omega), if_pos hn]; rfl
    rw [if_neg (show ¬ (l.length : Int) = mostV K by omega), if_neg hn]
    have hj : ∀ b, (b = true ↔ ¬ (0 ≤ x ∧ x < 256)) → headgateref35_Give.j0 (k + 1) x b T K P A B V S l L = some (if 0 ≤ x ∧ x < 256 then (if x ∈ l then noR 7 else (T, K, P, A, B, V, 2, l ++ [x], L, 0)) else noR 2) := by
      intro b hb
      rw [headgateref35_Give.j0]
      by_cases h1 : b = true
      · rw [if_pos h1, if_neg (hb.mp h1)]; rfl
      · rw [if_neg h1, if_pos (show 0 ≤ x ∧ x < 256 from Classical.byContradiction fun q => h1 (hb.mpr q)), has_v l x (by omega) k (by omega), Option.bind_some]
        by_cases hm : x ∈ l
        · rw [if_pos (decide_eq_true hm), if_pos hm]; rfl
        · rw [if_neg (by simpa using hm), if_neg hm, rown_v _ _ _ _ _ _ _ _ _ (by omega), Option.bind_some]
          exact if_pos (show l.length < 17592186044416 by omega)
    by_cases h0 : x < 0
    · rw [if_pos h0]
      exact hj _ ⟨fun _ => by omega, fun _ => rfl⟩
    · rw [if_neg h0]
      exact hj _ ⟨fun q => by have := of_decide_eq_true q; omega, fun q => decide_eq_true (by omega)⟩
  · rw [if_neg hc, if_neg hc]; rfl
theorem wait_v (p least st : Int) (hl : l.length ≤ 12) (k : Nat) (hk : 60 ≤ k) : fault_wait.f k T K P A B V S l L p least st = some (waitV T K P A B V S l L p least st) := by
  obtain ⟨k, rfl⟩ : ∃ n, k = n + 1 := ⟨k - 1, by omega⟩
  unfold fault_wait.f waitV
  rw [chk_f T K P A B V S l L (by omega) (k + 1) (by omega), Option.bind_some]
  by_cases hc : chk T K P A B V S l L = 0
  · rw [if_pos hc, if_pos hc, access_v, Option.bind_some]
    have hj : ∀ b, (b = true ↔ ¬ (accV K = true ∧ least ≤ S ∧ S ≤ 2)) → fault_wait.j0 (k + 1) p st (chk T K P A B V S l L) b T K P A B V S l L = some (if accV K = true ∧ least ≤ S ∧ S ≤ 2 then (if 0 ≤ p ∧ p < 256 then (T, K, P, A, B, V, st, l, p, 0) else noR 2) else noR 9) := by
      intro b hb
      rw [fault_wait.j0]
      by_cases h1 : b = true
      · rw [if_pos h1, if_neg (hb.mp h1), if_neg (by decide)]; rfl
      · rw [if_neg h1, if_pos (show accV K = true ∧ least ≤ S ∧ S ≤ 2 from Classical.byContradiction fun q => h1 (hb.mpr q)), in_v, Option.bind_some]
        by_cases hp : 0 ≤ p ∧ p < 256
        · rw [if_pos (decide_eq_true hp), if_pos hp, if_pos hc, own_v _ _ _ _ _ _ _ _ _ (by omega)]; rfl
        · rw [if_neg (by simpa using hp), if_neg hp, if_neg (by decide)]; rfl
    by_cases ha : accV K = true
    · rw [if_pos ha]
      by_cases h2 : S < least
      · rw [if_pos h2]
        exact hj _ ⟨fun _ q => by omega, fun _ => rfl⟩
      · rw [if_neg h2]
        exact hj _ ⟨fun q w => by have := of_decide_eq_true q; omega, fun q => decide_eq_true (Classical.byContradiction fun z => q ⟨ha, by omega, by omega⟩)⟩
    · rw [if_neg ha]
      exact hj _ ⟨fun _ q => ha q.1, fun _ => rfl⟩
  · rw [if_neg hc, if_neg hc]; rfl
theorem rwait_v (p least st : Int) (hl : l.length ≤ 12) (k : Nat) (hk : 60 ≤ k) : headgateref35_waits.f k T K P A B V S l L p least st = some (waitV T K P A B V S l L p least st) := by
  obtain ⟨k, rfl⟩ : ∃ n, k = n + 1 := ⟨k - 1, by omega⟩
  unfold headgateref35_waits.f waitV
  rw [rchk T K P A B V S l L (by omega) (k + 1) (by omega), Option.bind_some]
  by_cases hc : chk T K P A B V S l L = 0
  · rw [if_pos hc, if_pos hc, raccess, Option.bind_some]
    have hj : ∀ b, (b = true ↔ ¬ (accV K = true ∧ least ≤ S ∧ S ≤ 2)) → headgateref35_waits.j0 (k + 1) p st b T K P A B V S l L = some (if accV K = true ∧ least ≤ S ∧ S ≤ 2 then (if 0 ≤ p ∧ p < 256 then (T, K, P, A, B, V, st, l, p, 0) else noR 2) else noR 9) := by
      intro b hb
      rw [headgateref35_waits.j0]
      by_cases h1 : b = true
      · rw [if_pos h1, if_neg (hb.mp h1)]; rfl
      · rw [if_neg h1, if_pos (show accV K = true ∧ least ≤ S ∧ S ≤ 2 from Classical.byContradiction fun q => h1 (hb.mpr q))]
        by_cases p0 : p < 0
        · rw [if_pos p0, if_neg (show ¬ (0 ≤ p ∧ p < 256) by omega)]; rfl
        rw [if_neg p0]
        by_cases p1 : p ≥ 256
        · rw [if_pos p1, if_neg (show ¬ (0 ≤ p ∧ p < 256) by omega)]; rfl
        rw [if_neg p1, if_pos (show 0 ≤ p ∧ p < 256 by omega), rown_v _ _ _ _ _ _ _ _ _ (by omega)]; rfl
    by_cases ha : accV K = true
    · rw [if_pos ha]
      by_cases h2 : S < least
      · rw [if_pos h2]
        exact hj _ ⟨fun _ q => by omega, fun _ => rfl⟩
      · rw [if_neg h2]
        exact hj _ ⟨fun q w => by have := of_decide_eq_true q; omega, fun q => decide_eq_true (Classical.byContradiction fun z => q ⟨ha, by omega, by omega⟩)⟩
    · rw [if_neg ha]
      exact hj _ ⟨fun _ q => ha q.1, fun _ => rfl⟩
  · rw [if_neg hc, if_neg hc]; rfl
theorem lose_v (hl : l.length ≤ 12) (k : Nat) (hk : 60 ≤ k) : fault_Lose.f k T K P A B V S l L = some (loseV T K P A B V S l L) := by
  obtain ⟨k, rfl⟩ : ∃ n, k = n + 2 := ⟨k - 2, by omega⟩
  unfold fault_Lose.f loseV
  rw [chk_f T K P A B V S l L (by omega) (k + 2) (by omega), Option.bind_some]
  by_cases hc : chk T K P A B V S l L = 0
  · rw [if_pos hc, if_pos hc, fault_Lose.j0]
    by_cases hS : S = 3
    · rw [if_neg (by simp [hS]), if_pos hS, fault_Lose.j1, if_pos hc, own_v _ _ _ _ _ _ _ _ _ (by omega), Option.bind_some]
      by_cases hn : (l.length : Int) > 0
      · rw [if_pos (show ((T, K, P, A, B, V, S, l, L) : Int × Int × Int × Int × Int × Int × Int × List Int × Int).2.2.2.2.2.2.2.1.length > (0 : Int) from hn), if_pos hn]
      · rw [if_neg (show ¬ ((((T, K, P, A, B, V, S, l, L) : Int × Int × Int × Int × Int × Int × Int × List Int × Int).2.2.2.2.2.2.2.1.length : Int) > 0) from hn), if_neg hn]
    · rw [if_pos (by simp [hS]), if_neg hS, fault_Lose.j1, if_neg (by decide)]; rfl
  · rw [if_neg hc, if_neg hc, fault_Lose.j0, if_neg (by decide), fault_Lose.j1, if_neg hc]; rfl
theorem rlose_v (hl : l.length ≤ 12) (k : Nat) (hk : 60 ≤ k) : headgateref35_Lose.f k T K P A B V S l L = some (loseV T K P A B V S l L) := by
  unfold headgateref35_Lose.f loseV
  rw [rchk T K P A B V S l L (by omega) k (by omega), Option.bind_some]
  by_cases hc : chk T K P A B V S l L = 0
  · rw [if_pos hc, if_pos hc]
    by_cases hS : S = 3
    · rw [if_pos hS, if_pos hS, rown_v _ _ _ _ _ _ _ _ _ (by omega), Option.bind_some]
      by_cases hn : (l.length : Int) > 0
      · rw [if_pos (show ((T, K, P, A, B, V, S, l, L) : Int × Int × Int × Int × Int × Int × Int × List Int × Int).2.2.2.2.2.2.2.1.length > (0 : Int) from hn), if_pos hn]
      · rw [if_neg (show ¬ ((((T, K, P, A, B, V, S, l, L) : Int × Int × Int × Int × Int × Int × Int × List Int × Int).2.2.2.2.2.2.2.1.length : Int) > 0) from hn), if_neg hn]
    · rw [if_neg hS, if_neg hS]; rfl
  · rw [if_neg hc, if_neg hc]; rfl
theorem claim_v (p : Int) (hl : l.length ≤ 12) (k : Nat) (hk : 60 ≤ k) : fault_Claim.f k T K P A B V S l L p = some (waitV T K P A B V S l L p 1 3) := by
  unfold fault_Claim.f
  rw [wait_v _ _ _ _ _ _ _ _ _ _ _ _ hl k hk]; rfl
theorem rclaim_v (p : Int) (hl : l.length ≤ 12) (k : Nat) (hk : 60 ≤ k) : headgateref35_Claim.f k T K P A B V S l L p = some (waitV T K P A B V S l L p 1 3) := by
  unfold headgateref35_Claim.f
  rw [rwait_v _ _ _ _ _ _ _ _ _ _ _ _ hl k hk]; rfl
theorem read_v (p : Int) (hl : l.length ≤ 12) (k : Nat) (hk : 60 ≤ k) : fault_Read.f k T K P A B V S l L p = some (waitV T K P A B V S l L p 2 4) := by
  unfold fault_Read.f
  rw [wait_v _ _ _ _ _ _ _ _ _ _ _ _ hl k hk]; rfl
theorem rread_v (p : Int) (hl : l.length ≤ 12) (k : Nat) (hk : 60 ≤ k) : headgateref35_Read.f k T K P A B V S l L p = some (waitV T K P A B V S l L p 2 4) := by
  unfold headgateref35_Read.f
  rw [rwait_v _ _ _ _ _ _ _ _ _ _ _ _ hl k hk]; rfl
theorem give_len (x : Int) (hl : l.length ≤ 12) : (giveV T K P A B V S l L x).2.2.2.2.2.2.2.1.length ≤ 13 := by
  unfold giveV
  split
  · split
    · exact Nat.zero_le _
    · split
      · exact Nat.zero_le _
      · split
        · split
          · exact Nat.zero_le _
          · simp; omega
        · exact Nat.zero_le _
  · exact Nat.zero_le _
theorem wait_len (p least st : Int) (hl : l.length ≤ 12) : (waitV T K P A B V S l L p least st).2.2.2.2.2.2.2.1.length ≤ 13 := by
  unfold waitV
  split
  · split
    · split
      · show l.length ≤ 13; omega
      · exact Nat.zero_le _
    · exact Nat.zero_le _
  · exact Nat.zero_le _
theorem lose_len (hl : l.length ≤ 12) : (loseV T K P A B V S l L).2.2.2.2.2.2.2.1.length ≤ 13 := by
  unfold loseV
  split
  · split
    · show l.length ≤ 13; omega
    · exact Nat.zero_le _
  · exact Nat.zero_le _
theorem same_ints (l : List Int) (hl : l.length < 1000) : ∀ (d i k : Nat), l.length = i + d → d + 1 ≤ k → headgatekit_SameInts.l0 k l l (i : Int) = some true
  | 0, i, k + 1, h, _ => by
    rw [headgatekit_SameInts.l0, if_neg (by omega)]
  | d + 1, i, k + 1, h, hk => by
    rw [headgatekit_SameInts.l0, if_pos (by omega), if_pos (by omega), if_pos (by omega), if_pos rfl, IntWalk.wrap64_in _ (by omega)]
    exact same_ints l hl d (i + 1) k (by omega) (by omega)
theorem same_req (hl : l.length ≤ 13) (k : Nat) (hk : 60 ≤ k) : headgatekit_SameRequest.f k T K P A B V S l L T K P A B V S l L = some true := by
  unfold headgatekit_SameRequest.f headgatekit_SameInts.f
  rw [if_pos rfl, if_pos (by simp), if_pos rfl, if_pos rfl, if_pos rfl, show (0 : Int) = ((0 : Nat) : Int) from rfl, same_ints l (by omega) l.length 0 k (by omega) (by omega)]
  rfl
theorem steps_true (x p : Int) : ∃ k, headgatelaw35_FaultSteps.f k T K P A B V S l L x p = some true := by
  refine ⟨70, ?_⟩
  unfold headgatelaw35_FaultSteps.f
  by_cases hn : (l.length : Int) > 12
  · rw [if_pos hn, awake_ok 70 (by decide)]; rfl
  have hl : l.length ≤ 12 := by omega
  have ho : headgatekit_OwnRequest.f T K P A B V S l L = some (T, K, P, A, B, V, S, l, L) := by
    unfold headgatekit_OwnRequest.f
    rw [Option.bind_some, if_pos (by simp; omega), List.nil_append]
  rw [if_neg hn, ho, Option.bind_some]
  dsimp only
  rw [give_v T K P A B V S l L x hl 70 (by decide), Option.bind_some, rgive_v T K P A B V S l L x hl 70 (by decide), Option.bind_some, claim_v T K P A B V S l L p hl 70 (by decide), Option.bind_some, rclaim_v T K P A B V S l L p hl 70 (by decide), Option.bind_some]
  rw [same_req _ _ _ _ _ _ _ _ _ (give_len T K P A B V S l L x hl) 70 (by decide), Option.bind_some, if_pos rfl, if_pos rfl, same_req _ _ _ _ _ _ _ _ _ (wait_len T K P A B V S l L p 1 3 hl) 70 (by decide), Option.bind_some, if_pos rfl]
  rw [show (70 : Nat) = 69 + 1 from rfl, headgatelaw35_FaultSteps.j0, if_neg (by simp)]
  rw [read_v T K P A B V S l L p hl 69 (by decide), Option.bind_some, rread_v T K P A B V S l L p hl 69 (by decide), Option.bind_some, lose_v T K P A B V S l L hl 69 (by decide), Option.bind_some, rlose_v T K P A B V S l L hl 69 (by decide), Option.bind_some]
  rw [same_req _ _ _ _ _ _ _ _ _ (wait_len T K P A B V S l L p 2 4 hl) 69 (by decide), Option.bind_some, if_pos rfl, if_pos rfl, same_req _ _ _ _ _ _ _ _ _ (lose_len T K P A B V S l L hl) 69 (by decide), Option.bind_some, if_pos rfl, if_pos rfl, same_req _ _ _ _ _ _ _ _ _ (by omega) 69 (by decide), Option.bind_some, if_pos rfl, awake_ok 69 (by decide)]
  rfl
end Go.Proofs.Ytigpacfcklcmpaa.Pure
