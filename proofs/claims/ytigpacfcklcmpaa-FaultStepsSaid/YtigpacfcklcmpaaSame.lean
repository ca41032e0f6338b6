/- What Check, Give, Claim, Read and Lose tell of any request of at most 12 frames, and that the reference tells the same. -/
import Derived.Test.YtigpacfcklcmpaaPlain
import Derived.Test.YtigpacfcklcmpaaCommand
import Derived.Test.YtigpacfcklcmpaaXx0
import Derived.Test.YtigpacfcklcmpaaXx3
import Derived.Test.YtigpacfcklcmpaaXx4
import Derived.Test.YtigpacfcklcmpaaXx5
import Derived.Test.YtigpacfcklcmpaaXx6
import Derived.Test.YtigpacfcklcmpaaXx16
import Derived.Test.YtigpacfcklcmpaaXx17
import Derived.Test.YtigpacfcklcmpaaXx18
namespace Go.Proofs.Ytigpacfcklcmpaa.Pure
open Go.RowKit Go.Proofs.Ytigpacfcklcmpaa.X Go.Proofs.YtigpacfcklcmpaaW.PrintWords Go.Proofs.YtigpacfcklcmpaaW.PrintLast
set_option linter.unusedSimpArgs false
/-- The frames of a request, each behind those ahead of it. -/
def frV (e : Int) : List Int → List Int → Int
  | _, [] => e
  | s, x :: r => if 0 ≤ x ∧ x < 256 then (if x ∈ s then 7 else frV e (s ++ [x]) r) else 2
def endV (S L : Int) : Int := if 0 ≤ L ∧ L < (if S = 3 ∨ S = 4 then 256 else 1) then 0 else 2
def mostV (K : Int) : Int := if K = 6 then 9 else 1
def numV (K S n : Int) : Bool := if S = 1 then decide (n = 0) else if S = 2 then decide (1 ≤ n ∧ n ≤ mostV K) else if S = 3 then decide (n ≤ 1) else if S = 4 then decide (n = 1) else false
def accV (K : Int) : Bool := decide (K = 4 ∨ K = 5)
def chk (T K P A B V S : Int) (l : List Int) (L : Int) : Int :=
  if 1 ≤ T ∧ T ≤ 1099511627776 then (if cmdE K P A B V = 0 then (if 1 ≤ S ∧ S < 5 ∧ (S ≤ 2 ∨ accV K = true) then (if numV K S l.length = true then frV (endV S L) [] l else 5) else 9) else cmdE K P A B V) else 2
theorem in_v (a lo hi : Int) : fault_in.f a lo hi = some (decide (lo ≤ a ∧ a < hi)) := by
  unfold fault_in.f
  by_cases h : a ≥ lo
  · rw [if_pos h]
    by_cases h2 : a < hi
    · rw [decide_eq_true h2, decide_eq_true ⟨h, h2⟩]
    · rw [decide_eq_false h2, decide_eq_false (fun q => h2 q.2)]
  · rw [if_neg h, decide_eq_false (fun q => h q.1)]
theorem drop_at (l : List Int) (i : Nat) (h : i < l.length) : l.drop i = rd l (i : Int) :: l.drop (i + 1) := by
  rw [rd_get _ _ h]
  exact List.drop_eq_getElem_cons h
theorem take_at (l : List Int) (i : Nat) (h : i < l.length) : l.take i ++ [rd l (i : Int)] = l.take (i + 1) := by
  rw [rd_get _ _ h]
  exact List.take_append_getElem h
theorem index_v (l : List Int) (x : Int) (hl : l.length < 1000) : ∀ (d i k : Nat), l.length = i + d → d + 1 ≤ k → ∃ r, slices_Index_int_int.l0 k l x (l.length : Int) (i : Int) = some r ∧ (r ≥ 0 ↔ x ∈ l.drop i)
  | 0, i, k + 1, h, _ => by
    unfold slices_Index_int_int.l0
    rw [if_neg (by omega)]
    refine ⟨_, rfl, ?_⟩
    rw [List.drop_eq_nil_of_le (by omega)]
    simp
  | d + 1, i, k + 1, h, hk => by
    unfold slices_Index_int_int.l0
    rw [if_pos (by omega), if_pos (by omega), if_pos (by omega), drop_at l i (by omega)]
    by_cases e : x = rd l (i : Int)
    · rw [if_pos e]
      exact ⟨_, rfl, by simp [e]⟩
    · rw [if_neg e, IntWalk.wrap64_in _ (by omega)]
      obtain ⟨r, h1, h2⟩ := index_v l x hl d (i + 1) k (by omega) (by omega)
      refine ⟨r, h1, ?_⟩
      rw [h2]
      simp [e]
theorem contains_v (l : List Int) (x : Int) (hl : l.length < 1000) (k : Nat) (hk : l.length + 1 ≤ k) : slices_Contains_int_int.f k l x = some (decide (x ∈ l)) := by
  unfold slices_Contains_int_int.f slices_Index_int_int.f
  obtain ⟨r, h1, h2⟩ := index_v l x hl l.length 0 k (by omega) hk
  rw [show (0 : Int) = ((0 : Nat) : Int) from rfl, h1, Option.bind_some]
  rw [List.drop_zero] at h2
  congr 1
  exact decide_eq_decide.mpr h2
theorem has_loop35 (l : List Int) (x : Int) (hl : l.length < 1000) : ∀ (d i k : Nat), l.length = i + d → d + 1 ≤ k → headgateref35_has.l0 k l x (i : Int) = some (decide (x ∈ l.drop i))
  | 0, i, k + 1, h, _ => by
    unfold headgateref35_has.l0
    rw [if_neg (by omega), List.drop_eq_nil_of_le (by omega)]
    simp
  | d + 1, i, k + 1, h, hk => by
    unfold headgateref35_has.l0
    rw [if_pos (by omega), if_pos (by omega), drop_at l i (by omega)]
    by_cases e : rd l (i : Int) = x
    · rw [if_pos e]
      simp [e]
    · rw [if_neg e, IntWalk.wrap64_in _ (by omega)]
      have h1 := has_loop35 l x hl d (i + 1) k (by omega) (by omega)
      rw [show ((i : Int) + 1) = ((i + 1 : Nat) : Int) by omega, h1]
      have e2 : x ≠ rd l (i : Int) := fun q => e q.symm
      simp [e2]
theorem has_v (l : List Int) (x : Int) (hl : l.length < 1000) (k : Nat) (hk : l.length + 1 ≤ k) : headgateref35_has.f k l x = some (decide (x ∈ l)) := by
  unfold headgateref35_has.f
  rw [show (0 : Int) = ((0 : Nat) : Int) from rfl, has_loop35 l x hl l.length 0 k (by omega) hk]
  rfl
theorem held_end (T K P A B V S : Int) (l : List Int) (L : Int) (b : Bool) (k : Nat) : fault_request_held.j2 (k + 1) 1 b T K P A B V S l L = some (if 0 ≤ L ∧ L < (if b = true then 256 else 1) then 0 else 2) := by
  rw [fault_request_held.j2]
  cases b
  · rw [if_neg (by decide), in_v, Option.bind_some]
    by_cases h : 0 ≤ L ∧ L < 1
    · rw [if_pos (decide_eq_true h), if_pos (by simpa using h)]
    · rw [if_neg (by simpa using h), if_neg (by simpa using h)]
  · rw [if_pos rfl, in_v, Option.bind_some]
    by_cases h : 0 ≤ L ∧ L < 256
    · rw [if_pos (decide_eq_true h), if_pos (by simpa using h)]
    · rw [if_neg (by simpa using h), if_neg (by simpa using h)]
theorem held_frames (T K P A B V S : Int) (l : List Int) (L : Int) (hl : l.length < 1000) : ∀ (d i k : Nat), l.length = i + d → l.length + d + 5 ≤ k → fault_request_held.l0 k l (l.length : Int) (i : Int) T K P A B V S l L = some (frV (endV S L) (l.take i) (l.drop i))
  | 0, i, k + 2, h, _ => by
    rw [fault_request_held.l0, if_neg (by omega), List.drop_eq_nil_of_le (by omega)]
    unfold frV endV
    by_cases h3 : S = 3
    · rw [if_pos h3, held_end]
      simp [h3]
    · rw [if_neg h3, held_end]
      simp [h3]
  | d + 1, i, k + 1, h, hk => by
    rw [fault_request_held.l0, drop_at l i (by omega)]
    unfold frV
    rw [if_pos (by omega), if_pos (by omega), if_pos (by omega), in_v, Option.bind_some]
    by_cases h1 : 0 ≤ rd l (i : Int) ∧ rd l (i : Int) < 256
    · rw [if_pos (decide_eq_true h1), if_pos (by omega), Int.toNat_natCast, contains_v _ _ (by rw [List.length_take]; omega) k (by rw [List.length_take]; omega), Option.bind_some, if_pos h1]
      by_cases h2 : rd l (i : Int) ∈ l.take i
      · rw [if_pos (decide_eq_true h2), if_pos h2]
      · rw [if_neg (by simpa using h2), if_neg h2, IntWalk.wrap64_in _ (by omega), take_at l i (by omega)]
        exact held_frames T K P A B V S l L hl d (i + 1) k (by omega) (by omega)
    · rw [if_neg (by simpa using h1), if_neg h1]
theorem held_v (T K P A B V S : Int) (l : List Int) (L : Int) (hl : l.length < 1000) (k : Nat) (hk : 2 * l.length + 6 ≤ k) : fault_request_held.f k T K P A B V S l L = some (if numV K S l.length = true then frV (endV S L) [] l else 5) := by
  obtain ⟨k, rfl⟩ : ∃ n, k = n + 1 := ⟨k - 1, by omega⟩
  have hJ : ∀ b, fault_request_held.j0 (k + 1) b T K P A B V S l L = some (if b = true then frV (endV S L) [] l else 5) := by
    intro b
    rw [fault_request_held.j0]
    cases b
    · rw [if_neg (by decide), if_neg (by decide)]
    · rw [if_pos rfl, if_pos rfl]
      exact held_frames T K P A B V S l L hl l.length 0 k (by omega) (by omega)
  unfold fault_request_held.f numV
  by_cases s1 : S = 1
  · rw [if_pos s1, if_pos s1, hJ]
    congr 2
  rw [if_neg s1, if_neg s1]
  by_cases s2 : S = 2
  · rw [if_pos s2, if_pos s2, most_f]
    by_cases h : (l.length : Int) ≥ 1
    · rw [if_pos h, Option.bind_some, hJ]
      congr 2
      unfold mostV
      simp [h]
    · rw [if_neg h, hJ]
      congr 2
      simp [h]
  rw [if_neg s2, if_neg s2]
  by_cases s3 : S = 3
  · rw [if_pos s3, if_pos s3, hJ]
  rw [if_neg s3, if_neg s3]
  by_cases s4 : S = 4
  · rw [if_pos s4, if_pos s4, hJ]
    congr 2
  rw [if_neg s4, if_neg s4, hJ]
theorem access_v (T K P A B V S : Int) (l : List Int) (L : Int) : fault_request_access.f T K P A B V S l L = some (accV K) := access_f T K P A B V S l L
theorem chk_f (T K P A B V S : Int) (l : List Int) (L : Int) (hl : l.length < 1000) (k : Nat) (hk : 2 * l.length + 8 ≤ k) : fault_Check.f k T K P A B V S l L = some (chk T K P A B V S l L) := by
  obtain ⟨k, rfl⟩ : ∃ n, k = n + 1 := ⟨k - 1, by omega⟩
  have hH := held_v T K P A B V S l L hl k (by omega)
  have key : ∀ b, fault_Check.j0 (k + 1) b T K P A B V S l L = some (if b = true then 2 else (if cmdE K P A B V = 0 then (if 1 ≤ S ∧ S < 5 ∧ (S ≤ 2 ∨ accV K = true) then (if numV K S l.length = true then frV (endV S L) [] l else 5) else 9) else cmdE K P A B V)) := by
    intro b
    rw [fault_Check.j0]
    cases b
    · have f0 : ¬ (false = true) := by decide
      rw [if_neg f0, if_neg f0]
      unfold fault_command.f
      rw [Option.bind_some]
      by_cases hc : cmdE K P A B V = 0
      · rw [if_pos hc, if_pos hc, in_v, Option.bind_some]
        by_cases hs : 1 ≤ S ∧ S < 5
        · rw [if_pos (decide_eq_true hs)]
          by_cases h2 : S > 2
          · rw [if_pos h2, access_v, Option.bind_some]
            by_cases ha : accV K = true
            · rw [if_pos ha, hH, if_pos (show 1 ≤ S ∧ S < 5 ∧ (S ≤ 2 ∨ accV K = true) from ⟨hs.1, hs.2, Or.inr ha⟩)]; rfl
            · rw [if_neg ha, if_neg (show ¬ (1 ≤ S ∧ S < 5 ∧ (S ≤ 2 ∨ accV K = true)) from fun q => q.2.2.elim (fun q => absurd q (by omega)) ha)]
          · rw [if_neg h2, hH, if_pos (show 1 ≤ S ∧ S < 5 ∧ (S ≤ 2 ∨ accV K = true) from ⟨hs.1, hs.2, Or.inl (by omega)⟩)]; rfl
        · rw [if_neg (show ¬ (decide (1 ≤ S ∧ S < 5) = true) by simpa using hs), if_neg (show ¬ (1 ≤ S ∧ S < 5 ∧ (S ≤ 2 ∨ accV K = true)) from fun q => hs ⟨q.1, q.2.1⟩)]
      · rw [if_neg hc, if_neg hc]
    · rw [if_pos rfl, if_pos rfl]
  unfold fault_Check.f chk
  by_cases h0 : T < 1
  · rw [if_pos h0, key, if_pos rfl, if_neg (show ¬ (1 ≤ T ∧ T ≤ 1099511627776) by omega)]
  · rw [if_neg h0, key]
    by_cases h1 : T > 1099511627776
    · rw [if_pos (decide_eq_true h1), if_neg (show ¬ (1 ≤ T ∧ T ≤ 1099511627776) by omega)]
    · rw [if_neg (show ¬ (decide (T > 1099511627776) = true) by simpa using h1), if_pos (show 1 ≤ T ∧ T ≤ 1099511627776 by omega)]
/-! The reference. -/
theorem zeq (x : Int) : (0 = x) = (x = 0) := propext eq_comm
theorem rcommand (K P A B V : Int) (k : Nat) (hk : 4 ≤ k) : headgateref35_command.f k K P A B V = some (cmdE K P A B V) := by
  obtain ⟨k, rfl⟩ : ∃ n, k = n + 4 := ⟨k - 4, by omega⟩
  unfold headgateref35_command.f headgateref35_used.f cmdE inB
  by_cases k4 : K = 4
  · subst k4
    simp only [if_pos rfl, if_neg (show ¬ (4 : Int) = 1 by decide), if_neg (show ¬ (4 : Int) = 5 by decide), Option.bind_some, headgateref35_command.j0, headgateref35_command.j1, headgateref35_command.j2, headgateref35_command.j3, if_neg (show ¬ (4 : Int) = 6 by decide), Bool.false_eq_true, if_false]
    by_cases p1 : P < 1 <;> by_cases p2 : P > 8 <;> by_cases a1 : A < 0 <;> by_cases a2 : A ≥ 64 <;> by_cases b1 : B < 0 <;> by_cases b2 : B ≥ 8 <;> by_cases v : V = 0 <;> simp [p1, p2, a1, a2, b1, b2, v, zeq V] <;> omega
  by_cases k5 : K = 5
  · subst k5
    simp only [if_pos rfl, if_neg (show ¬ (5 : Int) = 1 by decide), if_neg (show ¬ (5 : Int) = 4 by decide), Option.bind_some, headgateref35_command.j0, headgateref35_command.j1, headgateref35_command.j2, headgateref35_command.j3, if_neg (show ¬ (5 : Int) = 6 by decide), Bool.false_eq_true, if_false]
    by_cases p1 : P < 1 <;> by_cases p2 : P > 8 <;> by_cases a1 : A < 0 <;> by_cases a2 : A ≥ 64 <;> by_cases b1 : B < 0 <;> by_cases b2 : B ≥ 8 <;> simp [p1, p2, a1, a2, b1, b2] <;> omega
  by_cases k6 : K = 6
  · subst k6
    simp only [if_pos rfl, if_neg (show ¬ (6 : Int) = 1 by decide), if_neg (show ¬ (6 : Int) = 4 by decide), if_neg (show ¬ (6 : Int) = 5 by decide), Option.bind_some, headgateref35_command.j0, headgateref35_command.j1, headgateref35_command.j2, headgateref35_command.j3, Bool.false_eq_true, if_false]
    by_cases p1 : P < 1 <;> by_cases p2 : P > 8 <;> by_cases a1 : A < 1 <;> by_cases a2 : A > 8 <;> by_cases e : A = P <;> by_cases b : B = 0 <;> by_cases v : V = 0 <;> simp [p1, p2, a1, a2, e, b, v, zeq V, zeq B] <;> omega
  by_cases k1 : K = 1
  · subst k1
    simp only [if_pos rfl, if_neg (show ¬ (1 : Int) = 6 by decide), if_neg (show ¬ (1 : Int) = 4 by decide), if_neg (show ¬ (1 : Int) = 5 by decide), Option.bind_some, headgateref35_command.j0, headgateref35_command.j1, headgateref35_command.j2, headgateref35_command.j3, Bool.false_eq_true, if_false]
    by_cases p1 : P < 1 <;> by_cases p2 : P > 8 <;> by_cases a : A = 0 <;> by_cases b : B = 0 <;> by_cases v : V = 0 <;> simp [p1, p2, a, b, v, zeq V, zeq B, zeq A] <;> omega
  simp [k1, k4, k5, k6, headgateref35_command.j0]
theorem rframes (T K P A B V S : Int) (l : List Int) (L : Int) (hs : 1 ≤ S ∧ S < 5) (hl : l.length < 1000) : ∀ (d i k : Nat), l.length = i + d → l.length + 2 * d + 5 ≤ k → headgateref35_Check.l0 k (l.length : Int) (i : Int) T K P A B V S l L = some (frV (endV S L) (l.take i) (l.drop i))
  | 0, i, k + 2, h, _ => by
    rw [headgateref35_Check.l0, if_neg (by omega), List.drop_eq_nil_of_le (by omega)]
    unfold frV endV
    by_cases h3 : S = 3 ∨ S = 4
    · rw [if_pos h3]
      by_cases l0 : L < 0
      · rw [if_pos l0, if_neg (by omega)]
      rw [if_neg l0]
      by_cases l1 : L ≥ 256
      · rw [if_pos l1, if_neg (by omega)]
      rw [if_neg l1, if_neg (by omega), if_pos (by omega)]
    · rw [if_neg h3]
      by_cases l0 : L < 0
      · rw [if_pos l0, if_neg (by omega)]
      rw [if_neg l0]
      by_cases l1 : L ≥ 256
      · rw [if_pos l1, if_neg (by omega)]
      rw [if_neg l1, if_pos (by omega)]
      by_cases l2 : L = 0
      · rw [if_pos l2, if_pos (by omega)]
      · rw [if_neg l2, if_neg (by omega)]
  | d + 1, i, k + 2, h, hk => by
    have hj : ∀ b, (b = true ↔ ¬ (0 ≤ rd l (i : Int) ∧ rd l (i : Int) < 256)) → headgateref35_Check.j4 (k + 1) (l.length : Int) (i : Int) b T K P A B V S l L = some (frV (endV S L) (l.take i) (l.drop i)) := by
      intro b hb
      rw [headgateref35_Check.j4, drop_at l i (by omega)]
      unfold frV
      by_cases h1 : b = true
      · rw [if_pos h1, if_neg (hb.mp h1)]
      · have h2 : 0 ≤ rd l (i : Int) ∧ rd l (i : Int) < 256 := Classical.byContradiction fun q => h1 (hb.mpr q)
        rw [if_neg h1, if_pos h2, if_pos (by omega), if_pos (by omega), if_pos (by omega), Int.toNat_natCast, has_v _ _ (by rw [List.length_take]; omega) k (by rw [List.length_take]; omega), Option.bind_some]
        by_cases h3 : rd l (i : Int) ∈ l.take i
        · rw [if_pos (decide_eq_true h3), if_pos h3]
        · rw [if_neg (by simpa using h3), if_neg h3, IntWalk.wrap64_in _ (by omega), take_at l i (by omega)]
          exact rframes T K P A B V S l L hs hl d (i + 1) k (by omega) (by omega)
    rw [headgateref35_Check.l0, if_pos (by omega), if_pos (by omega), if_pos (by omega)]
    by_cases h0 : rd l (i : Int) < 0
    · rw [if_pos h0]
      exact hj _ ⟨fun _ => by omega, fun _ => rfl⟩
    · rw [if_neg h0]
      exact hj _ ⟨fun q => by have := of_decide_eq_true q; omega, fun q => decide_eq_true (by omega)⟩
theorem rroom (T K P A B V S : Int) (l : List Int) (L : Int) : headgateref35_room.f T K P A B V S l L = some (mostV K) := by
  unfold headgateref35_room.f mostV
  split <;> rfl
theorem raccess (T K P A B V S : Int) (l : List Int) (L : Int) : headgateref35_access.f T K P A B V S l L = some (accV K) := by
  unfold headgateref35_access.f accV
  by_cases h : K = 4
  · rw [if_pos h, decide_eq_true (Or.inl h)]
  · rw [if_neg h]
    by_cases h5 : K = 5
    · rw [decide_eq_true (Or.inr h5), beq_iff_eq.mpr h5]
    · rw [decide_eq_false (by omega), beq_eq_false_iff_ne.mpr h5]
theorem rchk (T K P A B V S : Int) (l : List Int) (L : Int) (hl : l.length < 1000) (k : Nat) (hk : 3 * l.length + 12 ≤ k) : headgateref35_Check.f k T K P A B V S l L = some (chk T K P A B V S l L) := by
  obtain ⟨k, rfl⟩ : ∃ n, k = n + 4 := ⟨k - 4, by omega⟩
  have h2 : ∀ b, (b = true ↔ ¬ (numV K S l.length = true)) → (1 ≤ S ∧ S < 5) → headgateref35_Check.j2 (k + 2) (l.length : Int) b T K P A B V S l L = some (if numV K S l.length = true then frV (endV S L) [] l else 5) := by
    intro b hb hs
    rw [headgateref35_Check.j2]
    by_cases h : b = true
    · rw [if_pos h, if_neg (hb.mp h)]
    · have h3 : numV K S l.length = true := Classical.byContradiction fun q => h (hb.mpr q)
      rw [if_neg h, if_pos h3]
      exact rframes T K P A B V S l L hs hl l.length 0 (k + 1) (by omega) (by omega)
  have h1 : ∀ b, (b = true ↔ ¬ (1 ≤ S ∧ S < 5 ∧ (S ≤ 2 ∨ accV K = true))) → headgateref35_Check.j1 (k + 3) b T K P A B V S l L = some (if 1 ≤ S ∧ S < 5 ∧ (S ≤ 2 ∨ accV K = true) then (if numV K S l.length = true then frV (endV S L) [] l else 5) else 9) := by
    intro b hb
    rw [headgateref35_Check.j1]
    by_cases h : b = true
    · rw [if_pos h, if_neg (hb.mp h)]
    · have h3 : 1 ≤ S ∧ S < 5 ∧ (S ≤ 2 ∨ accV K = true) := Classical.byContradiction fun q => h (hb.mpr q)
      rw [if_neg h, if_pos h3, rroom]
      simp only [Option.bind_some]
      have hm : 1 ≤ mostV K := by unfold mostV; split <;> omega
      have h4 : K = 6 ∨ mostV K = 1 := by unfold mostV; split <;> omega
      have hS : S = 1 ∨ S = 2 ∨ S = 3 ∨ S = 4 := by omega
      have hA : S ≤ 2 ∨ mostV K = 1 := by
        rcases h3.2.2 with q | q
        · exact Or.inl q
        · right
          unfold accV at q
          have := of_decide_eq_true q
          unfold mostV
          rw [if_neg (by omega)]
      have hd : ∀ p : Prop, [Decidable p] → (p ↔ ¬ (numV K S l.length = true)) → headgateref35_Check.j2 (k + 2) (l.length : Int) (decide p) T K P A B V S l L = some (if numV K S l.length = true then frV (endV S L) [] l else 5) := fun p _ hp => h2 _ ⟨fun q => hp.mp (of_decide_eq_true q), fun q => decide_eq_true (hp.mpr q)⟩ ⟨h3.1, h3.2.1⟩
      have ht : ¬ (numV K S l.length = true) → headgateref35_Check.j2 (k + 2) (l.length : Int) true T K P A B V S l L = some (if numV K S l.length = true then frV (endV S L) [] l else 5) := fun q => h2 _ ⟨fun _ => q, fun _ => rfl⟩ ⟨h3.1, h3.2.1⟩
      rcases hS with e | e | e | e
      · subst e
        rw [if_pos rfl]
        have nv : numV K 1 l.length = decide ((l.length : Int) = 0) := by unfold numV; rw [if_pos rfl]
        by_cases n0 : (l.length : Int) > 0
        · rw [if_pos n0]
          exact ht (by rw [nv, decide_eq_true_iff]; omega)
        · rw [if_neg n0, if_neg (by decide), if_neg (by decide)]
          exact hd _ (by rw [nv, decide_eq_true_iff]; omega)
      · subst e
        rw [if_neg (by decide), if_pos rfl]
        have nv : numV K 2 l.length = decide (1 ≤ (l.length : Int) ∧ (l.length : Int) ≤ mostV K) := by unfold numV; rw [if_neg (by decide), if_pos rfl]
        by_cases n0 : (l.length : Int) = 0
        · rw [if_pos n0]
          exact ht (by rw [nv, decide_eq_true_iff]; omega)
        · rw [if_neg n0]
          exact hd _ (by rw [nv, decide_eq_true_iff]; omega)
      · subst e
        rw [if_neg (by decide), if_neg (by decide), if_neg (by decide)]
        have nv : numV K 3 l.length = decide ((l.length : Int) ≤ 1) := by unfold numV; rw [if_neg (by decide), if_neg (by decide), if_pos rfl]
        exact hd _ (by rw [nv, decide_eq_true_iff]; omega)
      · subst e
        rw [if_neg (by decide), if_neg (by decide), if_pos rfl]
        have nv : numV K 4 l.length = decide ((l.length : Int) = 1) := by unfold numV; rw [if_neg (by decide), if_neg (by decide), if_neg (by decide), if_pos rfl]
        by_cases n0 : (l.length : Int) = 0
        · rw [if_pos n0]
          exact ht (by rw [nv, decide_eq_true_iff]; omega)
        · rw [if_neg n0]
          exact hd _ (by rw [nv, decide_eq_true_iff]; omega)
  have key : ∀ b, headgateref35_Check.j0 (k + 4) b T K P A B V S l L = some (if b = true then 2 else (if cmdE K P A B V = 0 then (if 1 ≤ S ∧ S < 5 ∧ (S ≤ 2 ∨ accV K = true) then (if numV K S l.length = true then frV (endV S L) [] l else 5) else 9) else cmdE K P A B V)) := by
    intro b
    rw [headgateref35_Check.j0]
    cases b
    · have f0 : ¬ (false = true) := by decide
      rw [if_neg f0, if_neg f0, rcommand _ _ _ _ _ _ (by omega), Option.bind_some]
      by_cases hc : cmdE K P A B V = 0
      · rw [if_pos hc, if_pos hc]
        by_cases s1 : S < 1
        · rw [if_pos s1]
          exact h1 _ ⟨fun _ => by omega, fun _ => rfl⟩
        rw [if_neg s1]
        by_cases s2 : S > 4
        · rw [if_pos s2]
          exact h1 _ ⟨fun _ => by omega, fun _ => rfl⟩
        rw [if_neg s2, raccess, Option.bind_some]
        by_cases ha : accV K = true
        · rw [if_pos ha]
          exact h1 _ ⟨fun q => absurd q (by decide), fun q => absurd ⟨by omega, by omega, Or.inr ha⟩ q⟩
        · rw [if_neg ha]
          exact h1 _ ⟨fun q w => by
            have := of_decide_eq_true q
            rcases w.2.2 with z | z
            · omega
            · exact ha z, fun q => decide_eq_true (Classical.byContradiction fun z => q ⟨by omega, by omega, Or.inl (by omega)⟩)⟩
      · rw [if_neg hc, if_neg hc]
    · rw [if_pos rfl, if_pos rfl]
  unfold headgateref35_Check.f chk
  by_cases h0 : T < 1
  · rw [if_pos h0, key, if_pos rfl, if_neg (show ¬ (1 ≤ T ∧ T ≤ 1099511627776) by omega)]
  · rw [if_neg h0, key]
    by_cases h3 : T > 1099511627776
    · rw [if_pos (decide_eq_true h3), if_neg (show ¬ (1 ≤ T ∧ T ≤ 1099511627776) by omega)]
    · rw [if_neg (show ¬ (decide (T > 1099511627776) = true) by simpa using h3), if_pos (show 1 ≤ T ∧ T ≤ 1099511627776 by omega)]
end Go.Proofs.Ytigpacfcklcmpaa.Pure
