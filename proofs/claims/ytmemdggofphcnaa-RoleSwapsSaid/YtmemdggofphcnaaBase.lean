/- Plain facts on the parts that all statements of roles use: the chapter's examples hold, equal lists are found equal, a remainder, lists made of numbers. -/
import Derived.Test.YtmemdggofphcnaaXx5
namespace Go.Proofs.Ytmemdggofphcnaa.X
open Go.RowKit Go.Proofs.YtmemdggofphcnaaW.PrintWords Go.Proofs.YtmemdggofphcnaaW.PrintLast Go.Proofs.YtmemdggofphcnaaW.PrintMore

theorem wsm {x : Int} (h0 : -9223372036854775808 ≤ x) (h1 : x < 9223372036854775808) : wrap64 x = x := by unfold wrap64; omega
theorem awake_ev : Ev (fun k => headgatelaw16_awake.f k) true := Ev.of headgatelaw16_awake.mono (k := 30) (by decide +kernel)
theorem same_ints_l0 (l : List Int) (hl : l.length < 1000000) (d : Nat) : ∀ i : Nat, i + d = l.length → Ev (fun k => headgatekit_SameInts.l0 k l l (i : Int)) true := by
  induction d with
  | zero =>
    intro i hi
    refine Ev.step (f := fun _ => some true) (fun k => ?_) (Ev.now _)
    simp only [headgatekit_SameInts.l0]
    rw [if_neg (by omega)]
  | succ d ih =>
    intro i hi
    refine Ev.step (f := fun k => headgatekit_SameInts.l0 k l l ((i + 1 : Nat) : Int)) (fun k => ?_) (ih (i + 1) (by omega))
    simp only [headgatekit_SameInts.l0]
    rw [if_pos (by omega), if_pos (by omega), if_pos (by omega), if_pos trivial, wsm (by omega) (by omega)]
    rfl
theorem same_ints (l : List Int) (hl : l.length < 1000000) : Ev (fun k => headgatekit_SameInts.f k l l) true := by
  refine Ev.congr (f := fun k => headgatekit_SameInts.l0 k l l 0) (fun k => ?_) (same_ints_l0 l hl l.length 0 (by omega))
  unfold headgatekit_SameInts.f
  rw [if_pos rfl]
theorem mod_at (a m : Int) (h0 : 1 ≤ m) (h1 : m ≤ 4611686018427387904) : headgatekit_Mod.f a m = some (a % m) := by
  unfold headgatekit_Mod.f
  rw [if_neg (by omega), if_neg (by omega)]
  have h2 := Int.emod_nonneg a (show m ≠ 0 by omega)
  have h3 := Int.emod_lt_of_pos a (show 0 < m by omega)
  have hm : Int.tmod a m = if 0 ≤ a ∨ m ∣ a then a % m else a % m - m := by
    rw [Int.tmod_eq_emod]
    split
    · omega
    · omega
  rw [hm]
  by_cases h : 0 ≤ a ∨ m ∣ a
  · rw [if_pos h, if_neg (by omega)]
  · rw [if_neg h]
    have h4 : a % m ≠ 0 := fun e => h (.inr (Int.dvd_of_emod_eq_zero e))
    rw [if_pos (by omega), wsm (by omega) (by omega)]
    congr 1
    omega
/-- The list made of numbers. -/
def madeL (l : List Int) : List Int := (l.take 30).map (· % 8)
theorem madeL_mem {l : List Int} {r : Int} (h : r ∈ madeL l) : 0 ≤ r ∧ r < 8 := by
  obtain ⟨x, _, rfl⟩ := List.mem_map.1 h
  omega
theorem madeL_len (l : List Int) : (madeL l).length ≤ 30 := by
  unfold madeL
  rw [List.length_map, List.length_take]
  omega
theorem made_l0 (l : List Int) (hl : l.length < 4611686018427387904) (d : Nat) : ∀ i : Nat, i + d = min 30 l.length → Ev (fun k => headgatelaw16_made.l0 k l ((l.take i).map (· % 8)) (i : Int)) (madeL l) := by
  induction d with
  | zero =>
    intro i hi
    refine Ev.step (f := fun _ => some (madeL l)) (fun k => ?_) (Ev.now _)
    simp only [headgatelaw16_made.l0]
    have he : (l.take i).map (· % 8) = madeL l := by
      unfold madeL
      rcases Nat.lt_or_ge l.length 30 with h | h
      · rw [List.take_of_length_le (by omega), List.take_of_length_le (by omega)]
      · rw [show i = 30 by omega]
    by_cases h : (i : Int) < (l.length : Int)
    · rw [if_pos h, if_neg (by omega), he]
    · rw [if_neg h, he]
  | succ d ih =>
    intro i hi
    have hlt : i < l.length := by omega
    refine Ev.step (f := fun k => headgatelaw16_made.l0 k l ((l.take (i + 1)).map (· % 8)) ((i + 1 : Nat) : Int)) (fun k => ?_) (ih (i + 1) (by omega))
    simp only [headgatelaw16_made.l0]
    rw [if_pos (by omega), if_pos (by omega), if_pos (by omega), mod_at _ 8 (by omega) (by omega)]
    simp only [Option.bind_some]
    rw [if_pos (by rw [List.length_map, List.length_take]; omega), wsm (by omega) (by omega), rd_at l i hlt, List.take_succ_eq_append_getElem hlt, List.map_append]
    rfl
theorem made_ev (l : List Int) (hl : l.length < 4611686018427387904) : Ev (fun k => headgatelaw16_made.f k l) (madeL l) := made_l0 l hl (min 30 l.length) 0 (by omega)
theorem badAt_none {l : List Int} : ∀ i : Int, (∀ r ∈ l, 0 ≤ r ∧ r < 8) → badAt l i = -1 := by
  induction l with
  | nil => intro i _; rfl
  | cons a l ih =>
    intro i h
    rw [badAt, if_pos (h a List.mem_cons_self), ih _ (fun x hx => h x (List.mem_cons_of_mem _ hx))]
theorem check_ok {l : List Int} (hl : l.length ≤ 256) (h : ∀ r ∈ l, 0 ≤ r ∧ r < 8) : role_Check.f l = some (0, 0) := by
  unfold role_Check.f
  rw [if_neg (by omega), badAt_none 0 h, if_neg (by decide)]
end Go.Proofs.Ytmemdggofphcnaa.X
