/- fault.command: for any command, which error it has; nothing that was there is changed. -/
import Derived.Test.YtigpacfcklcmpaaXx0
import Derived.Test.YtigpacfcklcmpaaXx1
import Derived.Test.YtigpacfcklcmpaaXx3
namespace Go.Proofs.Ytigpacfcklcmpaa.X
open Go.RowKit Go.Proofs.YtigpacfcklcmpaaW.PrintWords Go.Proofs.YtigpacfcklcmpaaW.PrintLast Go.Proofs.YtigpacfcklcmpaaW.PrintMore
set_option linter.unusedVariables false
attribute [local go_sem high] eqA24
/-- Is a number from low to below high. -/
def inB (n lo hi : Int) : Bool := decide (lo ≤ n) && decide (n < hi)
theorem in_call (n lo hi : Int) (w : World) : Calls Try.prog 34 #[.int .i64 n, .int .i64 lo, .int .i64 hi] w fun e w' => e = .returned (.bool (inB n lo hi)) ∧ Drawn0 w w' := by
  refine fault_in.calls n lo hi _ w ?_
  unfold fault_in.f inB
  by_cases h : n ≥ lo
  · rw [if_pos h, decide_eq_true h, Bool.true_and]
  · rw [if_neg h, decide_eq_false h, Bool.false_and]
/-- What 'command' finds. -/
def cmdE (a0 a1 a2 a3 a4 : Int) : Int :=
  if a0 = 5 then (if (inB a1 1 9 && inB a2 0 64 && inB a3 0 8) = true then 0 else 2)
  else if a0 = 4 then (if (inB a1 1 9 && inB a2 0 64 && inB a3 0 8) = true then (if a4 = 0 then 0 else 3) else 2)
  else if a0 = 6 then (if (inB a1 1 9 && inB a2 1 9 && (a2 != a1)) = true then (if a3 = 0 ∧ a4 = 0 then 0 else 3) else 2)
  else if a0 = 1 then (if inB a1 1 9 = true then (if a2 = 0 ∧ a3 = 0 ∧ a4 = 0 then 0 else 3) else 2)
  else 16
set_option maxRecDepth 100000 in
set_option maxHeartbeats 4000000 in
theorem cmd_other (a0 a1 a2 a3 a4 : Int) (w : World) (k5 : (a0 == 5) = false) (k4 : (a0 == 4) = false) (k6 : (a0 == 6) = false) (k1 : (a0 == 1) = false) :
    Calls Try.prog 36 #[.agg #[.int .i64 a0, .int .i64 a1, .int .i64 a2, .int .i64 a3, .int .u64 a4]] w fun e w' => e = .returned (.int .i64 16) ∧ Below w.heap.size w w' := by
  have i1 := in_call a1 1 9
  generalize inB a1 1 9 = b1 at i1
  go_enter Try.func36, Try.ntmps36
  go_wp2_with (go_at_call 34; (with_reducible refine (i1 _).mono ?_); rintro e w' ⟨rfl, ⟨nd, rfl⟩⟩)
  go_ret
  exact ⟨rfl, by repeat (first | exact Below.refl _ _ | apply below_alloc | apply pw_below_drewN | apply below_drew1 | refine below_set ?_ (by simp))⟩
set_option maxRecDepth 100000 in
set_option maxHeartbeats 4000000 in
theorem cmd_spawn_no (a1 a2 a3 a4 : Int) (w : World) (h1 : inB a1 1 9 = false) :
    Calls Try.prog 36 #[.agg #[.int .i64 1, .int .i64 a1, .int .i64 a2, .int .i64 a3, .int .u64 a4]] w fun e w' => e = .returned (.int .i64 2) ∧ Below w.heap.size w w' := by
  have i1 := in_call a1 1 9
  rw [h1] at i1
  go_enter Try.func36, Try.ntmps36
  go_wp2_with (first | (go_at_call 34; (with_reducible refine (i1 _).mono ?_); rintro e w' ⟨rfl, ⟨ndi1, rfl⟩⟩))
  go_ret
  exact ⟨rfl, by repeat (first | exact Below.refl _ _ | apply below_alloc | apply pw_below_drewN | apply below_drew1 | refine below_set ?_ (by simp))⟩
set_option maxRecDepth 100000 in
set_option maxHeartbeats 4000000 in
theorem cmd_spawn_bad (a1 a2 a3 a4 : Int) (w : World) (h1 : inB a1 1 9 = true) (hz : (0 == a2 && (0 == a3 && 0 == a4)) = false) :
    Calls Try.prog 36 #[.agg #[.int .i64 1, .int .i64 a1, .int .i64 a2, .int .i64 a3, .int .u64 a4]] w fun e w' => e = .returned (.int .i64 3) ∧ Below w.heap.size w w' := by
  have i1 := in_call a1 1 9
  rw [h1] at i1
  go_enter Try.func36, Try.ntmps36
  go_wp2_with (first | (go_at_call 34; (with_reducible refine (i1 _).mono ?_); rintro e w' ⟨rfl, ⟨ndi1, rfl⟩⟩))
  go_ret
  exact ⟨rfl, by repeat (first | exact Below.refl _ _ | apply below_alloc | apply pw_below_drewN | apply below_drew1 | refine below_set ?_ (by simp))⟩
set_option maxRecDepth 100000 in
set_option maxHeartbeats 4000000 in
theorem cmd_spawn_ok (a1 a2 a3 a4 : Int) (w : World) (h1 : inB a1 1 9 = true) (z2 : a2 = 0) (z3 : a3 = 0) (z4 : a4 = 0) :
    Calls Try.prog 36 #[.agg #[.int .i64 1, .int .i64 a1, .int .i64 a2, .int .i64 a3, .int .u64 a4]] w fun e w' => e = .returned (.int .i64 0) ∧ Below w.heap.size w w' := by
  subst z2 z3 z4
  have i1 := in_call a1 1 9
  rw [h1] at i1
  go_enter Try.func36, Try.ntmps36
  go_wp2_with (first | (go_at_call 34; (with_reducible refine (i1 _).mono ?_); rintro e w' ⟨rfl, ⟨ndi1, rfl⟩⟩))
  go_ret
  exact ⟨rfl, by repeat (first | exact Below.refl _ _ | apply below_alloc | apply pw_below_drewN | apply below_drew1 | refine below_set ?_ (by simp))⟩
set_option maxRecDepth 100000 in
set_option maxHeartbeats 4000000 in
theorem cmd_fork_no1 (a1 a2 a3 a4 : Int) (w : World) (h1 : inB a1 1 9 = false) :
    Calls Try.prog 36 #[.agg #[.int .i64 6, .int .i64 a1, .int .i64 a2, .int .i64 a3, .int .u64 a4]] w fun e w' => e = .returned (.int .i64 2) ∧ Below w.heap.size w w' := by
  have i1 := in_call a1 1 9
  rw [h1] at i1
  go_enter Try.func36, Try.ntmps36
  go_wp2_with (first | (go_at_call 34; (with_reducible refine (i1 _).mono ?_); rintro e w' ⟨rfl, ⟨ndi1, rfl⟩⟩))
  go_ret
  exact ⟨rfl, by repeat (first | exact Below.refl _ _ | apply below_alloc | apply pw_below_drewN | apply below_drew1 | refine below_set ?_ (by simp))⟩
set_option maxRecDepth 100000 in
set_option maxHeartbeats 4000000 in
theorem cmd_fork_no2 (a1 a2 a3 a4 : Int) (w : World) (h1 : inB a1 1 9 = true) (h2 : inB a2 1 9 = false) :
    Calls Try.prog 36 #[.agg #[.int .i64 6, .int .i64 a1, .int .i64 a2, .int .i64 a3, .int .u64 a4]] w fun e w' => e = .returned (.int .i64 2) ∧ Below w.heap.size w w' := by
  have i1 := in_call a1 1 9
  rw [h1] at i1
  have i2 := in_call a2 1 9
  rw [h2] at i2
  go_enter Try.func36, Try.ntmps36
  go_wp2_with (first | (go_at_call 34; (with_reducible refine (i1 _).mono ?_); rintro e w' ⟨rfl, ⟨ndi1, rfl⟩⟩) | (go_at_call 34; (with_reducible refine (i2 _).mono ?_); rintro e w' ⟨rfl, ⟨ndi2, rfl⟩⟩))
  go_ret
  exact ⟨rfl, by repeat (first | exact Below.refl _ _ | apply below_alloc | apply pw_below_drewN | apply below_drew1 | refine below_set ?_ (by simp))⟩
set_option maxRecDepth 100000 in
set_option maxHeartbeats 4000000 in
theorem cmd_fork_no3 (a1 a2 a3 a4 : Int) (w : World) (h1 : inB a1 1 9 = true) (h2 : inB a2 1 9 = true) (h3 : (a2 != a1) = false) (h3' : (a2 == a1) = true) :
    Calls Try.prog 36 #[.agg #[.int .i64 6, .int .i64 a1, .int .i64 a2, .int .i64 a3, .int .u64 a4]] w fun e w' => e = .returned (.int .i64 2) ∧ Below w.heap.size w w' := by
  have i1 := in_call a1 1 9
  rw [h1] at i1
  have i2 := in_call a2 1 9
  rw [h2] at i2
  go_enter Try.func36, Try.ntmps36
  go_wp2_with (first | (go_at_call 34; (with_reducible refine (i1 _).mono ?_); rintro e w' ⟨rfl, ⟨ndi1, rfl⟩⟩) | (go_at_call 34; (with_reducible refine (i2 _).mono ?_); rintro e w' ⟨rfl, ⟨ndi2, rfl⟩⟩))
  go_ret
  exact ⟨rfl, by repeat (first | exact Below.refl _ _ | apply below_alloc | apply pw_below_drewN | apply below_drew1 | refine below_set ?_ (by simp))⟩
set_option maxRecDepth 100000 in
set_option maxHeartbeats 4000000 in
theorem cmd_fork_bad (a1 a2 a3 a4 : Int) (w : World) (h1 : inB a1 1 9 = true) (h2 : inB a2 1 9 = true) (h3 : (a2 != a1) = true) (h3' : (a2 == a1) = false) (hz : (0 == a3 && 0 == a4) = false) :
    Calls Try.prog 36 #[.agg #[.int .i64 6, .int .i64 a1, .int .i64 a2, .int .i64 a3, .int .u64 a4]] w fun e w' => e = .returned (.int .i64 3) ∧ Below w.heap.size w w' := by
  have i1 := in_call a1 1 9
  rw [h1] at i1
  have i2 := in_call a2 1 9
  rw [h2] at i2
  go_enter Try.func36, Try.ntmps36
  go_wp2_with (first | (go_at_call 34; (with_reducible refine (i1 _).mono ?_); rintro e w' ⟨rfl, ⟨ndi1, rfl⟩⟩) | (go_at_call 34; (with_reducible refine (i2 _).mono ?_); rintro e w' ⟨rfl, ⟨ndi2, rfl⟩⟩))
  go_ret
  exact ⟨rfl, by repeat (first | exact Below.refl _ _ | apply below_alloc | apply pw_below_drewN | apply below_drew1 | refine below_set ?_ (by simp))⟩
set_option maxRecDepth 100000 in
set_option maxHeartbeats 4000000 in
theorem cmd_fork_ok (a1 a2 a3 a4 : Int) (w : World) (h1 : inB a1 1 9 = true) (h2 : inB a2 1 9 = true) (h3 : (a2 != a1) = true) (h3' : (a2 == a1) = false) (z3 : a3 = 0) (z4 : a4 = 0) :
    Calls Try.prog 36 #[.agg #[.int .i64 6, .int .i64 a1, .int .i64 a2, .int .i64 a3, .int .u64 a4]] w fun e w' => e = .returned (.int .i64 0) ∧ Below w.heap.size w w' := by
  subst z3 z4
  have i1 := in_call a1 1 9
  rw [h1] at i1
  have i2 := in_call a2 1 9
  rw [h2] at i2
  go_enter Try.func36, Try.ntmps36
  go_wp2_with (first | (go_at_call 34; (with_reducible refine (i1 _).mono ?_); rintro e w' ⟨rfl, ⟨ndi1, rfl⟩⟩) | (go_at_call 34; (with_reducible refine (i2 _).mono ?_); rintro e w' ⟨rfl, ⟨ndi2, rfl⟩⟩))
  go_ret
  exact ⟨rfl, by repeat (first | exact Below.refl _ _ | apply below_alloc | apply pw_below_drewN | apply below_drew1 | refine below_set ?_ (by simp))⟩
set_option maxRecDepth 100000 in
set_option maxHeartbeats 4000000 in
theorem cmd_read_no1 (a1 a2 a3 a4 : Int) (w : World) (h1 : inB a1 1 9 = false) :
    Calls Try.prog 36 #[.agg #[.int .i64 4, .int .i64 a1, .int .i64 a2, .int .i64 a3, .int .u64 a4]] w fun e w' => e = .returned (.int .i64 2) ∧ Below w.heap.size w w' := by
  have i1 := in_call a1 1 9
  rw [h1] at i1
  go_enter Try.func36, Try.ntmps36
  go_wp2_with (first | (go_at_call 34; (with_reducible refine (i1 _).mono ?_); rintro e w' ⟨rfl, ⟨ndi1, rfl⟩⟩))
  go_region
  all_goals
    go_wp2
    go_ret
    exact ⟨rfl, by repeat (first | exact Below.refl _ _ | apply below_alloc | apply pw_below_drewN | apply below_drew1 | refine below_set ?_ (by simp))⟩
set_option maxRecDepth 100000 in
set_option maxHeartbeats 4000000 in
theorem cmd_read_no2 (a1 a2 a3 a4 : Int) (w : World) (h1 : inB a1 1 9 = true) (h2 : inB a2 0 64 = false) :
    Calls Try.prog 36 #[.agg #[.int .i64 4, .int .i64 a1, .int .i64 a2, .int .i64 a3, .int .u64 a4]] w fun e w' => e = .returned (.int .i64 2) ∧ Below w.heap.size w w' := by
  have i1 := in_call a1 1 9
  rw [h1] at i1
  have i2 := in_call a2 0 64
  rw [h2] at i2
  go_enter Try.func36, Try.ntmps36
  go_wp2_with (first | (go_at_call 34; (with_reducible refine (i1 _).mono ?_); rintro e w' ⟨rfl, ⟨ndi1, rfl⟩⟩) | (go_at_call 34; (with_reducible refine (i2 _).mono ?_); rintro e w' ⟨rfl, ⟨ndi2, rfl⟩⟩))
  go_region
  all_goals
    go_wp2
    go_ret
    exact ⟨rfl, by repeat (first | exact Below.refl _ _ | apply below_alloc | apply pw_below_drewN | apply below_drew1 | refine below_set ?_ (by simp))⟩
set_option maxRecDepth 100000 in
set_option maxHeartbeats 4000000 in
theorem cmd_read_no3 (a1 a2 a3 a4 : Int) (w : World) (h1 : inB a1 1 9 = true) (h2 : inB a2 0 64 = true) (h3 : inB a3 0 8 = false) :
    Calls Try.prog 36 #[.agg #[.int .i64 4, .int .i64 a1, .int .i64 a2, .int .i64 a3, .int .u64 a4]] w fun e w' => e = .returned (.int .i64 2) ∧ Below w.heap.size w w' := by
  have i1 := in_call a1 1 9
  rw [h1] at i1
  have i2 := in_call a2 0 64
  rw [h2] at i2
  have i3 := in_call a3 0 8
  rw [h3] at i3
  go_enter Try.func36, Try.ntmps36
  go_wp2_with (first | (go_at_call 34; (with_reducible refine (i1 _).mono ?_); rintro e w' ⟨rfl, ⟨ndi1, rfl⟩⟩) | (go_at_call 34; (with_reducible refine (i2 _).mono ?_); rintro e w' ⟨rfl, ⟨ndi2, rfl⟩⟩) | (go_at_call 34; (with_reducible refine (i3 _).mono ?_); rintro e w' ⟨rfl, ⟨ndi3, rfl⟩⟩))
  go_region
  all_goals
    go_wp2
    go_ret
    exact ⟨rfl, by repeat (first | exact Below.refl _ _ | apply below_alloc | apply pw_below_drewN | apply below_drew1 | refine below_set ?_ (by simp))⟩
set_option maxRecDepth 100000 in
set_option maxHeartbeats 4000000 in
theorem cmd_write_no1 (a1 a2 a3 a4 : Int) (w : World) (h1 : inB a1 1 9 = false) :
    Calls Try.prog 36 #[.agg #[.int .i64 5, .int .i64 a1, .int .i64 a2, .int .i64 a3, .int .u64 a4]] w fun e w' => e = .returned (.int .i64 2) ∧ Below w.heap.size w w' := by
  have i1 := in_call a1 1 9
  rw [h1] at i1
  go_enter Try.func36, Try.ntmps36
  go_wp2_with (first | (go_at_call 34; (with_reducible refine (i1 _).mono ?_); rintro e w' ⟨rfl, ⟨ndi1, rfl⟩⟩))
  go_region
  all_goals
    go_wp2
    go_ret
    exact ⟨rfl, by repeat (first | exact Below.refl _ _ | apply below_alloc | apply pw_below_drewN | apply below_drew1 | refine below_set ?_ (by simp))⟩
set_option maxRecDepth 100000 in
set_option maxHeartbeats 4000000 in
theorem cmd_write_no2 (a1 a2 a3 a4 : Int) (w : World) (h1 : inB a1 1 9 = true) (h2 : inB a2 0 64 = false) :
    Calls Try.prog 36 #[.agg #[.int .i64 5, .int .i64 a1, .int .i64 a2, .int .i64 a3, .int .u64 a4]] w fun e w' => e = .returned (.int .i64 2) ∧ Below w.heap.size w w' := by
  have i1 := in_call a1 1 9
  rw [h1] at i1
  have i2 := in_call a2 0 64
  rw [h2] at i2
  go_enter Try.func36, Try.ntmps36
  go_wp2_with (first | (go_at_call 34; (with_reducible refine (i1 _).mono ?_); rintro e w' ⟨rfl, ⟨ndi1, rfl⟩⟩) | (go_at_call 34; (with_reducible refine (i2 _).mono ?_); rintro e w' ⟨rfl, ⟨ndi2, rfl⟩⟩))
  go_region
  all_goals
    go_wp2
    go_ret
    exact ⟨rfl, by repeat (first | exact Below.refl _ _ | apply below_alloc | apply pw_below_drewN | apply below_drew1 | refine below_set ?_ (by simp))⟩
set_option maxRecDepth 100000 in
set_option maxHeartbeats 4000000 in
theorem cmd_write_no3 (a1 a2 a3 a4 : Int) (w : World) (h1 : inB a1 1 9 = true) (h2 : inB a2 0 64 = true) (h3 : inB a3 0 8 = false) :
    Calls Try.prog 36 #[.agg #[.int .i64 5, .int .i64 a1, .int .i64 a2, .int .i64 a3, .int .u64 a4]] w fun e w' => e = .returned (.int .i64 2) ∧ Below w.heap.size w w' := by
  have i1 := in_call a1 1 9
  rw [h1] at i1
  have i2 := in_call a2 0 64
  rw [h2] at i2
  have i3 := in_call a3 0 8
  rw [h3] at i3
  go_enter Try.func36, Try.ntmps36
  go_wp2_with (first | (go_at_call 34; (with_reducible refine (i1 _).mono ?_); rintro e w' ⟨rfl, ⟨ndi1, rfl⟩⟩) | (go_at_call 34; (with_reducible refine (i2 _).mono ?_); rintro e w' ⟨rfl, ⟨ndi2, rfl⟩⟩) | (go_at_call 34; (with_reducible refine (i3 _).mono ?_); rintro e w' ⟨rfl, ⟨ndi3, rfl⟩⟩))
  go_region
  all_goals
    go_wp2
    go_ret
    exact ⟨rfl, by repeat (first | exact Below.refl _ _ | apply below_alloc | apply pw_below_drewN | apply below_drew1 | refine below_set ?_ (by simp))⟩
set_option maxRecDepth 100000 in
set_option maxHeartbeats 4000000 in
theorem cmd_write_ok (a1 a2 a3 a4 : Int) (w : World) (h1 : inB a1 1 9 = true) (h2 : inB a2 0 64 = true) (h3 : inB a3 0 8 = true) :
    Calls Try.prog 36 #[.agg #[.int .i64 5, .int .i64 a1, .int .i64 a2, .int .i64 a3, .int .u64 a4]] w fun e w' => e = .returned (.int .i64 0) ∧ Below w.heap.size w w' := by
  have i1 := in_call a1 1 9
  rw [h1] at i1
  have i2 := in_call a2 0 64
  rw [h2] at i2
  have i3 := in_call a3 0 8
  rw [h3] at i3
  go_enter Try.func36, Try.ntmps36
  go_wp2_with (first | (go_at_call 34; (with_reducible refine (i1 _).mono ?_); rintro e w' ⟨rfl, ⟨ndi1, rfl⟩⟩) | (go_at_call 34; (with_reducible refine (i2 _).mono ?_); rintro e w' ⟨rfl, ⟨ndi2, rfl⟩⟩) | (go_at_call 34; (with_reducible refine (i3 _).mono ?_); rintro e w' ⟨rfl, ⟨ndi3, rfl⟩⟩))
  go_region
  all_goals
    go_wp2
    go_ret
    exact ⟨rfl, by repeat (first | exact Below.refl _ _ | apply below_alloc | apply pw_below_drewN | apply below_drew1 | refine below_set ?_ (by simp))⟩
set_option maxRecDepth 100000 in
set_option maxHeartbeats 4000000 in
theorem cmd_read_bad (a1 a2 a3 a4 : Int) (w : World) (h1 : inB a1 1 9 = true) (h2 : inB a2 0 64 = true) (h3 : inB a3 0 8 = true) (hz : (0 == a4) = false) :
    Calls Try.prog 36 #[.agg #[.int .i64 4, .int .i64 a1, .int .i64 a2, .int .i64 a3, .int .u64 a4]] w fun e w' => e = .returned (.int .i64 3) ∧ Below w.heap.size w w' := by
  have i1 := in_call a1 1 9
  rw [h1] at i1
  have i2 := in_call a2 0 64
  rw [h2] at i2
  have i3 := in_call a3 0 8
  rw [h3] at i3
  go_enter Try.func36, Try.ntmps36
  go_wp2_with (first | (go_at_call 34; (with_reducible refine (i1 _).mono ?_); rintro e w' ⟨rfl, ⟨ndi1, rfl⟩⟩) | (go_at_call 34; (with_reducible refine (i2 _).mono ?_); rintro e w' ⟨rfl, ⟨ndi2, rfl⟩⟩) | (go_at_call 34; (with_reducible refine (i3 _).mono ?_); rintro e w' ⟨rfl, ⟨ndi3, rfl⟩⟩))
  go_region
  all_goals
    go_wp2
    go_ret
    exact ⟨rfl, by repeat (first | exact Below.refl _ _ | apply below_alloc | apply pw_below_drewN | apply below_drew1 | refine below_set ?_ (by simp))⟩
set_option maxRecDepth 100000 in
set_option maxHeartbeats 4000000 in
theorem cmd_read_ok (a1 a2 a3 a4 : Int) (w : World) (h1 : inB a1 1 9 = true) (h2 : inB a2 0 64 = true) (h3 : inB a3 0 8 = true) (z4 : a4 = 0) :
    Calls Try.prog 36 #[.agg #[.int .i64 4, .int .i64 a1, .int .i64 a2, .int .i64 a3, .int .u64 a4]] w fun e w' => e = .returned (.int .i64 0) ∧ Below w.heap.size w w' := by
  subst z4
  have i1 := in_call a1 1 9
  rw [h1] at i1
  have i2 := in_call a2 0 64
  rw [h2] at i2
  have i3 := in_call a3 0 8
  rw [h3] at i3
  go_enter Try.func36, Try.ntmps36
  go_wp2_with (first | (go_at_call 34; (with_reducible refine (i1 _).mono ?_); rintro e w' ⟨rfl, ⟨ndi1, rfl⟩⟩) | (go_at_call 34; (with_reducible refine (i2 _).mono ?_); rintro e w' ⟨rfl, ⟨ndi2, rfl⟩⟩) | (go_at_call 34; (with_reducible refine (i3 _).mono ?_); rintro e w' ⟨rfl, ⟨ndi3, rfl⟩⟩))
  go_region
  all_goals
    go_wp2
    go_ret
    exact ⟨rfl, by repeat (first | exact Below.refl _ _ | apply below_alloc | apply pw_below_drewN | apply below_drew1 | refine below_set ?_ (by simp))⟩
theorem neB {a b : Int} (h : a ≠ b) : (a == b) = false := beq_eq_false_iff_ne.mpr h
def fault_command.f (a0 a1 a2 a3 a4 : Int) : Option Int := some (cmdE a0 a1 a2 a3 a4)
theorem fault_command.calls (a0 a1 a2 a3 a4 : Int) (r : Int) (w : World) (h : fault_command.f a0 a1 a2 a3 a4 = some r) :
    Calls Try.prog 36 #[.agg #[.int .i64 a0, .int .i64 a1, .int .i64 a2, .int .i64 a3, .int .u64 a4]] w fun e w' => e = .returned (.int .i64 r) ∧ Below w.heap.size w w' := by
  have h := Option.some.inj h
  subst h
  unfold cmdE
  by_cases k5 : a0 = 5
  · subst k5
    rw [if_pos rfl]
    cases h1 : inB a1 1 9 with
    | false => exact cmd_write_no1 a1 a2 a3 a4 w h1
    | true =>
      cases h2 : inB a2 0 64 with
      | false => exact cmd_write_no2 a1 a2 a3 a4 w h1 h2
      | true =>
        cases h3 : inB a3 0 8 with
        | false => exact cmd_write_no3 a1 a2 a3 a4 w h1 h2 h3
        | true => exact cmd_write_ok a1 a2 a3 a4 w h1 h2 h3
  · rw [if_neg k5]
    by_cases k4 : a0 = 4
    · subst k4
      rw [if_pos rfl]
      cases h1 : inB a1 1 9 with
      | false => exact cmd_read_no1 a1 a2 a3 a4 w h1
      | true =>
        cases h2 : inB a2 0 64 with
        | false => exact cmd_read_no2 a1 a2 a3 a4 w h1 h2
        | true =>
          cases h3 : inB a3 0 8 with
          | false => exact cmd_read_no3 a1 a2 a3 a4 w h1 h2 h3
          | true =>
            by_cases z4 : a4 = 0
            · rw [if_pos z4]
              exact cmd_read_ok a1 a2 a3 a4 w h1 h2 h3 z4
            · rw [if_neg z4]
              exact cmd_read_bad a1 a2 a3 a4 w h1 h2 h3 (neB (fun e => z4 e.symm))
    · rw [if_neg k4]
      by_cases k6 : a0 = 6
      · subst k6
        rw [if_pos rfl]
        cases h1 : inB a1 1 9 with
        | false => exact cmd_fork_no1 a1 a2 a3 a4 w h1
        | true =>
          cases h2 : inB a2 1 9 with
          | false => exact cmd_fork_no2 a1 a2 a3 a4 w h1 h2
          | true =>
            by_cases e : a2 = a1
            · have h3 : (a2 != a1) = false := by simp [e]
              rw [h3]
              exact cmd_fork_no3 a1 a2 a3 a4 w h1 h2 h3 (by simp [e])
            · have h3 : (a2 != a1) = true := by simp [e]
              rw [h3]
              by_cases z : a3 = 0 ∧ a4 = 0
              · rw [if_pos z]
                exact cmd_fork_ok a1 a2 a3 a4 w h1 h2 h3 (neB e) z.1 z.2
              · rw [if_neg z]
                refine cmd_fork_bad a1 a2 a3 a4 w h1 h2 h3 (neB e) (Bool.eq_false_iff.mpr fun d => z ?_)
                simp only [Bool.and_eq_true, beq_iff_eq] at d
                exact ⟨d.1.symm, d.2.symm⟩
      · rw [if_neg k6]
        by_cases k1 : a0 = 1
        · subst k1
          rw [if_pos rfl]
          cases h1 : inB a1 1 9 with
          | false => exact cmd_spawn_no a1 a2 a3 a4 w h1
          | true =>
            by_cases z : a2 = 0 ∧ a3 = 0 ∧ a4 = 0
            · rw [if_pos z]
              exact cmd_spawn_ok a1 a2 a3 a4 w h1 z.1 z.2.1 z.2.2
            · rw [if_neg z]
              refine cmd_spawn_bad a1 a2 a3 a4 w h1 (Bool.eq_false_iff.mpr fun d => z ?_)
              simp only [Bool.and_eq_true, beq_iff_eq] at d
              exact ⟨d.1.symm, d.2.1.symm, d.2.2.symm⟩
        · rw [if_neg k1]
          exact cmd_other a0 a1 a2 a3 a4 w (neB k5) (neB k4) (neB k6) (neB k1)
end Go.Proofs.Ytigpacfcklcmpaa.X
