/- OrderSizes, without the machine: for any two numbers the logarithms of the first and the size of the second are the reference's, or the same errors, and the chapter's examples hold. No condition. -/
import Derived.Test.YtcdeaiiiplkfiaaLogs
namespace Go.Proofs.Ytcdeaiiiplkfiaa.Pure
open Go.RowKit Go.Proofs.Ytcdeaiiiplkfiaa.X Go.Proofs.YtcdeaiiiplkfiaaW.PrintWords Go.Proofs.YtcdeaiiiplkfiaaW.PrintLast Go.Proofs.YtcdeaiiiplkfiaaW.PrintMore OrdMath
theorem reflog_l0 (n : Nat) : n ≠ 0 → n < 9223372036854775808 → ∀ c : Nat, c + Lib.bitLen n ≤ 100 → Ev (fun k => headgateref08_Log.l0 k (n : Int) (c : Int)) (((c + Lib.bitLen n : Nat) : Int) - 1, 0) := by
  induction n using Nat.strongRecOn with
  | _ n ih =>
    intro h0 h c hc
    by_cases h1 : n = 1
    · subst h1
      refine Ev.step (f := fun _ => some ((c : Int), 0)) (fun k => ?_) ?_
      · simp only [headgateref08_Log.l0]
        rw [if_neg (by omega)]
      · rw [show ((c + Lib.bitLen 1 : Nat) : Int) - 1 = (c : Int) by rw [show Lib.bitLen 1 = 1 by decide]; omega]
        exact Ev.now _
    · have hh := Lib.bitLen_half n h0 (by omega)
      have := ih (n / 2) (by omega) (by omega) (by omega) (c + 1) (by omega)
      rw [show ((c + 1 + Lib.bitLen (n / 2) : Nat) : Int) = ((c + Lib.bitLen n : Nat) : Int) by omega] at this
      refine Ev.step (fun k => ?_) this
      simp only [headgateref08_Log.l0]
      have h2 : Int.tdiv (n : Int) 2 = ((n / 2 : Nat) : Int) := by rw [Int.tdiv_eq_ediv_of_nonneg (by omega)]; rfl
      rw [if_pos (by omega), wsm (x := (c : Int) + 1) (by omega) (by omega), h2, wsm (by omega) (by omega)]
      rfl
theorem bl_le (n : Nat) (h : n < 9223372036854775808) : Lib.bitLen n ≤ 64 := by
  by_cases h0 : n = 0
  · subst h0
    rw [bl_zero]
    omega
  · obtain ⟨j, hj, h1, _⟩ := bl_spec n h0 (by omega)
    rcases Nat.lt_or_ge j 64 with h3 | h3
    · omega
    · have := Nat.pow_le_pow_right (n := 2) (by omega) h3; omega
theorem reflog_at {n : Nat} (h0 : n ≠ 0) (h : n < 9223372036854775808) : Ev (fun k => headgateref08_Log.f k (n : Int)) (((Lib.bitLen n : Nat) : Int) - 1, 0) := by
  have := reflog_l0 n h0 h 0 (by have := bl_le n h; omega)
  rw [Nat.zero_add] at this
  refine Ev.congr (fun k => ?_) this
  unfold headgateref08_Log.f
  rw [if_neg (by omega)]
  rfl
theorem refleast_at {n : Nat} (h0 : n ≠ 0) (h : n < 9223372036854775808) : Ev (fun k => headgateref08_Least.f k (n : Int)) (((Lib.bitLen (n - 1) : Nat) : Int), 0) := by
  by_cases h1 : n = 1
  · subst h1
    refine Ev.congr (f := fun _ => some (0, 0)) (fun k => ?_) ?_
    · unfold headgateref08_Least.f
      rw [if_neg (by omega), if_pos (by rfl)]
    · have : ((Lib.bitLen (1 - 1) : Nat) : Int) = 0 := by decide
      rw [this]
      exact Ev.now _
  · have hl := bl_le (n - 1) (by omega)
    refine Ev.congr (f := fun k => (headgateref08_Log.f k ((n - 1 : Nat) : Int)).bind fun t => some (wrap64 (t.1 + 1), 0)) (fun k => ?_) (Ev.bind (reflog_at (by omega) (by omega)) ?_)
    · unfold headgateref08_Least.f
      rw [if_neg (by omega), if_neg (by omega), wsm (by omega) (by omega), show (n : Int) - 1 = ((n - 1 : Nat) : Int) by omega]
    · dsimp only
      rw [wsm (by omega) (by omega), show ((Lib.bitLen (n - 1) : Nat) : Int) - 1 + 1 = ((Lib.bitLen (n - 1) : Nat) : Int) by omega]
      exact Ev.now _
theorem sizes_at (o : Int) : ∃ r : Int × Int, order_Size.f o = some r ∧ Ev (fun k => headgateref08_Size.f k o) r := by
  by_cases h : o < 0 ∨ 6 < o
  · refine ⟨(0, 2), ?_, Ev.congr (f := fun _ => some (0, 2)) (fun k => ?_) (Ev.now _)⟩
    · unfold order_Size.f
      by_cases h1 : o < 0
      · rw [if_pos h1]
      · rw [if_neg h1, if_pos (by omega)]
    · unfold headgateref08_Size.f
      by_cases h1 : o < 0
      · rw [if_pos h1]
      · rw [if_neg h1, if_pos (by omega)]
  · obtain ⟨j, rfl⟩ := Int.eq_ofNat_of_zero_le (show 0 ≤ o by omega)
    refine ⟨(((2 ^ j : Nat) : Int), 0), ?_, Ev.congr (f := fun k => (headgateref08_size.f k (j : Int)).bind fun t => some (t, 0)) (fun k => ?_) (Ev.bind (size_at (by omega)) (Ev.now _))⟩
    · unfold order_Size.f
      rw [if_neg (by omega), if_neg (by omega), if_pos (by omega), shl_u (by omega)]
    · unfold headgateref08_Size.f
      rw [if_neg (by omega), if_neg (by omega)]
theorem logs_at (n : Int) (h : (Lit.int .i64 n).wf = true) : ∃ r q : Int × Int, order_Log.f n = some r ∧ Ev (fun k => headgateref08_Log.f k n) r ∧ order_Least.f n = some q ∧ Ev (fun k => headgateref08_Least.f k n) q := by
  have hb : n ≤ 9223372036854775807 := by
    have h1 := h
    simp only [Lit.wf, Bool.and_eq_true, decide_eq_true_eq] at h1
    exact h1.2
  by_cases h1 : n < 1
  · refine ⟨(0, 2), (0, 2), ?_, Ev.congr (f := fun _ => some (0, 2)) (fun k => ?_) (Ev.now _), ?_, Ev.congr (f := fun _ => some (0, 2)) (fun k => ?_) (Ev.now _)⟩
    · unfold order_Log.f
      rw [if_pos h1]
    · unfold headgateref08_Log.f
      rw [if_pos h1]
    · unfold order_Least.f
      rw [if_pos h1]
    · unfold headgateref08_Least.f
      rw [if_pos h1]
  · obtain ⟨m, rfl⟩ := Int.eq_ofNat_of_zero_le (show 0 ≤ n by omega)
    exact ⟨_, _, log_at (by omega) (by omega), reflog_at (by omega) (by omega), least_at (by omega) (by omega), refleast_at (by omega) (by omega)⟩
theorem OrderSizes : headgatelaw08_OrderSizes.Pure := by
  intro a0 a1 h _
  obtain ⟨r, q, e1, e2, e3, e4⟩ := logs_at a0 h
  obtain ⟨s, e5, e6⟩ := sizes_at a1
  refine Ev.rounds (g := fun k => headgatelaw08_OrderSizes.f k a0 a1) ?_
  refine Ev.congr (f := fun k => (headgateref08_Log.f k a0).bind fun t => if r.1 = t.1 then (headgatelaw08_OrderSizes.j0 k a0 a1 (r.2 != t.2)) else (headgatelaw08_OrderSizes.j0 k a0 a1 true)) (fun k => ?_) (Ev.bind e2 ?_)
  · unfold headgatelaw08_OrderSizes.f
    rw [e1]
    rfl
  · simp only [if_true, bne_self_eq_false]
    refine Ev.step (f := fun k => (headgateref08_Least.f k a0).bind fun t => (headgateref08_Size.f k a1).bind fun u => if q.1 = t.1 then if q.2 = t.2 then if s.1 = u.1 then if s.2 = u.2 then (headgatelaw08_awake.f k).bind fun v => some v else some false else some false else some false else some false) (fun k => ?_) (Ev.bind e4 (Ev.bind e6 ?_))
    · simp only [headgatelaw08_OrderSizes.j0]
      rw [if_neg (by decide), e3, e5]
      rfl
    · simp only [if_true]
      exact Ev.bind awake_ev (Ev.now _)
end Go.Proofs.Ytcdeaiiiplkfiaa.Pure
