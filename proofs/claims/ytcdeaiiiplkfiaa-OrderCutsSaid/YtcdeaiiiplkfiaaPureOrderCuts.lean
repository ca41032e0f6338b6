/- OrderCuts, without the machine: for any two numbers order.Cut and the reference's Cut give the same blocks, or the same error, and the chapter's examples hold. No condition. -/
import Derived.Test.YtcdeaiiiplkfiaaXx7
import Derived.Test.YtcdeaiiiplkfiaaJoin
namespace Go.Proofs.Ytcdeaiiiplkfiaa.X
open Go.RowKit Go.Proofs.YtcdeaiiiplkfiaaW.PrintWords Go.Proofs.YtcdeaiiiplkfiaaW.PrintLast
theorem awake_now : headgatelaw08_awake.f 40 = some true := by decide +kernel
theorem awake_ev : Ev (fun k => headgatelaw08_awake.f k) true := Ev.of headgatelaw08_awake.mono awake_now
end Go.Proofs.Ytcdeaiiiplkfiaa.X
namespace Go.Proofs.Ytcdeaiiiplkfiaa.Pure
open Go.RowKit Go.Proofs.Ytcdeaiiiplkfiaa.X Go.Proofs.YtcdeaiiiplkfiaaW.PrintWords Go.Proofs.YtcdeaiiiplkfiaaW.PrintLast
theorem cuts_of (a0 a1 : Int) (l : List S32) (e : Int) (hl : l.length < 1000000) (h1 : Ev (fun k => order_Cut.f k a0 a1) (l, e)) (h2 : Ev (fun k => headgateref08_Cut.f k a0 a1) (l, e)) : ∃ k, headgatelaw08_OrderCuts.f k a0 a1 = some true := by
  refine Ev.rounds (g := fun k => headgatelaw08_OrderCuts.f k a0 a1) ?_
  unfold headgatelaw08_OrderCuts.f
  refine Ev.bind h1 (Ev.bind h2 (Ev.bind (same_refl l hl) ?_))
  simp only [if_true]
  exact Ev.bind awake_ev (Ev.now _)
theorem OrderCuts : headgatelaw08_OrderCuts.Pure := by
  intro a0 a1 _ _
  by_cases h : a0 < 0 ∨ a1 < a0 ∨ 256 < a1
  · exact cuts_of a0 a1 [] 2 (by simp) (cut_err h) (refcut_err h)
  · obtain ⟨f, rfl⟩ := Int.eq_ofNat_of_zero_le (show 0 ≤ a0 by omega)
    obtain ⟨g, rfl⟩ := Int.eq_ofNat_of_zero_le (show 0 ≤ a1 by omega)
    refine cuts_of f g _ 0 ?_ (cut_ok (by omega) (by omega)) (refcut_ok (by omega) (by omega))
    have := greedy_length (g - f) f g
    rw [List.length_map]
    omega
end Go.Proofs.Ytcdeaiiiplkfiaa.Pure
