/- RoleLooks: role.Of, Counts and Text, and the reference's ones, have the same results for any list of at most 60 frames, or of 257 to 260, and any role. -/
import Derived.Test.YtmemdggofphcnaaTakes
import Derived.Test.YtmemdggofphcnaaXx11
namespace Go.Proofs.Ytmemdggofphcnaa.Pure
open Go.RowKit Go.Proofs.Ytmemdggofphcnaa.X Go.Proofs.YtmemdggofphcnaaW.PrintWords Go.Proofs.YtmemdggofphcnaaW.PrintLast
theorem looks_j1 (l : List Int) : Ev (fun k => headgatelaw16_RoleLooks.j1 k l false) true := by
  refine Ev.step (f := fun k => (role_Text.f l).bind fun bt403 => ((headgateref16_Text.f k l).bind fun bt405 => (if bt403.1.toList = bt405.1.toList then (if bt403.2 = bt405.2 then ((headgatelaw16_awake.f k).bind fun t407 => (some t407)) else (some false)) else (some false)))) (fun k => ?_) ?_
  · simp only [headgatelaw16_RoleLooks.j1]
    rw [if_neg (by decide)]
  · rw [text_V]
    simp only [Option.bind_some]
    refine Ev.bind (rtext_ev l) (Ev.congr (f := fun k => (headgatelaw16_awake.f k).bind fun t => some t) (fun k => ?_) (Ev.bind awake_ev (Ev.now _)))
    rw [if_pos rfl, if_pos rfl]
theorem looks_j0 (l : List Int) (r : Int) (b : Bool) (hb : b = false → l.length ≤ 260) : Ev (fun k => headgatelaw16_RoleLooks.j0 k l r b) true := by
  cases b with
  | true =>
    refine Ev.step (f := fun k => (headgatelaw16_awake.f k).bind fun t => some t) (fun k => ?_) (Ev.bind awake_ev (Ev.now _))
    simp only [headgatelaw16_RoleLooks.j0]
    exact if_pos trivial
  | false =>
    have hl := hb rfl
    have h1 : (ofV l r).1.length < 1000000 := by
      unfold ofV
      split
      · split
        · have := posOf_len r l 0 []
          have h2 := List.countP_le_length (p := fun a => decide (a = r)) (l := l)
          simp only [List.length_nil] at this ⊢
          omega
        · simp
      · simp
    have h2 : (cntV l).1.length < 1000000 := by
      unfold cntV
      split
      · simp [cntL_len]
      · simp
    refine Ev.step (f := fun k => (role_Of.f k l r).bind fun bt385 => ((headgateref16_Of.f k l r).bind fun bt389 => ((role_Counts.f k l).bind fun bt393 => ((headgateref16_Counts.f k l).bind fun bt397 => ((headgatekit_SameInts.f k bt385.1 bt389.1).bind fun t401 => (if t401 = true then (if bt385.2 = bt389.2 then ((headgatekit_SameInts.f k bt393.1 bt397.1).bind fun t402 => (if t402 = true then (headgatelaw16_RoleLooks.j1 k l (bt393.2 != bt397.2)) else (headgatelaw16_RoleLooks.j1 k l true))) else (headgatelaw16_RoleLooks.j1 k l true)) else (headgatelaw16_RoleLooks.j1 k l true))))))) (fun k => ?_)
      (Ev.bind (of_ev l r) (Ev.bind (rof_ev l r) (Ev.bind (counts_ev l) (Ev.bind (rcounts_ev l) (Ev.bind (same_ints _ h1) ?_)))))
    · simp only [headgatelaw16_RoleLooks.j0]
      rw [if_neg (by decide)]
    · refine Ev.congr (f := fun k => (headgatekit_SameInts.f k (cntV l).1 (cntV l).1).bind fun t402 => (if t402 = true then (headgatelaw16_RoleLooks.j1 k l ((cntV l).2 != (cntV l).2)) else (headgatelaw16_RoleLooks.j1 k l true))) (fun k => ?_) (Ev.bind (same_ints _ h2) ?_)
      · rw [if_pos rfl, if_pos rfl]
      · refine Ev.congr (fun k => ?_) (looks_j1 l)
        rw [if_pos rfl]
        simp
theorem RoleLooks : headgatelaw16_RoleLooks.Pure := by
  intro l r _ _ _ _
  refine Ev.rounds (r := true) ?_
  by_cases h : (l.length : Int) > 60
  · by_cases h2 : (l.length : Int) ≤ 256
    · refine Ev.congr (fun k => ?_) (looks_j0 l r true (by simp))
      unfold headgatelaw16_RoleLooks.f
      rw [if_pos h, if_pos h2]
    · refine Ev.congr (fun k => ?_) (looks_j0 l r (decide ((l.length : Int) > 260)) (fun hb => by have := of_decide_eq_false hb; omega))
      unfold headgatelaw16_RoleLooks.f
      rw [if_pos h, if_neg h2]
  · refine Ev.congr (fun k => ?_) (looks_j0 l r (decide ((l.length : Int) > 260)) (fun hb => by have := of_decide_eq_false hb; omega))
    unfold headgatelaw16_RoleLooks.f
    rw [if_neg h]
end Go.Proofs.Ytmemdggofphcnaa.Pure
