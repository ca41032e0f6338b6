/- What Run and Change come to at one change, in plain words. -/
import Derived.Test.YtmemdggofphcnaaTakes
import Derived.Test.YtmemdggofphcnaaXx7
namespace Go.Proofs.Ytmemdggofphcnaa.X
open Go.RowKit Go.Proofs.YtmemdggofphcnaaW.PrintWords Go.Proofs.YtmemdggofphcnaaW.PrintLast Go.Proofs.YtmemdggofphcnaaW.PrintMore
/-- May one role become another. -/
def mayI (a r : Int) : Bool := mayB a.toNat r.toNat
theorem mayI_eq {a r : Int} (h0 : 0 ≤ a) (h1 : a < 8) (h2 : 0 ≤ r) (h3 : r < 8) : role_may.f a r = some (mayI a r) := by
  obtain ⟨m, rfl⟩ := Int.eq_ofNat_of_zero_le h0
  obtain ⟨n, rfl⟩ := Int.eq_ofNat_of_zero_le h2
  exact mayB_eq m n (by omega) (by omega)
theorem May_in {a r : Int} (h0 : 0 ≤ a) (h1 : a < 8) (h2 : 0 ≤ r) (h3 : r < 8) : role_May.f a r = some (mayI a r, 0) := by
  unfold role_May.f
  rw [is_f, is_f, decide_eq_true ⟨h0, h1⟩, decide_eq_true ⟨h2, h3⟩, mayI_eq h0 h1 h2 h3]
  rfl
/-- What one change of a valid list comes to: the error, or the list. -/
def stepV (l : List Int) (f r : Int) : Int × List Int :=
  if f < 0 ∨ f ≥ (l.length : Int) then (2, l) else if 0 ≤ r ∧ r < 8 then (if mayI (rd l f) r = true then (0, l.set f.toNat r) else (14, l)) else (14, l)
theorem change_ev (l : List Int) (hg : ∀ r ∈ l, 0 ≤ r ∧ r < 8) (f r : Int) : Ev (fun k => role_change.f k l f r) (stepV l f r) := by
  unfold role_change.f stepV
  by_cases h0 : f < 0
  · rw [if_pos (.inl h0)]
    refine Ev.congr (f := fun k => role_change.j0 k l true f r) (fun k => ?_) (Ev.step (f := fun _ => some (2, l)) (fun k => ?_) (Ev.now _))
    · rw [if_pos h0]
    · simp only [role_change.j0]
      exact if_pos trivial
  · by_cases h1 : f ≥ (l.length : Int)
    · rw [if_pos (.inr h1)]
      refine Ev.congr (f := fun k => role_change.j0 k l true f r) (fun k => ?_) (Ev.step (f := fun _ => some (2, l)) (fun k => ?_) (Ev.now _))
      · rw [if_neg h0, decide_eq_true h1]
      · simp only [role_change.j0]
        exact if_pos trivial
    · rw [if_neg (by omega)]
      refine Ev.congr (f := fun k => role_change.j0 k l false f r) (fun k => ?_) (Ev.step (f := fun _ => some (if 0 ≤ r ∧ r < 8 then (if mayI (rd l f) r = true then (0, l.set f.toNat r) else (14, l)) else (14, l))) (fun k => ?_) (Ev.now _))
      · rw [if_neg h0, decide_eq_false h1]
      · simp only [role_change.j0]
        rw [if_neg (by decide), is_f]
        simp only [Option.bind_some]
        by_cases hr : 0 ≤ r ∧ r < 8
        · obtain ⟨n, rfl⟩ := Int.eq_ofNat_of_zero_le (show 0 ≤ f by omega)
          have hm := hg (rd l n) (by rw [rd_at l n (by omega)]; exact List.getElem_mem _)
          rw [decide_eq_true hr, if_pos rfl, if_pos (by omega), if_pos (by omega), mayI_eq hm.1 hm.2 hr.1 hr.2, if_pos hr]
          simp only [Option.bind_some]
          split <;> rfl
        · rw [decide_eq_false hr, if_neg (by decide), if_neg hr]
theorem step_good {l : List Int} (hg : ∀ r ∈ l, 0 ≤ r ∧ r < 8) {f r : Int} : (∀ x ∈ (stepV l f r).2, 0 ≤ x ∧ x < 8) ∧ (stepV l f r).2.length = l.length := by
  unfold stepV
  split
  · exact ⟨hg, rfl⟩
  · split
    · rename_i h
      split
      · refine ⟨fun x hx => ?_, by simp⟩
        rcases List.mem_or_eq_of_mem_set hx with hx | rfl
        · exact hg x hx
        · exact h
      · exact ⟨hg, rfl⟩
    · exact ⟨hg, rfl⟩
/-- What changes from a place on come to. -/
def runL : List S42 → Int → List Int → List Int × Int × Int
  | [], _, l => (l, 0, 0)
  | c :: cs, i, l => if (stepV l c.f0 c.f1).1 = 0 then runL cs (i + 1) (stepV l c.f0 c.f1).2 else ([], (stepV l c.f0 c.f1).1, i)
theorem rd42_at (cs : List S42) (i : Nat) (h : i < cs.length) : rd_T42 cs (i : Int) = cs[i] := by
  simp [rd_T42, List.getD_eq_getElem?_getD, List.getElem?_eq_getElem h]
theorem run_l0 (cs : List S42) (hc : cs.length < 1000000) (d : Nat) : ∀ (i : Nat) (l : List Int), i + d = cs.length → (∀ r ∈ l, 0 ≤ r ∧ r < 8) → Ev (fun k => role_Run.l0 k l cs (cs.length : Int) (i : Int)) (runL (cs.drop i) i l) := by
  induction d with
  | zero =>
    intro i l hi _
    rw [List.drop_eq_nil_of_le (by omega), runL]
    refine Ev.step (f := fun _ => some (l, 0, 0)) (fun k => ?_) (Ev.now _)
    simp only [role_Run.l0]
    rw [if_neg (by omega)]
  | succ d ih =>
    intro i l hi hg
    have hlt : i < cs.length := by omega
    rw [List.drop_eq_getElem_cons hlt, runL]
    refine Ev.step (f := fun k => (role_change.f k l cs[i].f0 cs[i].f1).bind fun bt => if bt.1 = 0 then role_Run.l0 k bt.2 cs (cs.length : Int) ((i + 1 : Nat) : Int) else some ([], bt.1, (i : Int))) (fun k => ?_) (Ev.bind (change_ev l hg _ _) ?_)
    · simp only [role_Run.l0]
      rw [if_pos (by omega), if_pos (by omega), if_pos (by omega), rd42_at cs i hlt, wsm (by omega) (by omega)]
      rfl
    · by_cases h : (stepV l cs[i].f0 cs[i].f1).1 = 0
      · rw [if_pos h]
        refine Ev.congr (fun k => ?_) (ih (i + 1) _ (by omega) (step_good hg).1)
        rw [if_pos h]
      · rw [if_neg h]
        refine Ev.congr (fun k => ?_) (Ev.now _)
        rw [if_neg h]
def runV (l : List Int) (cs : List S42) : List Int × Int × Int := if (chkV l).1 = 0 then runL cs 0 l else ([], (chkV l).1, 0)
theorem run_ev (l : List Int) (cs : List S42) (hc : cs.length < 1000000) : Ev (fun k => role_Run.f k l cs) (runV l cs) := by
  unfold role_Run.f runV
  rw [check_V]
  simp only [Option.bind_some]
  by_cases h : (chkV l).1 = 0
  · rw [if_pos h]
    obtain ⟨hg, hl⟩ := chk_good h
    refine Ev.congr (fun k => ?_) (run_l0 cs hc cs.length 0 l (by omega) hg)
    rw [if_pos h]
    unfold slices_Clone_int_int.f
    rw [if_pos (by omega)]
    rfl
  · rw [if_neg h]
    refine Ev.congr (fun k => ?_) (Ev.now _)
    rw [if_neg h]
theorem Change_ev (l : List Int) (f r : Int) : Ev (fun k => role_Change.f k l f r) ((runV l [⟨f, r⟩]).1, (runV l [⟨f, r⟩]).2.1) :=
  Ev.bind (run_ev l [⟨f, r⟩] (by simp)) (Ev.now _)
theorem ownInts (l : List Int) (h : l.length < 17592186044416) : headgatekit_OwnInts.f l = some l := by
  unfold headgatekit_OwnInts.f
  simp only [Option.bind_some, List.length_nil, List.nil_append]
  rw [if_pos (by omega)]
end Go.Proofs.Ytmemdggofphcnaa.X
