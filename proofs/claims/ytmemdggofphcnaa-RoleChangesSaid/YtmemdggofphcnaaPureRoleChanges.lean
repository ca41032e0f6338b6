/- RoleChanges: role.Check, Run and Change, and the reference's ones, have the same results, and the list is not changed. -/
import Derived.Test.YtmemdggofphcnaaSteps
import Derived.Test.YtmemdggofphcnaaXx8
namespace Go.Proofs.Ytmemdggofphcnaa.Pure
open Go.RowKit Go.Proofs.Ytmemdggofphcnaa.X Go.Proofs.YtmemdggofphcnaaW.PrintWords Go.Proofs.YtmemdggofphcnaaW.PrintLast
/-- The reference's 'may', for any number. -/
def mayR (a r : Int) : Bool := decide (0 ≤ r ∧ r < 8) && mayI a r
theorem rmay_in : ∀ a r : Fin 8, headgateref16_may.f 5 (a.val : Int) (r.val : Int) = some (mayI (a.val : Int) (r.val : Int)) := by decide +kernel
theorem rmay_ev {a : Int} (h0 : 0 ≤ a) (h8 : a < 8) (r : Int) : Ev (fun k => headgateref16_may.f k a r) (mayR a r) := by
  obtain ⟨n, rfl⟩ := Int.eq_ofNat_of_zero_le h0
  by_cases hr : 0 ≤ r ∧ r < 8
  · obtain ⟨m, rfl⟩ := Int.eq_ofNat_of_zero_le hr.1
    unfold mayR
    rw [decide_eq_true hr, Bool.true_and]
    exact Ev.of (headgateref16_may.mono _ _) (rmay_in ⟨n, by omega⟩ ⟨m, by omega⟩)
  · unfold mayR
    rw [decide_eq_false hr, Bool.false_and]
    have r0 : ¬ r = 0 := by omega
    have r1 : ¬ r = 1 := by omega
    have r2 : ¬ r = 2 := by omega
    have r3 : ¬ r = 3 := by omega
    have r4 : ¬ r = 4 := by omega
    have r5 : ¬ r = 5 := by omega
    have r6 : ¬ r = 6 := by omega
    have r7 : ¬ r = 7 := by omega
    refine Ev.of (headgateref16_may.mono _ _) (k := 5) ?_
    have : n = 0 ∨ n = 1 ∨ n = 2 ∨ n = 3 ∨ n = 4 ∨ n = 5 ∨ n = 6 ∨ n = 7 := by omega
    rcases this with rfl | rfl | rfl | rfl | rfl | rfl | rfl | rfl <;> simp [headgateref16_may.f, headgateref16_may.j0, r0, r1, r2, r3, r4, r5, r6, r7]
/-- What one change comes to. -/
def chgV (l : List Int) (f r : Int) : List Int × Int := if (chkV l).1 = 0 then (if (stepV l f r).1 = 0 then ((stepV l f r).2, 0) else ([], (stepV l f r).1)) else ([], (chkV l).1)
theorem chg_run (l : List Int) (f r : Int) : ((runV l [⟨f, r⟩]).1, (runV l [⟨f, r⟩]).2.1) = chgV l f r := by
  unfold runV chgV
  by_cases h : (chkV l).1 = 0
  · rw [if_pos h, if_pos h]
    simp only [runL]
    by_cases h2 : (stepV l f r).1 = 0
    · rw [if_pos h2, if_pos h2]
    · rw [if_neg h2, if_neg h2]
  · rw [if_neg h, if_neg h]
theorem rchange_ev (l : List Int) (f r : Int) : Ev (fun k => headgateref16_Change.f k l f r) (chgV l f r) := by
  unfold headgateref16_Change.f chgV
  refine Ev.bind (rcheck_ev l) ?_
  by_cases h : (chkV l).1 = 0
  · rw [if_pos h]
    obtain ⟨hg, hl⟩ := chk_good h
    by_cases hf : f < 0 ∨ f ≥ (l.length : Int)
    · have hs : stepV l f r = (2, l) := by unfold stepV; rw [if_pos hf]
      rw [hs, if_neg (by simp)]
      refine Ev.congr (f := fun k => headgateref16_Change.j0 k l f r true) (fun k => ?_) (Ev.step (f := fun _ => some ([], 2)) (fun k => ?_) (Ev.now _))
      · rw [if_pos h]
        by_cases h0 : f < 0
        · rw [if_pos h0]
        · rw [if_neg h0, decide_eq_true (by omega)]
      · simp only [headgateref16_Change.j0]
        exact if_pos trivial
    · obtain ⟨n, rfl⟩ := Int.eq_ofNat_of_zero_le (show 0 ≤ f by omega)
      have hn : n < l.length := by omega
      have hr := hg l[n] (List.getElem_mem hn)
      refine Ev.congr (f := fun k => headgateref16_Change.j0 k l n r false) (fun k => ?_) (Ev.step (f := fun k => (headgateref16_may.f k l[n] r).bind fun t => if t = true then some (l.set n r, 0) else some ([], 14)) (fun k => ?_) (Ev.bind (rmay_ev hr.1 hr.2 r) ?_))
      · rw [if_pos h, if_neg (by omega), decide_eq_false (by omega)]
      · have i0 : ((0 : Int) ≤ (n : Int)) = True := eq_true (by omega)
        have i1 : ((n : Int) < (l.length : Int)) = True := eq_true (by omega)
        have i2 : (l.length < 17592186044416) = True := eq_true (by omega)
        simp only [headgateref16_Change.j0]
        rw [if_neg (by decide), if_pos (by omega), if_pos (by omega), rd_at l n hn]
        simp only [Option.bind_some, List.length_nil, List.nil_append, Nat.zero_add, i1, i2, if_true, Int.toNat_natCast]
      · have hs : stepV l (n : Int) r = if mayR l[n] r = true then (0, l.set n r) else (14, l) := by
          unfold stepV mayR
          rw [if_neg (by omega), rd_at l n hn, Int.toNat_natCast]
          by_cases c : 0 ≤ r ∧ r < 8
          · rw [if_pos c, decide_eq_true c, Bool.true_and]
          · rw [if_neg c, decide_eq_false c, Bool.false_and, if_neg (by decide)]
        rw [hs]
        refine Ev.congr (fun k => ?_) (Ev.now _)
        by_cases c : mayR l[n] r = true
        · rw [if_pos c, if_pos c, if_pos rfl]
        · rw [if_neg c, if_neg c, if_neg (by simp)]
  · rw [if_neg h]
    refine Ev.congr (fun k => ?_) (Ev.now _)
    rw [if_neg h]
theorem rrun_l0 (cs : List S42) (hc : cs.length < 1000000) (d : Nat) : ∀ (i : Nat) (l : List Int), i + d = cs.length → (∀ r ∈ l, 0 ≤ r ∧ r < 8) → l.length ≤ 256 → Ev (fun k => headgateref16_Run.l0 k cs l (i : Int)) (runL (cs.drop i) i l) := by
  induction d with
  | zero =>
    intro i l hi _ _
    rw [List.drop_eq_nil_of_le (by omega), runL]
    refine Ev.step (f := fun _ => some (l, 0, 0)) (fun k => ?_) (Ev.now _)
    simp only [headgateref16_Run.l0]
    rw [if_neg (by omega)]
  | succ d ih =>
    intro i l hi hg hl
    have hlt : i < cs.length := by omega
    have hchk : chkV l = (0, 0) := Option.some.inj ((check_V l).symm.trans (check_ok hl hg))
    rw [List.drop_eq_getElem_cons hlt, runL]
    refine Ev.step (f := fun k => (headgateref16_Change.f k l cs[i].f0 cs[i].f1).bind fun bt => if bt.2 = 0 then headgateref16_Run.l0 k cs bt.1 ((i + 1 : Nat) : Int) else some ([], bt.2, (i : Int))) (fun k => ?_) (Ev.bind (rchange_ev l _ _) ?_)
    · simp only [headgateref16_Run.l0]
      rw [if_pos (by omega), if_pos (by omega), rd42_at cs i hlt, wsm (by omega) (by omega)]
      rfl
    · unfold chgV
      rw [hchk, if_pos rfl]
      by_cases h : (stepV l cs[i].f0 cs[i].f1).1 = 0
      · rw [if_pos h, if_pos h]
        refine Ev.congr (fun k => ?_) (ih (i + 1) _ (by omega) (step_good hg).1 (by rw [(step_good hg).2]; exact hl))
        rw [if_pos rfl]
      · rw [if_neg h, if_neg h]
        refine Ev.congr (fun k => ?_) (Ev.now _)
        rw [if_neg h]
theorem rrun_ev (l : List Int) (cs : List S42) (hc : cs.length < 1000000) : Ev (fun k => headgateref16_Run.f k l cs) (runV l cs) := by
  unfold headgateref16_Run.f runV
  refine Ev.bind (rcheck_ev l) ?_
  by_cases h : (chkV l).1 = 0
  · rw [if_pos h]
    obtain ⟨hg, hl⟩ := chk_good h
    refine Ev.congr (fun k => ?_) (rrun_l0 cs hc cs.length 0 l (by omega) hg hl)
    rw [if_pos h]
    simp only [Option.bind_some, List.length_nil, List.nil_append]
    rw [if_pos (by omega)]
    rfl
  · rw [if_neg h]
    refine Ev.congr (fun k => ?_) (Ev.now _)
    rw [if_neg h]
theorem runL_len (cs : List S42) : ∀ (i : Int) (l : List Int), (∀ r ∈ l, 0 ≤ r ∧ r < 8) → (runL cs i l).1.length ≤ l.length := by
  induction cs with
  | nil => intro i l _; exact Nat.le_refl _
  | cons c cs ih =>
    intro i l hg
    rw [runL]
    split
    · have h1 := step_good hg (f := c.f0) (r := c.f1)
      exact Nat.le_trans (ih _ _ h1.1) (Nat.le_of_eq h1.2)
    · exact Nat.zero_le _
theorem runV_len (l : List Int) (cs : List S42) : (runV l cs).1.length < 1000000 := by
  unfold runV
  split
  · rename_i h
    obtain ⟨hg, hl⟩ := chk_good h
    have := runL_len cs 0 l hg
    omega
  · simp
theorem tail_ev (l : List Int) (hl : l.length < 1000000) : Ev (fun k => (headgatekit_SameInts.f k l l).bind fun t331 => (if t331 = true then ((headgatelaw16_awake.f k).bind fun t332 => (some t332)) else (some false))) true := by
  refine Ev.bind (same_ints l hl) (Ev.congr (f := fun k => (headgatelaw16_awake.f k).bind fun t => some t) (fun k => ?_) (Ev.bind awake_ev (Ev.now _)))
  rw [if_pos rfl]
theorem changes_j1 (l : List Int) (cs : List S42) (hl : l.length < 1000000) : Ev (fun k => headgatelaw16_RoleChanges.j1 k l cs l false) true := by
  by_cases h : (cs.length : Int) > 0
  · refine Ev.step (f := fun k => (role_Change.f k l (rd_T42 cs 0).f0 (rd_T42 cs 0).f1).bind fun bt318 => ((headgateref16_Change.f k l ((rd_T42 cs 0).f0) ((rd_T42 cs 0).f1)).bind fun bt324 => ((headgatekit_SameInts.f k bt318.1 bt324.1).bind fun t328 => (if t328 = true then (headgatelaw16_RoleChanges.j2 k l l (bt318.2 != bt324.2)) else (headgatelaw16_RoleChanges.j2 k l l true))))) (fun k => ?_) ?_
    · simp only [headgatelaw16_RoleChanges.j1]
      rw [if_neg (by decide), if_pos h, if_pos (by omega)]
    · have h1 := Change_ev l (rd_T42 cs 0).f0 (rd_T42 cs 0).f1
      rw [chg_run] at h1
      have hlen : (chgV l (rd_T42 cs 0).f0 (rd_T42 cs 0).f1).1.length < 1000000 := by
        rw [← chg_run]
        exact runV_len _ _
      refine Ev.bind h1 (Ev.bind (rchange_ev l _ _) (Ev.bind (same_ints _ hlen) ?_))
      refine Ev.congr (f := fun k => headgatelaw16_RoleChanges.j2 k l l false) (fun k => ?_) (Ev.step (fun k => ?_) (tail_ev l hl))
      · rw [if_pos rfl]
        simp
      · simp only [headgatelaw16_RoleChanges.j2]
        rw [if_neg (by decide)]
  · refine Ev.step (fun k => ?_) (tail_ev l hl)
    simp only [headgatelaw16_RoleChanges.j1]
    rw [if_neg (by decide), if_neg h]
theorem changes_j0 (l : List Int) (cs : List S42) (b : Bool) (hb : b = false → l.length ≤ 260 ∧ cs.length ≤ 40) : Ev (fun k => headgatelaw16_RoleChanges.j0 k l cs b) true := by
  cases b with
  | true =>
    refine Ev.step (f := fun k => (headgatelaw16_awake.f k).bind fun t => some t) (fun k => ?_) (Ev.bind awake_ev (Ev.now _))
    simp only [headgatelaw16_RoleChanges.j0]
    exact if_pos trivial
  | false =>
    obtain ⟨hl, hc⟩ := hb rfl
    refine Ev.step (f := fun k => (headgateref16_Check.f k l).bind fun bt303 => ((role_Run.f k l cs).bind fun bt305 => ((headgateref16_Run.f k l cs).bind fun bt310 => (if (chkV l).1 = bt303.1 then (if (chkV l).2 = bt303.2 then ((headgatekit_SameInts.f k bt305.1 bt310.1).bind fun t315 => (if t315 = true then (if bt305.2.1 = bt310.2.1 then (headgatelaw16_RoleChanges.j1 k l cs l (bt305.2.2 != bt310.2.2)) else (headgatelaw16_RoleChanges.j1 k l cs l true)) else (headgatelaw16_RoleChanges.j1 k l cs l true))) else (headgatelaw16_RoleChanges.j1 k l cs l true)) else (headgatelaw16_RoleChanges.j1 k l cs l true))))) (fun k => ?_)
      (Ev.bind (rcheck_ev l) (Ev.bind (run_ev l cs (by omega)) (Ev.bind (rrun_ev l cs (by omega)) ?_)))
    · simp only [headgatelaw16_RoleChanges.j0]
      rw [if_neg (by decide), ownInts l (by omega)]
      simp only [Option.bind_some]
      rw [check_V]
      rfl
    · refine Ev.congr (f := fun k => (headgatekit_SameInts.f k (runV l cs).1 (runV l cs).1).bind fun t315 => (if t315 = true then (headgatelaw16_RoleChanges.j1 k l cs l false) else (headgatelaw16_RoleChanges.j1 k l cs l true))) (fun k => ?_) (Ev.bind (same_ints _ (runV_len l cs)) (Ev.congr (fun k => ?_) (changes_j1 l cs (by omega))))
      · rw [if_pos rfl, if_pos rfl]
        simp
      · rw [if_pos rfl]
theorem RoleChanges (l : List Int) (cs : List S42) : ∃ k, headgatelaw16_RoleChanges.f k l cs = some true := by
  refine Ev.rounds (r := true) ?_
  by_cases h : (l.length : Int) > 60
  · by_cases h2 : (l.length : Int) ≤ 256
    · refine Ev.congr (fun k => ?_) (changes_j0 l cs true (by simp))
      unfold headgatelaw16_RoleChanges.f
      rw [if_pos h, if_pos h2]
    · by_cases h3 : (l.length : Int) > 260
      · refine Ev.congr (fun k => ?_) (changes_j0 l cs true (by simp))
        unfold headgatelaw16_RoleChanges.f
        rw [if_pos h, if_neg h2, if_pos h3]
      · refine Ev.congr (fun k => ?_) (changes_j0 l cs (decide ((cs.length : Int) > 40)) (fun hb => by have := of_decide_eq_false hb; omega))
        unfold headgatelaw16_RoleChanges.f
        rw [if_pos h, if_neg h2, if_neg h3]
  · refine Ev.congr (fun k => ?_) (changes_j0 l cs (decide ((cs.length : Int) > 40)) (fun hb => by have := of_decide_eq_false hb; omega))
    unfold headgatelaw16_RoleChanges.f
    rw [if_neg h, if_neg (by omega)]
end Go.Proofs.Ytmemdggofphcnaa.Pure
