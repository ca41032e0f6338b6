/- RoleSwaps: two changes of different frames may be exchanged, for any list made of numbers. -/
import Derived.Test.YtmemdggofphcnaaSteps
import Derived.Test.YtmemdggofphcnaaSwaps
namespace Go.Proofs.Ytmemdggofphcnaa.Pure
open Go.RowKit Go.Proofs.Ytmemdggofphcnaa.X Go.Proofs.YtmemdggofphcnaaW.PrintWords Go.Proofs.YtmemdggofphcnaaW.PrintLast
theorem step_in {l : List Int} {i : Nat} (hi : i < l.length) {r : Int} (hr : 0 ≤ r ∧ r < 8) : stepV l (i : Int) r = if mayI l[i] r = true then (0, l.set i r) else (14, l) := by
  unfold stepV
  rw [if_neg (by omega), if_pos hr, rd_at l i hi, Int.toNat_natCast]
theorem two {l : List Int} (hg : ∀ r ∈ l, 0 ≤ r ∧ r < 8) (hl : l.length ≤ 256) {i j : Nat} (hi : i < l.length) (hj : j < l.length) (hij : i ≠ j) {r s : Int} (hr : 0 ≤ r ∧ r < 8) (hs : 0 ≤ s ∧ s < 8) :
    (runV l [⟨(i : Int), r⟩, ⟨(j : Int), s⟩]).1 = (if mayI l[i] r = true ∧ mayI l[j] s = true then (l.set i r).set j s else []) ∧
    (runV l [⟨(i : Int), r⟩, ⟨(j : Int), s⟩]).2.1 = (if mayI l[i] r = true ∧ mayI l[j] s = true then 0 else 14) := by
  have hc : chkV l = (0, 0) := Option.some.inj ((check_V l).symm.trans (check_ok hl hg))
  have hj2 : j < (l.set i r).length := by simpa using hj
  have h2 : (l.set i r)[j] = l[j] := by rw [List.getElem_set, if_neg hij]
  unfold runV
  rw [hc, if_pos rfl]
  simp only [runL]
  rw [step_in hi hr]
  by_cases h : mayI l[i] r = true
  · simp only [h, if_true]
    rw [step_in hj2 hs, h2]
    by_cases h' : mayI l[j] s = true
    · simp only [h', if_true, and_self]
    · simp [h']
  · simp [h]
theorem RoleSwaps : headgatelaw16_RoleSwaps.Pure := by
  intro l a1 a2 _ hl _ h1 h2
  have hg : ∀ r ∈ madeL l, 0 ≤ r ∧ r < 8 := fun r hr => madeL_mem hr
  have hlen := madeL_len l
  refine Ev.rounds (r := true) ?_
  unfold headgatelaw16_RoleSwaps.f
  refine Ev.bind (made_ev l (by omega)) ?_
  generalize madeL l = L at *
  by_cases hn : (L.length : Int) < 2
  · refine Ev.congr (f := fun k => (headgatelaw16_awake.f k).bind fun t => some t) (fun k => ?_) (Ev.bind awake_ev (Ev.now _))
    rw [if_pos hn]
  · obtain ⟨i, hi⟩ := Int.eq_ofNat_of_zero_le (Int.emod_nonneg a1 (show (L.length : Int) ≠ 0 by omega))
    have hi2 := Int.emod_lt_of_pos a1 (show (0 : Int) < (L.length : Int) by omega)
    obtain ⟨j, hj⟩ := Int.eq_ofNat_of_zero_le (Int.emod_nonneg a2 (show (L.length : Int) - 1 ≠ 0 by omega))
    have hj2 := Int.emod_lt_of_pos a2 (show (0 : Int) < (L.length : Int) - 1 by omega)
    have hkk : Int.tmod (wrap64 ((wrap64 ((i : Int) + 1)) + (j : Int))) (L.length : Int) = (((i + 1 + j) % L.length : Nat) : Int) := by
      rw [wsm (x := (i : Int) + 1) (by omega) (by omega), wsm (by omega) (by omega), Int.tmod_eq_emod_of_nonneg (by omega), Int.natCast_emod]
      rfl
    have hk2 : (i + 1 + j) % L.length < L.length := Nat.mod_lt _ (by omega)
    have hik : i ≠ (i + 1 + j) % L.length := by
      rcases Nat.lt_or_ge (i + 1 + j) L.length with h | h
      · rw [Nat.mod_eq_of_lt h]
        omega
      · rw [Nat.mod_eq_sub_mod h, Nat.mod_eq_of_lt (by omega)]
        omega
    obtain ⟨k, hk⟩ : ∃ k, k = (i + 1 + j) % L.length := ⟨_, rfl⟩
    rw [← hk] at hkk hk2 hik
    obtain ⟨r, hr⟩ : ∃ r, r = wrap64 (Int.tdiv a1 64) % 8 := ⟨_, rfl⟩
    obtain ⟨s, hs⟩ : ∃ s, s = wrap64 (Int.tdiv a2 64) % 8 := ⟨_, rfl⟩
    have hr8 : 0 ≤ r ∧ r < 8 := by omega
    have hs8 : 0 ≤ s ∧ s < 8 := by omega
    obtain ⟨p1, p2⟩ := two hg (by omega) (show i < L.length by omega) hk2 hik hr8 hs8
    obtain ⟨q1, q2⟩ := two hg (by omega) hk2 (show i < L.length by omega) (Ne.symm hik) hs8 hr8
    have e1 : (runV L [⟨(k : Int), s⟩, ⟨(i : Int), r⟩]).1 = (runV L [⟨(i : Int), r⟩, ⟨(k : Int), s⟩]).1 := by
      rw [p1, q1]
      by_cases c : mayI L[i] r = true ∧ mayI L[k] s = true
      · rw [if_pos c, if_pos ⟨c.2, c.1⟩, List.set_comm _ _ (Ne.symm hik)]
      · rw [if_neg c, if_neg (fun d => c ⟨d.2, d.1⟩)]
    have e2 : (runV L [⟨(i : Int), r⟩, ⟨(k : Int), s⟩]).2.1 = (runV L [⟨(k : Int), s⟩, ⟨(i : Int), r⟩]).2.1 := by
      rw [p2, q2]
      by_cases c : mayI L[i] r = true ∧ mayI L[k] s = true
      · rw [if_pos c, if_pos ⟨c.2, c.1⟩]
      · rw [if_neg c, if_neg (fun d => c ⟨d.2, d.1⟩)]
    have hlen2 : (runV L [⟨(i : Int), r⟩, ⟨(k : Int), s⟩]).1.length < 1000000 := by
      rw [p1]
      split
      · simp
        omega
      · simp
    refine Ev.congr (f := fun n => (role_Run.f n L [⟨(i : Int), r⟩, ⟨(k : Int), s⟩]).bind fun bt244 => (role_Run.f n L [⟨(k : Int), s⟩, ⟨(i : Int), r⟩]).bind fun bt255 => (if bt244.2.1 = bt255.2.1 then ((headgatekit_SameInts.f n bt244.1 bt255.1).bind fun t260 => (if t260 = true then ((headgatelaw16_awake.f n).bind fun t261 => (some t261)) else (some false))) else (some false))) (fun n => ?_) (Ev.bind (run_ev L _ (by simp)) (Ev.bind (run_ev L _ (by simp)) ?_))
    · rw [if_neg hn, mod_at a1 _ (by omega) (by omega), wsm (x := (L.length : Int) - 1) (by omega) (by omega), mod_at a2 _ (by omega) (by omega), hi, hj]
      simp only [Option.bind_some]
      rw [if_neg (by omega), mod_at _ 8 (by omega) (by omega), mod_at _ 8 (by omega) (by omega), ownInts L (by omega), ← hr, ← hs, hkk]
      rfl
    · refine Ev.congr (f := fun n => (headgatekit_SameInts.f n (runV L [⟨(i : Int), r⟩, ⟨(k : Int), s⟩]).1 (runV L [⟨(i : Int), r⟩, ⟨(k : Int), s⟩]).1).bind fun t260 => (if t260 = true then ((headgatelaw16_awake.f n).bind fun t261 => (some t261)) else (some false))) (fun n => ?_) (Ev.bind (same_ints _ hlen2) ?_)
      · rw [if_pos e2, e1]
      · refine Ev.congr (f := fun k => (headgatelaw16_awake.f k).bind fun t => some t) (fun k => ?_) (Ev.bind awake_ev (Ev.now _))
        rw [if_pos rfl]
end Go.Proofs.Ytmemdggofphcnaa.Pure
