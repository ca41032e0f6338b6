/- RoleCounts: for any list made of numbers, the counts are together the frames, those of a role are as many, and a change moves one. -/
import Derived.Test.YtmemdggofphcnaaSteps
import Derived.Test.YtmemdggofphcnaaXx13
namespace Go.Proofs.Ytmemdggofphcnaa.Pure
open Go.RowKit Go.Proofs.Ytmemdggofphcnaa.X Go.Proofs.YtmemdggofphcnaaW.PrintWords Go.Proofs.YtmemdggofphcnaaW.PrintLast
/-- How many frames have a role. -/
def many (l : List Int) (i : Nat) : Nat := l.countP (fun a => decide (a = (i : Int)))
theorem rd_set (c : List Int) (j : Nat) (v : Int) (i : Nat) (h : i < c.length) : rd (c.set j v) i = if j = i then v else rd c i := by
  rw [rd_at _ i (by simpa using h), rd_at c i h, List.getElem_set]
theorem cntL_rd (l : List Int) : ∀ (c : List Int), c.length = 8 → (∀ r ∈ l, 0 ≤ r ∧ r < 8) → (∀ i : Nat, i < 8 → 0 ≤ rd c i ∧ rd c i + l.length < 1000000) →
    ∀ i : Nat, i < 8 → rd (cntL l c) i = rd c i + (many l i : Nat) := by
  induction l with
  | nil => intro c _ _ _ i _; simp [cntL, many]
  | cons a l ih =>
    intro c hc hg hb i hi
    obtain ⟨ha0, ha8⟩ := hg a List.mem_cons_self
    obtain ⟨n, rfl⟩ := Int.eq_ofNat_of_zero_le ha0
    have hn := hb n (by omega)
    simp only [List.length_cons] at hn hb
    have hw : wrap64 (rd c n + 1) = rd c n + 1 := wsm (by omega) (by omega)
    have hs : ∀ j : Nat, j < 8 → rd (cntS c n) j = if n = j then rd c n + 1 else rd c j := by
      intro j hj
      unfold cntS
      rw [Int.toNat_natCast, rd_set c n _ j (by omega), hw]
    show rd (cntL l (cntS c n)) i = _
    rw [ih (cntS c n) (by rw [cntS_len]; exact hc) (fun r hr => hg r (List.mem_cons_of_mem _ hr)) (fun j hj => by
      have := hb j hj
      rw [hs j hj]
      split
      · omega
      · omega) i hi, hs i hi]
    unfold many
    rw [List.countP_cons]
    by_cases h : n = i
    · subst h
      simp
      omega
    · rw [if_neg h]
      have : decide ((n : Int) = (i : Int)) = false := decide_eq_false (by omega)
      simp [this]
def zero8 : List Int := List.replicate 8 0
theorem zero8_rd (i : Nat) (h : i < 8) : rd zero8 i = 0 := by
  have : ∀ i : Fin 8, rd zero8 (i.val : Int) = 0 := by decide
  exact this ⟨i, h⟩
theorem counts_rd {l : List Int} (hg : ∀ r ∈ l, 0 ≤ r ∧ r < 8) (hl : l.length ≤ 256) (i : Nat) (hi : i < 8) : rd (cntL l zero8) i = (many l i : Nat) := by
  rw [cntL_rd l zero8 rfl hg (fun j hj => by rw [zero8_rd j hj]; omega) i hi, zero8_rd i hi]
  omega
theorem many_le (l : List Int) (i : Nat) : many l i ≤ l.length := List.countP_le_length
/-- How many frames have a role below one. -/
def under (l : List Int) (i : Nat) : Nat := l.countP (fun a => decide (a < (i : Int)))
theorem under_succ (l : List Int) (i : Nat) : under l (i + 1) = under l i + many l i := by
  unfold under many
  induction l with
  | nil => rfl
  | cons a l ih =>
    rw [List.countP_cons, List.countP_cons, List.countP_cons, ih]
    by_cases h1 : a < (i : Int)
    · have h2 : a < ((i + 1 : Nat) : Int) := by omega
      have h3 : ¬ a = (i : Int) := by omega
      simp only [decide_eq_true h1, decide_eq_true h2, decide_eq_false h3, if_true]
      simp
      omega
    · by_cases h3 : a = (i : Int)
      · have h2 : a < ((i + 1 : Nat) : Int) := by omega
        simp only [decide_eq_false h1, decide_eq_true h2, decide_eq_true h3, if_true]
        simp
        omega
      · have h2 : ¬ a < ((i + 1 : Nat) : Int) := by omega
        simp only [decide_eq_false h1, decide_eq_false h2, decide_eq_false h3]
        simp
theorem under_zero {l : List Int} (hg : ∀ r ∈ l, 0 ≤ r ∧ r < 8) : under l 0 = 0 := by
  unfold under
  rw [List.countP_eq_zero]
  intro a ha
  have := hg a ha
  simp
  omega
theorem under_eight {l : List Int} (hg : ∀ r ∈ l, 0 ≤ r ∧ r < 8) : under l 8 = l.length := by
  unfold under
  rw [List.countP_eq_length]
  intro a ha
  have := hg a ha
  simp
  omega
theorem of_good {l : List Int} (hg : ∀ r ∈ l, 0 ≤ r ∧ r < 8) (hl : l.length ≤ 256) (i : Nat) (hi : i < 8) : ofV l (i : Int) = (posOf i l 0 [], 0) := by
  unfold ofV
  have : (chkV l).1 = 0 := by rw [Option.some.inj ((check_V l).symm.trans (check_ok hl hg))]
  rw [if_pos this, if_pos (by omega)]
theorem chk_ok {l : List Int} (hg : ∀ r ∈ l, 0 ≤ r ∧ r < 8) (hl : l.length ≤ 256) : chkV l = (0, 0) := Option.some.inj ((check_V l).symm.trans (check_ok hl hg))
theorem cnt_good {l : List Int} (hg : ∀ r ∈ l, 0 ≤ r ∧ r < 8) (hl : l.length ≤ 256) : cntV l = (cntL l zero8, 0) := by
  unfold cntV
  rw [chk_ok hg hl]
  rfl
/-- the second loop, over any counts -/
theorem last_abs (l C C2 : List Int) (f t : Nat) (hf : f < l.length) (hC : C.length = 8) (hC2 : C2.length = 8)
    (h : ∀ i : Nat, i < 8 → ∃ m x : Int, rd C i = m ∧ 0 ≤ m ∧ m ≤ 256 ∧ x = m - (if l[f] = (i : Int) then 1 else 0) ∧ 0 ≤ x ∧ rd C2 i = if t = i then x + 1 else x) (d : Nat) :
    ∀ i : Nat, i + d = 8 → Ev (fun k => headgatelaw16_RoleCounts.l1 k l C f t C2 (i : Int)) true := by
  induction d with
  | zero =>
    intro i hi
    refine Ev.step (f := fun k => (headgatelaw16_awake.f k).bind fun t => some t) (fun k => ?_) (Ev.bind awake_ev (Ev.now _))
    simp only [headgatelaw16_RoleCounts.l1]
    rw [if_neg (by omega)]
  | succ d ih =>
    intro i hi
    obtain ⟨m, x, c1, m0, m1, hx, x0, c2⟩ := h i (by omega)
    have x1 : x ≤ 256 := by
      by_cases e : l[f] = (i : Int)
      · rw [if_pos e] at hx
        clear c1 c2 h ih e
        omega
      · rw [if_neg e] at hx
        clear c1 c2 h ih e
        omega
    have HX := Aside0.mk hx
    have HC2 := Aside0.mk c2
    have HC1 := Aside0.mk c1
    clear hx c2 c1 h
    have hnext := ih (i + 1) (by omega)
    clear ih
    have hw : wrap64 ((i : Int) + 1) = ((i + 1 : Nat) : Int) := by rw [wsm (by omega) (by omega)]; rfl
    have i0 : (0 : Int) ≤ (i : Int) := by omega
    have i1 : (i : Int) < (C.length : Int) := by omega
    have i2 : (i : Int) < (C2.length : Int) := by omega
    have i3 : (i : Int) < 8 := by omega
    have f0 : (0 : Int) ≤ (f : Int) := by omega
    have f1 : (f : Int) < (l.length : Int) := by omega
    refine Ev.step (f := fun k => headgatelaw16_RoleCounts.j5 k l C f t C2 i x) (fun k => ?_) (Ev.step (fun k => ?_) hnext)
    · simp only [headgatelaw16_RoleCounts.l1]
      rw [if_pos i3, if_pos i0, if_pos i1, if_pos f0, if_pos f1, rd_at l f hf, HC1.out]
      have hx := HX.out
      by_cases e : (i : Int) = l[f]
      · rw [if_pos e.symm] at hx
        clear HX HC1 HC2
        have hm : m - 1 = x := hx.symm
        clear hx
        rw [if_pos e, wsm (x := m - 1) (by omega) (by omega), hm]
      · rw [if_neg (fun e' => e e'.symm), Int.sub_zero] at hx
        rw [if_neg e, ← hx]
    · simp only [headgatelaw16_RoleCounts.j5]
      rw [HC2.out]
      by_cases e : t = i
      · have e2 : (i : Int) = (t : Int) := by omega
        rw [if_pos e, if_pos e2, if_pos i0, if_pos i2, wsm (x := x + 1) (by omega) (by omega), if_pos rfl, hw]
      · have e2 : ¬ (i : Int) = (t : Int) := by omega
        rw [if_neg e, if_neg e2, if_pos i0, if_pos i2, if_pos rfl, hw]
theorem last_l1 (l : List Int) (hg : ∀ r ∈ l, 0 ≤ r ∧ r < 8) (hl : l.length ≤ 256) (f : Nat) (hf : f < l.length) (t : Nat) (ht : t < 8) :
    Ev (fun k => headgatelaw16_RoleCounts.l1 k l (cntL l zero8) f t (cntL (l.set f t) zero8) 0) true := by
  refine last_abs l _ _ f t hf (by rw [cntL_len]; rfl) (by rw [cntL_len]; rfl) (fun i hi8 => ?_) 8 0 (by omega)
  have hg2 : ∀ r ∈ l.set f t, 0 ≤ r ∧ r < 8 := by
    intro x hx
    rcases List.mem_or_eq_of_mem_set hx with hx | rfl
    · exact hg x hx
    · omega
  have c1 := counts_rd hg hl i hi8
  have c2 := counts_rd hg2 (by simpa using hl) i hi8
  have hm1 := many_le l i
  have hset : many (l.set f t) i = many l i - (if l[f] = (i : Int) then 1 else 0) + (if t = i then 1 else 0) := by
    unfold many
    rw [List.countP_set hf]
    simp only [decide_eq_true_eq, Int.natCast_inj]
  have hpos : l[f] = (i : Int) → 0 < many l i := fun h => List.countP_pos_iff.2 ⟨l[f], List.getElem_mem hf, by simpa using h⟩
  have HS := Aside0.mk hset
  have HC1 := Aside0.mk c1
  have HC2 := Aside0.mk c2
  clear hset c1 c2
  refine ⟨_, _, HC1.out, by omega, by omega, rfl, ?_, ?_⟩
  · by_cases h : l[f] = (i : Int)
    · have := hpos h
      rw [if_pos h]
      omega
    · rw [if_neg h]
      omega
  · rw [HC2.out, HS.out]
    clear HC1 HC2 HS hg2
    generalize many l i = m at *
    by_cases h : l[f] = (i : Int)
    · have := hpos h
      rw [if_pos h, if_pos h]
      by_cases e : t = i
      · rw [if_pos e, if_pos e]
        omega
      · rw [if_neg e, if_neg e]
        omega
    · rw [if_neg h, if_neg h]
      by_cases e : t = i
      · rw [if_pos e, if_pos e]
        omega
      · rw [if_neg e, if_neg e]
        omega
theorem awake2 : Ev (fun k => (headgatelaw16_awake.f k).bind fun t => some t) true := Ev.bind awake_ev (Ev.now _)
/-- behind the first loop -/
theorem rest_ev (l : List Int) (hg : ∀ r ∈ l, 0 ≤ r ∧ r < 8) (hl : l.length ≤ 256) (a1 a2 : Int) (d : Nat) :
    ∀ i : Nat, i + d = 8 → Ev (fun k => headgatelaw16_RoleCounts.l0 k a1 a2 l (cntL l zero8) (under l i : Nat) (i : Int)) true := by
  have hL : (cntL l zero8).length = 8 := by rw [cntL_len]; rfl
  induction d with
  | zero =>
    intro i hi
    obtain rfl : i = 8 := by omega
    rw [under_eight hg]
    by_cases h0 : l.length = 0
    · refine Ev.step (f := fun k => (headgatelaw16_awake.f k).bind fun t => some t) (fun k => ?_) awake2
      simp only [headgatelaw16_RoleCounts.l0]
      rw [if_neg (by omega), if_pos trivial, if_pos (by omega)]
    · obtain ⟨f, hf⟩ := Int.eq_ofNat_of_zero_le (Int.emod_nonneg a1 (show (l.length : Int) ≠ 0 by omega))
      have hf2 := Int.emod_lt_of_pos a1 (show (0 : Int) < (l.length : Int) by omega)
      obtain ⟨t, ht⟩ := Int.eq_ofNat_of_zero_le (show 0 ≤ a2 % 8 by omega)
      have hflt : f < l.length := by omega
      have ht8 : t < 8 := by omega
      have hr := hg l[f] (List.getElem_mem hflt)
      have hrun : runV l [⟨(f : Int), (t : Int)⟩] = if mayI l[f] t = true then (l.set f t, 0, 0) else ([], 14, 0) := by
        unfold runV
        rw [chk_ok hg hl, if_pos rfl]
        have hs : stepV l (f : Int) (t : Int) = if mayI l[f] t = true then (0, l.set f t) else (14, l) := by
          unfold stepV
          rw [if_neg (by omega), if_pos (by omega), rd_at l f hflt, Int.toNat_natCast]
        unfold runL
        rw [hs]
        by_cases hm : mayI l[f] t = true
        · simp only [hm, if_true]
          rfl
        · rw [if_neg hm, if_neg hm, if_neg (by simp)]
      refine Ev.step (f := fun k => (role_Change.f k l f t).bind fun bt522 => headgatelaw16_RoleCounts.j2 k l (cntL l zero8) f t (mayI l[f] t) bt522.1 ((mayI l[f] t) != (bt522.2 == 0))) (fun k => ?_) (Ev.bind (Change_ev l f t) ?_)
      · simp only [headgatelaw16_RoleCounts.l0]
        rw [if_neg (by omega), if_pos trivial, if_neg (by omega), mod_at a1 _ (by omega) (by omega), mod_at a2 8 (by omega) (by omega), hf, ht]
        simp only [Option.bind_some]
        rw [if_pos (by omega), if_pos (by omega), rd_at l f hflt, May_in hr.1 hr.2 (by omega) (by omega), ownInts l (by omega)]
        simp only [Option.bind_some, if_true]
      · rw [hrun]
        by_cases hm : mayI l[f] t = true
        · have hg2 : ∀ r ∈ l.set f t, 0 ≤ r ∧ r < 8 := by
            intro x hx
            rcases List.mem_or_eq_of_mem_set hx with hx | rfl
            · exact hg x hx
            · omega
          rw [if_pos hm, hm]
          refine Ev.step (f := fun k => (role_Counts.f k (l.set f t)).bind fun bt527 => (if bt527.2 = 0 then (headgatelaw16_RoleCounts.j3 k l (cntL l zero8) f t bt527.1 ((bt527.1.length : Int) != 8)) else (headgatelaw16_RoleCounts.j3 k l (cntL l zero8) f t bt527.1 true))) (fun k => ?_) (Ev.bind (counts_ev (l.set f t)) ?_)
          · simp only [headgatelaw16_RoleCounts.j2]
            rw [if_neg (by decide)]
            exact if_pos trivial
          · rw [cnt_good hg2 (by simpa using hl)]
            have hL2 : (cntL (l.set f t) zero8).length = 8 := by rw [cntL_len]; rfl
            refine Ev.congr (f := fun k => headgatelaw16_RoleCounts.j3 k l (cntL l zero8) f t (cntL (l.set f t) zero8) false) (fun k => ?_) (Ev.step (fun k => ?_) (last_l1 l hg hl f hflt t ht8))
            · rw [if_pos rfl, hL2]
              rfl
            · simp only [headgatelaw16_RoleCounts.j3]
              rw [if_neg (by decide)]
        · have hm' : mayI l[f] t = false := Bool.eq_false_iff.mpr hm
          rw [if_neg hm, hm']
          refine Ev.step (f := fun k => (headgatelaw16_awake.f k).bind fun t => some t) (fun k => ?_) awake2
          simp only [headgatelaw16_RoleCounts.j2]
          rw [if_neg (by decide), if_neg (by decide), if_pos (by decide)]
  | succ d ih =>
    intro i hi
    have hi8 : i < 8 := by omega
    have c1 := counts_rd hg hl i hi8
    have hm1 := many_le l i
    have hu : under l i ≤ l.length := List.countP_le_length
    have w1 : wrap64 ((i : Int) + 1) = ((i + 1 : Nat) : Int) := by rw [wsm (by clear c1; omega) (by clear c1; omega)]; rfl
    have w2 : wrap64 (((under l i : Nat) : Int) + ((many l i : Nat) : Int)) = ((under l (i + 1) : Nat) : Int) := by
      clear c1 w1 ih
      rw [under_succ]
      generalize under l i = u at *
      generalize many l i = m at *
      rw [wsm (by omega) (by omega)]
      rfl
    have i0 : ((0 : Int) ≤ (i : Int)) = True := eq_true (by clear c1 w1 w2; omega)
    have i1 : ((i : Int) < ((cntL l zero8).length : Int)) = True := eq_true (by rw [hL]; clear c1 w1 w2; omega)
    have i8 : (i : Int) < 8 := by clear c1 w1 w2 i0 i1; omega
    have hnext := ih (i + 1) (by clear c1 w1 w2 i0 i1; omega)
    clear ih
    refine Ev.step (f := fun k => (role_Of.f k l (i : Int)).bind fun bt507 => (if bt507.2 = 0 then (if (bt507.1.length : Int) = (many l i : Nat) then (headgatelaw16_RoleCounts.l0 k a1 a2 l (cntL l zero8) (under l (i + 1) : Nat) ((i + 1 : Nat) : Int)) else (some false)) else (some false))) (fun k => ?_) (Ev.bind (of_ev l (i : Int)) ?_)
    · simp only [headgatelaw16_RoleCounts.l0]
      rw [if_pos i8]
      simp only [i0, i1, if_true, c1, w1, w2]
    · rw [of_good hg hl i hi8]
      refine Ev.congr (fun k => ?_) hnext
      rw [if_pos rfl, if_pos]
      have hlen := posOf_len (i : Int) l 0 []
      unfold many
      rw [hlen]
      simp
theorem RoleCounts : headgatelaw16_RoleCounts.Pure := by
  intro l a1 a2 _ hl _ _ _
  have hg : ∀ r ∈ madeL l, 0 ≤ r ∧ r < 8 := fun r hr => madeL_mem hr
  have hlen := madeL_len l
  have hL : (cntL (madeL l) zero8).length = 8 := by rw [cntL_len]; rfl
  refine Ev.rounds (r := true) (Ev.congr (f := fun k => (headgatelaw16_made.f k l).bind fun t500 => ((role_Counts.f k t500).bind fun bt503 => (if bt503.2 = 0 then (headgatelaw16_RoleCounts.j0 k a1 a2 t500 bt503.1 ((bt503.1.length : Int) != 8)) else (headgatelaw16_RoleCounts.j0 k a1 a2 t500 bt503.1 true)))) (fun k => rfl) (Ev.bind (made_ev l (by omega)) (Ev.bind (counts_ev _) ?_)))
  rw [cnt_good hg (by omega)]
  have h := rest_ev (madeL l) hg (by omega) a1 a2 8 0 (by omega)
  rw [under_zero hg] at h
  refine Ev.congr (f := fun k => headgatelaw16_RoleCounts.j0 k a1 a2 (madeL l) (cntL (madeL l) zero8) false) (fun k => ?_) (Ev.step (fun k => ?_) h)
  · rw [if_pos rfl, hL]
    rfl
  · simp only [headgatelaw16_RoleCounts.j0]
    rw [if_neg (by decide)]
    rfl
end Go.Proofs.Ytmemdggofphcnaa.Pure
