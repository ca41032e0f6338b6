/- What Check, Of, Counts and Text, and the reference's ones, come to, in plain words on lists. -/
import Derived.Test.YtmemdggofphcnaaBase
import Derived.Test.YtmemdggofphcnaaXx6
import Derived.Test.YtmemdggofphcnaaXx9
import Derived.Test.YtmemdggofphcnaaXx10
namespace Go.Proofs.Ytmemdggofphcnaa.X
open Go.RowKit Go.Proofs.YtmemdggofphcnaaW.PrintWords Go.Proofs.YtmemdggofphcnaaW.PrintLast Go.Proofs.YtmemdggofphcnaaW.PrintMore

def chkV (l : List Int) : Int × Int := if (l.length : Int) > 256 then (5, 0) else if badAt l 0 ≥ 0 then (14, badAt l 0) else (0, 0)
theorem check_V (l : List Int) : role_Check.f l = some (chkV l) := rfl
theorem ris_f (a : Int) : headgateref16_is.f a = some (decide (0 ≤ a ∧ a < 8)) := is_f a
theorem rcheck_l0 (l : List Int) (hl : l.length ≤ 256) (d : Nat) : ∀ i : Nat, i + d = l.length → Ev (fun k => headgateref16_Check.l0 k l (i : Int)) (if badAt (l.drop i) i ≥ 0 then (14, badAt (l.drop i) i) else (0, 0)) := by
  induction d with
  | zero =>
    intro i hi
    rw [List.drop_eq_nil_of_le (by omega), badAt, if_neg (by decide)]
    refine Ev.step (f := fun _ => some (0, 0)) (fun k => ?_) (Ev.now _)
    simp only [headgateref16_Check.l0]
    rw [if_neg (by omega)]
  | succ d ih =>
    intro i hi
    have hlt : i < l.length := by omega
    rw [badAt_drop l i hlt]
    by_cases h : 0 ≤ rd l i ∧ rd l i < 8
    · rw [if_pos h]
      refine Ev.step (fun k => ?_) (ih (i + 1) (by omega))
      simp only [headgateref16_Check.l0]
      rw [if_pos (by omega), if_pos (by omega), ris_f, decide_eq_true h]
      simp only [Option.bind_some, if_true]
      rw [wsm (by omega) (by omega)]
      rfl
    · rw [if_neg h, if_pos (by omega)]
      refine Ev.step (f := fun _ => some (14, (i : Int))) (fun k => ?_) (Ev.now _)
      simp only [headgateref16_Check.l0]
      rw [if_pos (by omega), if_pos (by omega), ris_f, decide_eq_false h]
      simp only [Option.bind_some]
      rw [if_neg (by decide)]
theorem rcheck_ev (l : List Int) : Ev (fun k => headgateref16_Check.f k l) (chkV l) := by
  unfold headgateref16_Check.f chkV
  by_cases h : (l.length : Int) > 256
  · rw [if_pos h]
    refine Ev.congr (fun k => ?_) (Ev.now _)
    rw [if_pos h]
  · rw [if_neg h]
    refine Ev.congr (fun k => ?_) (rcheck_l0 l (by omega) l.length 0 (by omega))
    rw [if_neg h]
    rfl
theorem chk_good {l : List Int} (h : (chkV l).1 = 0) : (∀ r ∈ l, 0 ≤ r ∧ r < 8) ∧ l.length ≤ 256 := check_good (check_V l) h

/-! ### Of -/
def posOf (r : Int) : List Int → Int → List Int → List Int
  | [], _, acc => acc
  | a :: l, i, acc => if a = r then posOf r l (i + 1) (acc ++ [i]) else posOf r l (i + 1) acc
theorem posOf_drop (l : List Int) (r : Int) (i : Nat) (acc : List Int) (h : i < l.length) : posOf r (l.drop i) i acc = if rd l i = r then posOf r (l.drop (i + 1)) ((i + 1 : Nat) : Int) (acc ++ [(i : Int)]) else posOf r (l.drop (i + 1)) ((i + 1 : Nat) : Int) acc := by
  rw [List.drop_eq_getElem_cons h, posOf, rd_at l i h]
  rfl
theorem posOf_len (r : Int) (l : List Int) : ∀ (i : Int) (acc : List Int), (posOf r l i acc).length = acc.length + l.countP (fun a => decide (a = r)) := by
  induction l with
  | nil => intro i acc; simp [posOf]
  | cons a l ih =>
    intro i acc
    rw [posOf, List.countP_cons]
    by_cases h : a = r
    · rw [if_pos h, ih]
      simp [h]
      omega
    · rw [if_neg h, ih]
      simp [h]
theorem of_l0 (l : List Int) (r : Int) (hl : l.length ≤ 256) (d : Nat) : ∀ (i : Nat) (acc : List Int), i + d = l.length → acc.length ≤ i → Ev (fun k => role_Of.l0 k r acc l (l.length : Int) (i : Int)) (posOf r (l.drop i) i acc, 0) := by
  induction d with
  | zero =>
    intro i acc hi ha
    rw [List.drop_eq_nil_of_le (by omega), posOf]
    refine Ev.step (f := fun _ => some (acc, 0)) (fun k => ?_) (Ev.now _)
    simp only [role_Of.l0]
    rw [if_neg (by omega)]
  | succ d ih =>
    intro i acc hi ha
    have hlt : i < l.length := by omega
    rw [posOf_drop l r i acc hlt]
    by_cases h : rd l i = r
    · rw [if_pos h]
      refine Ev.step (fun k => ?_) (ih (i + 1) (acc ++ [(i : Int)]) (by omega) (by simp; omega))
      simp only [role_Of.l0]
      rw [if_pos (by omega), if_pos (by omega), if_pos (by omega), if_pos h, if_pos (by omega), wsm (by omega) (by omega)]
      rfl
    · rw [if_neg h]
      refine Ev.step (fun k => ?_) (ih (i + 1) acc (by omega) (by omega))
      simp only [role_Of.l0]
      rw [if_pos (by omega), if_pos (by omega), if_pos (by omega), if_neg h, wsm (by omega) (by omega)]
      rfl
theorem rof_l0 (l : List Int) (r : Int) (hl : l.length ≤ 256) (d : Nat) : ∀ (i : Nat) (acc : List Int), i + d = l.length → acc.length ≤ i → Ev (fun k => headgateref16_Of.l0 k l r acc (i : Int)) (posOf r (l.drop i) i acc, 0) := by
  induction d with
  | zero =>
    intro i acc hi ha
    rw [List.drop_eq_nil_of_le (by omega), posOf]
    refine Ev.step (f := fun _ => some (acc, 0)) (fun k => ?_) (Ev.now _)
    simp only [headgateref16_Of.l0]
    rw [if_neg (by omega)]
  | succ d ih =>
    intro i acc hi ha
    have hlt : i < l.length := by omega
    rw [posOf_drop l r i acc hlt]
    by_cases h : rd l i = r
    · rw [if_pos h]
      refine Ev.step (fun k => ?_) (ih (i + 1) (acc ++ [(i : Int)]) (by omega) (by simp; omega))
      simp only [headgateref16_Of.l0]
      rw [if_pos (by omega), if_pos (by omega), if_pos h, if_pos (by omega), wsm (by omega) (by omega)]
      rfl
    · rw [if_neg h]
      refine Ev.step (fun k => ?_) (ih (i + 1) acc (by omega) (by omega))
      simp only [headgateref16_Of.l0]
      rw [if_pos (by omega), if_pos (by omega), if_neg h, wsm (by omega) (by omega)]
      rfl
def ofV (l : List Int) (r : Int) : List Int × Int := if (chkV l).1 = 0 then (if 0 ≤ r ∧ r < 8 then (posOf r l 0 [], 0) else ([], 14)) else ([], (chkV l).1)
theorem of_ev (l : List Int) (r : Int) : Ev (fun k => role_Of.f k l r) (ofV l r) := by
  unfold role_Of.f ofV
  rw [check_V]
  simp only [Option.bind_some]
  by_cases h : (chkV l).1 = 0
  · rw [if_pos h, is_f]
    simp only [Option.bind_some]
    by_cases hr : 0 ≤ r ∧ r < 8
    · rw [if_pos hr]
      refine Ev.congr (fun k => ?_) (of_l0 l r (chk_good h).2 l.length 0 [] (by omega) (by simp))
      rw [if_pos h, decide_eq_true hr, if_pos rfl]
      rfl
    · rw [if_neg hr]
      refine Ev.congr (fun k => ?_) (Ev.now _)
      rw [if_pos h, decide_eq_false hr, if_neg (by decide)]
  · rw [if_neg h]
    refine Ev.congr (fun k => ?_) (Ev.now _)
    rw [if_neg h]
theorem rof_ev (l : List Int) (r : Int) : Ev (fun k => headgateref16_Of.f k l r) (ofV l r) := by
  unfold headgateref16_Of.f ofV
  refine Ev.bind (rcheck_ev l) ?_
  by_cases h : (chkV l).1 = 0
  · rw [if_pos h, ris_f]
    simp only [Option.bind_some]
    by_cases hr : 0 ≤ r ∧ r < 8
    · rw [if_pos hr]
      refine Ev.congr (f := fun k => headgateref16_Of.j0 k l r 0 false) (fun k => ?_) ?_
      · rw [if_pos h, decide_eq_true hr, h]
        rfl
      · refine Ev.step (f := fun k => headgateref16_Of.j1 k l r 0) (fun k => ?_) (Ev.step (f := fun k => headgateref16_Of.l0 k l r [] 0) (fun k => ?_) ?_)
        · simp only [headgateref16_Of.j0]
          rw [if_neg (by decide)]
        · simp only [headgateref16_Of.j1]
          exact if_pos trivial
        · exact rof_l0 l r (chk_good h).2 l.length 0 [] (by omega) (by simp)
    · rw [if_neg hr]
      refine Ev.congr (f := fun k => headgateref16_Of.j0 k l r 0 true) (fun k => ?_) ?_
      · rw [if_pos h, decide_eq_false hr, h]
        rfl
      · refine Ev.step (f := fun k => headgateref16_Of.j1 k l r 14) (fun k => ?_) (Ev.step (f := fun k => some ([], 14)) (fun k => ?_) (Ev.now _))
        · simp only [headgateref16_Of.j0]
          exact if_pos trivial
        · simp only [headgateref16_Of.j1]
          rw [if_neg (by decide)]
  · rw [if_neg h]
    refine Ev.congr (f := fun k => headgateref16_Of.j0 k l r (chkV l).1 false) (fun k => ?_) ?_
    · rw [if_neg h]
    · refine Ev.step (f := fun k => headgateref16_Of.j1 k l r (chkV l).1) (fun k => ?_) (Ev.step (f := fun k => some ([], (chkV l).1)) (fun k => ?_) (Ev.now _))
      · simp only [headgateref16_Of.j0]
        rw [if_neg (by decide)]
      · simp only [headgateref16_Of.j1]
        rw [if_neg h]

/-! ### Counts -/
def cntS (c : List Int) (r : Int) : List Int := c.set r.toNat (wrap64 (rd c r + 1))
def cntL (l : List Int) (c : List Int) : List Int := l.foldl cntS c
theorem cntS_len (c : List Int) (r : Int) : (cntS c r).length = c.length := by simp [cntS]
theorem cntL_drop (l : List Int) (c : List Int) (i : Nat) (h : i < l.length) : cntL (l.drop i) c = cntL (l.drop (i + 1)) (cntS c (rd l i)) := by
  rw [List.drop_eq_getElem_cons h, rd_at l i h]
  rfl
theorem counts_l0 (l : List Int) (hl : l.length ≤ 256) (hg : ∀ r ∈ l, 0 ≤ r ∧ r < 8) (d : Nat) : ∀ (i : Nat) (c : List Int), i + d = l.length → c.length = 8 → Ev (fun k => role_Counts.l0 k c l (l.length : Int) (i : Int)) (cntL (l.drop i) c, 0) := by
  induction d with
  | zero =>
    intro i c hi hc
    rw [List.drop_eq_nil_of_le (by omega)]
    refine Ev.step (f := fun _ => some (c, 0)) (fun k => ?_) (Ev.now _)
    simp only [role_Counts.l0]
    rw [if_neg (by omega)]
  | succ d ih =>
    intro i c hi hc
    have hlt : i < l.length := by omega
    have hr := hg (rd l i) (by rw [rd_at l i hlt]; exact List.getElem_mem hlt)
    rw [cntL_drop l c i hlt]
    refine Ev.step (fun k => ?_) (ih (i + 1) (cntS c (rd l i)) (by omega) (by rw [cntS_len]; exact hc))
    simp only [role_Counts.l0]
    rw [if_pos (by omega), if_pos (by omega), if_pos (by omega), if_pos hr.1, if_pos (by omega), wsm (x := (i : Int) + 1) (by omega) (by omega)]
    rfl
theorem rcounts_l0 (l : List Int) (hl : l.length ≤ 256) (hg : ∀ r ∈ l, 0 ≤ r ∧ r < 8) (d : Nat) : ∀ (i : Nat) (c : List Int), i + d = l.length → c.length = 8 → Ev (fun k => headgateref16_Counts.l0 k l c (i : Int)) (cntL (l.drop i) c, 0) := by
  induction d with
  | zero =>
    intro i c hi hc
    rw [List.drop_eq_nil_of_le (by omega)]
    refine Ev.step (f := fun _ => some (c, 0)) (fun k => ?_) (Ev.now _)
    simp only [headgateref16_Counts.l0]
    rw [if_neg (by omega)]
  | succ d ih =>
    intro i c hi hc
    have hlt : i < l.length := by omega
    have hr := hg (rd l i) (by rw [rd_at l i hlt]; exact List.getElem_mem hlt)
    rw [cntL_drop l c i hlt]
    refine Ev.step (fun k => ?_) (ih (i + 1) (cntS c (rd l i)) (by omega) (by rw [cntS_len]; exact hc))
    simp only [headgateref16_Counts.l0]
    rw [if_pos (by omega), if_pos (by omega), if_pos hr.1, if_pos (by omega), wsm (x := (i : Int) + 1) (by omega) (by omega)]
    rfl
def cntV (l : List Int) : List Int × Int := if (chkV l).1 = 0 then (cntL l (List.replicate 8 0), 0) else ([], (chkV l).1)
theorem cntL_len (l : List Int) : ∀ c, (cntL l c).length = c.length := by
  induction l with
  | nil => intro c; rfl
  | cons a l ih => intro c; exact (ih _).trans (cntS_len _ _)
theorem counts_ev (l : List Int) : Ev (fun k => role_Counts.f k l) (cntV l) := by
  unfold role_Counts.f cntV
  rw [check_V]
  simp only [Option.bind_some]
  by_cases h : (chkV l).1 = 0
  · rw [if_pos h]
    obtain ⟨hg, hl⟩ := chk_good h
    refine Ev.congr (fun k => ?_) (counts_l0 l hl hg l.length 0 _ (by omega) (by rfl))
    rw [if_pos h, if_pos (by decide)]
    rfl
  · rw [if_neg h]
    refine Ev.congr (fun k => ?_) (Ev.now _)
    rw [if_neg h]
theorem rcounts_ev (l : List Int) : Ev (fun k => headgateref16_Counts.f k l) (cntV l) := by
  unfold headgateref16_Counts.f cntV
  refine Ev.bind (rcheck_ev l) ?_
  by_cases h : (chkV l).1 = 0
  · rw [if_pos h]
    obtain ⟨hg, hl⟩ := chk_good h
    refine Ev.congr (fun k => ?_) (rcounts_l0 l hl hg l.length 0 _ (by omega) (by rfl))
    rw [if_pos h, if_pos (by decide)]
    rfl
  · rw [if_neg h]
    refine Ev.congr (fun k => ?_) (Ev.now _)
    rw [if_neg h]

/-! ### Text -/
theorem ext_letter (r : Int) (h0 : 0 ≤ r) (h8 : r < 8) : (⟨#[46, 80, 83, 84, 77, 87, 82, 79]⟩ : ByteArray).extract r.toNat (r + 1).toNat = ⟨#[letterOf r]⟩ := by
  obtain ⟨n, rfl⟩ := Int.eq_ofNat_of_zero_le h0
  have : n = 0 ∨ n = 1 ∨ n = 2 ∨ n = 3 ∨ n = 4 ∨ n = 5 ∨ n = 6 ∨ n = 7 := by omega
  rcases this with rfl | rfl | rfl | rfl | rfl | rfl | rfl | rfl <;> rfl
theorem textOf_snoc (l : List Int) (r : Int) : textOf l ++ (⟨#[letterOf r]⟩ : ByteArray) = textOf (l ++ [r]) := by
  apply ByteArray.ext
  unfold textOf
  simp
theorem textOf_size (l : List Int) : (textOf l).size = l.length := by
  unfold textOf
  simp [ByteArray.size]
theorem rtext_l0 (l : List Int) (hl : l.length ≤ 256) (hg : ∀ r ∈ l, 0 ≤ r ∧ r < 8) (d : Nat) : ∀ i : Nat, i + d = l.length → Ev (fun k => headgateref16_Text.l0 k l (textOf (l.take i)) (i : Int)) (textOf l, 0) := by
  induction d with
  | zero =>
    intro i hi
    rw [List.take_of_length_le (by omega)]
    refine Ev.step (f := fun _ => some (textOf l, 0)) (fun k => ?_) (Ev.now _)
    simp only [headgateref16_Text.l0]
    rw [if_neg (by omega)]
  | succ d ih =>
    intro i hi
    have hlt : i < l.length := by omega
    have hr := hg (rd l i) (by rw [rd_at l i hlt]; exact List.getElem_mem hlt)
    refine Ev.step (fun k => ?_) (ih (i + 1) (by omega))
    simp only [headgateref16_Text.l0]
    rw [if_pos (by omega), if_pos (by omega), if_pos hr.1, wsm (x := rd l i + 1) (by omega) (by omega), if_pos (by omega), if_pos (by omega), ext_letter _ hr.1 hr.2, wsm (x := (i : Int) + 1) (by omega) (by omega), textOf_snoc, rd_at l i hlt, ← List.take_succ_eq_append_getElem hlt, if_pos]
    · rfl
    · rw [textOf_size]
      have : (⟨#[letterOf l[i]]⟩ : ByteArray).size = 1 := rfl
      rw [this, List.length_take]
      omega
def textV (l : List Int) : ByteArray × Int := if (chkV l).1 = 0 then (textOf l, 0) else (ByteArray.empty, (chkV l).1)
theorem text_V (l : List Int) : role_Text.f l = some (textV l) := by
  unfold role_Text.f textV
  rw [check_V]
  simp only [Option.bind_some]
  split <;> rfl
theorem rtext_ev (l : List Int) : Ev (fun k => headgateref16_Text.f k l) (textV l) := by
  unfold headgateref16_Text.f textV
  refine Ev.bind (rcheck_ev l) ?_
  by_cases h : (chkV l).1 = 0
  · rw [if_pos h]
    obtain ⟨hg, hl⟩ := chk_good h
    refine Ev.congr (fun k => ?_) (rtext_l0 l hl hg l.length 0 (by omega))
    rw [if_pos h]
    rfl
  · rw [if_neg h]
    refine Ev.congr (fun k => ?_) (Ev.now _)
    rw [if_neg h]
    rfl
end Go.Proofs.Ytmemdggofphcnaa.X
