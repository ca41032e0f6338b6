/- Which row of the table is the first that holds. -/
import Derived.Test.YtigpacfcklcmpaaFound
import Derived.Test.YtigpacfcklcmpaaXx0
import Derived.Test.YtigpacfcklcmpaaXx8
import Derived.Test.YtigpacfcklcmpaaValid
namespace Go.Proofs.Ytigpacfcklcmpaa.Pure
open Go.RowKit Go.Proofs.Ytigpacfcklcmpaa.X Go.Proofs.YtigpacfcklcmpaaW.PrintWords Go.Proofs.YtigpacfcklcmpaaW.PrintLast
theorem first_spec : ∀ (l : List S55) (x : S55), l.find? (fun y => y.f0) = some x → ∀ i : Int, ∃ j : Nat, firstT l i = i + j ∧ l[j]? = some x
  | [], x, h, i => by cases h
  | y :: l, x, h, i => by
    by_cases c : y.f0 = true
    · rw [List.find?_cons_of_pos c] at h
      refine ⟨0, ?_, by simpa using h⟩
      rw [firstT, if_pos c]; omega
    · rw [List.find?_cons_of_neg c] at h
      obtain ⟨j, e, g⟩ := first_spec l x h (i + 1)
      refine ⟨j + 1, ?_, by simpa using g⟩
      rw [firstT, if_neg c, e]; omega
theorem pick_find {l : List S55} {x : S55} (h : l.find? (fun y => y.f0) = some x) : pickT l = some x := by
  obtain ⟨j, e, g⟩ := first_spec l x h 0
  obtain ⟨hj, g⟩ := List.getElem?_eq_some_iff.mp g
  rw [Int.zero_add] at e
  unfold pickT
  rw [e, if_pos (by omega), rd55_at l j hj, g]
/-- Facts that are valid for a kind of command. -/
structure Facts (K acc lv : Int) : Prop where
  a : if K = 4 ∨ K = 5 then 1 ≤ acc ∧ acc < 9 else acc = 0
  l0 : 0 ≤ lv
  l1 : lv < 9
theorem facts_ok {T K P A B V S : Int} {l : List Int} {L acc lv : Int} {wr room fr : Bool} (v : Valid T K P A B V S l L) (f : Facts K acc lv) (k : Nat) (hk : 2 * l.length + 8 ≤ k) : fault_CheckFacts.f k T K P A B V S l L acc wr room lv fr = some 0 := by
  obtain ⟨k, rfl⟩ : ∃ n, k = n + 1 := ⟨k - 1, by omega⟩
  have fa := f.a
  unfold fault_CheckFacts.f
  rw [check_ok v _ (by omega), Option.bind_some, if_pos rfl, access_f, Option.bind_some]
  have i9 := in_f lv 0 9 ⟨f.l0, f.l1⟩
  by_cases h : K = 4 ∨ K = 5
  · rw [if_pos h] at fa
    rw [if_pos (decide_eq_true h), fault_CheckFacts.j0, in_f _ _ _ fa, Option.bind_some]
    simp [i9]
  · rw [if_neg h] at fa
    rw [if_neg (by rw [decide_eq_false h]; decide), fault_CheckFacts.j0, in_f acc _ _ (by omega), Option.bind_some]
    simp [i9]
theorem found_row {T K P A B V S : Int} {l : List Int} {L acc lv : Int} {wr room fr : Bool} {x : S55} (v : Valid T K P A B V S l L) (f : Facts K acc lv) (k : Nat) (hk : 2 * l.length + 8 ≤ k) (h : (tableL K S l acc wr room lv fr).find? (fun y => y.f0) = some x) : fault_found.f k T K P A B V S l L acc wr room lv fr = some (x.f0, x.f1, x.f2, 0) := by
  unfold fault_found.f
  rw [facts_ok v f k hk, Option.bind_some, if_pos rfl, pick_find h]; rfl
/-- The row of an access. -/
def accRow (S n acc : Int) (wr room : Bool) : S55 :=
  if S = 3 ∨ S = 4 then ⟨true, 7, 1⟩ else if acc = 1 then ⟨true, 2, 1⟩ else if acc = 2 ∨ acc = 3 ∨ acc = 4 then ⟨true, 1, 1⟩
  else if acc = 5 then (if n = 0 then ⟨true, 3, 3⟩ else ⟨true, 3, 2⟩) else if acc = 6 ∨ acc = 7 then (if n = 0 then ⟨true, 4, 2⟩ else ⟨true, 1, 1⟩)
  else if wr = true then ⟨true, 5, 2⟩ else if n = 0 then ⟨true, 4, 3⟩ else if room = true then ⟨true, 6, 2⟩ else ⟨true, 7, 2⟩
theorem find_acc {K S acc lv : Int} {l : List Int} {wr room fr : Bool} (hk : K = 4 ∨ K = 5) (hs : S = 1 ∨ S = 2 ∨ S = 3 ∨ S = 4) (ha : 1 ≤ acc ∧ acc < 9) : (tableL K S l acc wr room lv fr).find? (fun y => y.f0) = some (accRow S l.length acc wr room) := by
  have ha : acc = 1 ∨ acc = 2 ∨ acc = 3 ∨ acc = 4 ∨ acc = 5 ∨ acc = 6 ∨ acc = 7 ∨ acc = 8 := by omega
  obtain ⟨n, hn⟩ : ∃ n : Int, n = (l.length : Int) := ⟨_, rfl⟩
  unfold tableL
  rw [← hn]
  clear hn
  generalize wrap64 (wrap64 (lv + 1) - n) = z
  by_cases h0 : n = 0
  · subst h0
    rcases hk with rfl | rfl <;> rcases hs with rfl | rfl | rfl | rfl <;> rcases ha with rfl | rfl | rfl | rfl | rfl | rfl | rfl | rfl <;> cases wr <;> cases room <;> rfl
  · have b : (n == 0) = false := beq_eq_false_iff_ne.mpr h0
    rw [b]
    unfold accRow
    rw [if_neg h0]
    simp only [if_neg h0]
    clear b h0
    rcases hk with rfl | rfl <;> rcases hs with rfl | rfl | rfl | rfl <;> rcases ha with rfl | rfl | rfl | rfl | rfl | rfl | rfl | rfl <;> cases wr <;> cases room <;> rfl
/-- The row of a fork. -/
def forkRow (lack : Int) (fr : Bool) : S55 := if fr = false then ⟨true, 2, 1⟩ else if 0 < lack then ⟨true, 3, lack + 1⟩ else ⟨true, 1, 1⟩
theorem find_fork {S acc lv : Int} {l : List Int} {wr room fr : Bool} (h0 : 0 ≤ lv) (h1 : lv < 9) (hl : l.length < 1000) : (tableL 6 S l acc wr room lv fr).find? (fun y => y.f0) = some (forkRow (lv + 1 - l.length) fr) := by
  unfold tableL
  rw [IntWalk.wrap64_in (lv + 1) (by omega), IntWalk.wrap64_in (lv + 1 - _) (by omega), IntWalk.wrap64_in (lv + 1 - _ + 1) (by omega)]
  cases fr
  · rfl
  · unfold forkRow
    rw [if_neg (show ¬ (true = false) by decide)]
    by_cases c : 0 < lv + 1 - (l.length : Int)
    · rw [if_pos c, decide_eq_true c]; rfl
    · rw [if_neg c, decide_eq_false c]; rfl
theorem find_spawn {S acc lv : Int} {l : List Int} {wr room fr : Bool} : (tableL 1 S l acc wr room lv fr).find? (fun y => y.f0) = some (if l.length = 0 then ⟨true, 3, 2⟩ else ⟨true, 1, 1⟩) := by
  by_cases c : l.length = 0
  · rw [if_pos c]
    obtain rfl := List.eq_nil_of_length_eq_zero c
    rfl
  · rw [if_neg c]
    have b : ((l.length : Int) == 0) = false := beq_eq_false_iff_ne.mpr (by omega)
    unfold tableL
    rw [b]; rfl
end Go.Proofs.Ytigpacfcklcmpaa.Pure
