/- Lists of blocks, without the machine: which are valid, what their frames are, and that equal lists are found equal. -/
import Derived.Test.YtcdeaiiiplkfiaaLogs
import Derived.Test.YtcdeaiiiplkfiaaFrames
import Derived.Test.YtcdeaiiiplkfiaaXx9
namespace Go.Proofs.Ytcdeaiiiplkfiaa.X
open Go.RowKit Go.Proofs.YtcdeaiiiplkfiaaW.PrintWords Go.Proofs.YtcdeaiiiplkfiaaW.PrintLast Go.Proofs.YtcdeaiiiplkfiaaW.PrintMore OrdMath
theorem same_ints_l0 (l : List Int) (hl : l.length < 1000000) (d : Nat) : ∀ i : Nat, i + d = l.length → Ev (fun k => headgatekit_SameInts.l0 k l l (i : Int)) true := by
  induction d with
  | zero =>
    intro i hi
    refine Ev.step (f := fun _ => some true) (fun k => ?_) (Ev.now _)
    simp only [headgatekit_SameInts.l0]
    rw [if_neg (by omega)]
  | succ d ih =>
    intro i hi
    refine Ev.step (f := fun k => headgatekit_SameInts.l0 k l l ((i + 1 : Nat) : Int)) (fun k => ?_) (ih (i + 1) (by omega))
    simp only [headgatekit_SameInts.l0]
    rw [if_pos (by omega), if_pos (by omega), if_pos (by omega), if_pos trivial, wsm (by omega) (by omega)]
    rfl
theorem same_ints (l : List Int) (hl : l.length < 1000000) : Ev (fun k => headgatekit_SameInts.f k l l) true := by
  refine Ev.congr (f := fun k => headgatekit_SameInts.l0 k l l 0) (fun k => ?_) (same_ints_l0 l hl l.length 0 (by omega))
  unfold headgatekit_SameInts.f
  rw [if_pos rfl]
theorem and_tab : ∀ a : Fin 256, ∀ o : Fin 7, Go.bits .and .i64 (a.val : Int) (wrap64 ((shl .i64 1 (o.val : Int)) - 1)) = ((a.val % 2 ^ o.val : Nat) : Int) := by decide +kernel
theorem check_at {a o : Nat} (ha : a ≤ 255) (ho : o ≤ 6) (hm : a % 2 ^ o = 0) : Ev (fun k => order_Check.f k (a : Int) (o : Int)) 0 := by
  have h1 := and_tab ⟨a, by omega⟩ ⟨o, by omega⟩
  dsimp only at h1
  rw [hm] at h1
  refine Ev.congr (f := fun k => order_Check.j0 k false (a : Int) (o : Int)) (fun k => ?_) (Ev.step (f := fun _ => some 0) (fun k => ?_) (Ev.now _))
  · unfold order_Check.f
    rw [if_neg (by omega), if_neg (by omega), decide_eq_false (by omega)]
  · simp only [order_Check.j0]
    rw [if_neg (by decide), if_pos (by omega), h1, if_pos (by rfl), if_neg (by omega)]
theorem small_at {a o : Nat} (ha : a ≤ 255) (ho : o < 6) (hm : a % 2 ^ o = 0) : Ev (fun k => order_small.f k (a : Int) (o : Int)) 0 := by
  refine Ev.congr (f := fun k => (order_Check.f k (a : Int) (o : Int)).bind fun t => if t = 0 then (if (o : Int) = 6 then some 2 else some t) else some t) (fun k => rfl) (Ev.bind (check_at ha (by omega) hm) ?_)
  refine Ev.congr (f := fun _ => some 0) (fun k => ?_) (Ev.now _)
  rw [if_pos rfl, if_neg (by omega)]
theorem Buddy_at {a o : Nat} (ha : a ≤ 255) (ho : o < 6) (hm : a % 2 ^ o = 0) : Ev (fun k => order_Buddy.f k (a : Int) (o : Int)) (((a ^^^ 2 ^ o : Nat) : Int), (o : Int), 0) := by
  refine Ev.congr (f := fun k => (order_small.f k (a : Int) (o : Int)).bind fun t => if t = 0 then ((order_buddy.f (a : Int) (o : Int)).bind fun b => some (b.1, b.2, 0)) else some (0, 0, t)) (fun k => rfl) (Ev.bind (small_at ha ho hm) ?_)
  refine Ev.congr (f := fun _ => some (((a ^^^ 2 ^ o : Nat) : Int), (o : Int), 0)) (fun k => ?_) (Ev.now _)
  rw [if_pos rfl, buddy_at ha ho]
  rfl
theorem Parent_at {a o : Nat} (ha : a ≤ 255) (ho : o < 6) (hm : a % 2 ^ o = 0) : Ev (fun k => order_Parent.f k (a : Int) (o : Int)) (((clr a o : Nat) : Int), ((o + 1 : Nat) : Int), 0) := by
  refine Ev.congr (f := fun k => (order_small.f k (a : Int) (o : Int)).bind fun t => if t = 0 then ((order_parent.f (a : Int) (o : Int)).bind fun b => some (b.1, b.2, 0)) else some (0, 0, t)) (fun k => rfl) (Ev.bind (small_at ha ho hm) ?_)
  refine Ev.congr (f := fun _ => some (((clr a o : Nat) : Int), ((o + 1 : Nat) : Int), 0)) (fun k => ?_) (Ev.now _)
  rw [if_pos rfl, parent_at ha ho]
  rfl
/-- Valid blocks that ascend from a place. -/
def Asc : Nat → List (Nat × Nat) → Prop
  | _, [] => True
  | next, t :: l => next ≤ t.1 ∧ t.1 ≤ 255 ∧ t.2 ≤ 6 ∧ t.1 % 2 ^ t.2 = 0 ∧ Asc (t.1 + 2 ^ t.2) l
theorem Asc.low {next next' : Nat} {l : List (Nat × Nat)} (h : Asc next l) (hl : next' ≤ next) : Asc next' l := by
  cases l with
  | nil => trivial
  | cons t l => exact ⟨Nat.le_trans hl h.1, h.2⟩
theorem Asc.all {l : List (Nat × Nat)} : ∀ {next : Nat}, Asc next l → ∀ t ∈ l, t.1 ≤ 255 ∧ t.2 ≤ 6 := by
  induction l with
  | nil => intro _ _ t ht; cases ht
  | cons u l ih =>
    rintro next ⟨h1, h2, h3, h4, h5⟩ t ht
    rcases List.mem_cons.1 ht with rfl | ht
    · exact ⟨h2, h3⟩
    · exact ih h5 t ht
theorem checklist_l0 (L : List (Nat × Nat)) (hL : L.length < 1000000) (d : Nat) : ∀ (i next : Nat), i + d = L.length → next ≤ 400 → Asc next (L.drop i) →
    Ev (fun k => order_CheckList.l0 k (next : Int) (L.map blk) (L.length : Int) (i : Int)) (0, 0) := by
  induction d with
  | zero =>
    intro i next hi _ _
    refine Ev.step (f := fun _ => some (0, 0)) (fun k => ?_) (Ev.now _)
    simp only [order_CheckList.l0]
    rw [if_neg (by omega)]
  | succ d ih =>
    intro i next hi hn h
    have hlt : i < L.length := by omega
    have hd : L.drop i = L[i] :: L.drop (i + 1) := List.drop_eq_getElem_cons hlt
    have hr : rd_T32 (L.map blk) (i : Int) = blk L[i] := by
      simp [rd_T32, List.getD_eq_getElem?_getD, List.getElem?_eq_getElem hlt]
    rw [hd] at h
    obtain ⟨h1, h2, h3, h4, h5⟩ := h
    have hp := pow_pos' L[i].2
    have hp2 := pow_le_64 h3
    refine Ev.step (f := fun k => (order_Check.f k (L[i].1 : Int) (L[i].2 : Int)).bind fun t => if t = 0 then (if (L[i].1 : Int) < (next : Int) then some (8, (i : Int)) else order_CheckList.l0 k ((L[i].1 + 2 ^ L[i].2 : Nat) : Int) (L.map blk) (L.length : Int) ((i + 1 : Nat) : Int)) else some (t, (i : Int))) (fun k => ?_) (Ev.bind (check_at h2 h3 h4) ?_)
    · simp only [order_CheckList.l0]
      have hs : wrap64 ((L[i].1 : Int) + ((2 ^ L[i].2 : Nat) : Int)) = ((L[i].1 + 2 ^ L[i].2 : Nat) : Int) := by rw [wsm (by omega) (by omega)]; rfl
      have hc : (0 : Int) ≤ (L[i].2 : Int) := by omega
      rw [if_pos (by omega), if_pos (by omega), if_pos (by rw [List.length_map]; omega), hr]
      simp only [blk, hc, if_true]
      rw [shl_u (by omega), hs, wsm (x := (i : Int) + 1) (by omega) (by omega)]
      rfl
    · refine Ev.congr (f := fun k => order_CheckList.l0 k ((L[i].1 + 2 ^ L[i].2 : Nat) : Int) (L.map blk) (L.length : Int) ((i + 1 : Nat) : Int)) (fun k => ?_) (ih (i + 1) _ (by omega) (by omega) h5)
      rw [if_pos rfl, if_neg (by omega)]
theorem checklist_ok (L : List (Nat × Nat)) (hL : L.length < 1000000) (h : Asc 0 L) : Ev (fun k => order_CheckList.f k (L.map blk)) (0, 0) := by
  refine Ev.congr (fun k => ?_) (checklist_l0 L hL L.length 0 0 (by omega) (by omega) h)
  unfold order_CheckList.f
  rw [List.length_map]
  rfl
theorem frames_ok (L : List (Nat × Nat)) (hL : L.length < 1000000) (h : Asc 0 L) : Ev (fun k => order_Frames.f k (L.map blk)) (framesL (L.map blk), 0) := by
  refine Ev.congr (f := fun k => (order_CheckList.f k (L.map blk)).bind fun t => if t.1 = 0 then (if framesOk (L.map blk) = true then some (framesL (L.map blk), 0) else none) else some ([], t.1)) (fun k => rfl) (Ev.bind (checklist_ok L hL h) ?_)
  refine Ev.congr (f := fun _ => some (framesL (L.map blk), 0)) (fun k => ?_) (Ev.now _)
  dsimp only
  rw [if_pos rfl, if_pos]
  refine decide_eq_true ⟨by rw [List.length_map]; omega, fun b hb => ?_⟩
  obtain ⟨t, ht, rfl⟩ := List.mem_map.1 hb
  obtain ⟨h1, h2⟩ := Asc.all h t ht
  refine ⟨?_, ?_, ?_, ?_⟩ <;> simp only [blk] <;> omega
theorem join_ok (L : List (Nat × Nat)) (hL : L.length < 1000000) (h : Asc 0 L) : Ev (fun k => order_Join.f k (L.map blk)) (stk (pushes [] L), 0) := by
  refine Ev.congr (f := fun k => (order_CheckList.f k (L.map blk)).bind fun t => if t.1 = 0 then ((order_joined.f k (L.map blk)).bind fun u => some (u, 0)) else some (([] : List S32), t.1)) (fun k => rfl) (Ev.bind (checklist_ok L hL h) ?_)
  refine Ev.congr (f := fun k => (order_joined.f k (L.map blk)).bind fun u => some (u, 0)) (fun k => ?_) (Ev.bind (joined_f L hL (Asc.all h)) (Ev.now _))
  dsimp only
  rw [if_pos rfl]
/-! ### frames -/
def span_ (a n : Nat) : List Int := (List.range n).map fun i : Nat => ((a + i : Nat) : Int)
theorem span_add (a m n : Nat) : span_ a (m + n) = span_ a m ++ span_ (a + m) n := by
  unfold span_
  rw [List.range_add, List.map_append, List.map_map]
  congr 1
  apply List.map_congr_left
  intro i _
  simp only [Function.comp]
  rw [Nat.add_assoc]
theorem framesOf_blk (t : Nat × Nat) : framesOf (blk t) = span_ t.1 (2 ^ t.2) := by
  unfold framesOf span_
  simp only [blk, Int.toNat_natCast]
  apply List.map_congr_left
  intro i _
  omega
theorem framesL_cons (t : Nat × Nat) (l : List (Nat × Nat)) : framesL ((t :: l).map blk) = span_ t.1 (2 ^ t.2) ++ framesL (l.map blk) := by
  rw [← framesOf_blk]
  simp [framesL]
theorem can_asc {n : Nat} (hn : n ≤ 256) {l : List (Nat × Nat)} : ∀ {at_ : Nat}, OrdMath.Can n at_ l → Asc at_ l := by
  induction l with
  | nil => intro _ _; trivial
  | cons t l ih =>
    rintro at_ ⟨h1, h2, h3, h4, h5, h6⟩
    have hp := pow_pos' t.2
    exact ⟨by omega, by omega, h2, by rw [h1]; exact h3, by rw [h1]; exact ih h6⟩
theorem can_frames {n : Nat} {l : List (Nat × Nat)} : ∀ {at_ : Nat}, OrdMath.Can n at_ l → at_ ≤ n ∧ framesL (l.map blk) = span_ at_ (n - at_) := by
  induction l with
  | nil =>
    intro at_ h
    obtain rfl : at_ = n := h
    exact ⟨Nat.le_refl _, by rw [Nat.sub_self]; rfl⟩
  | cons t l ih =>
    rintro at_ ⟨h1, h2, h3, h4, h5, h6⟩
    obtain ⟨h7, h8⟩ := ih h6
    have hp := pow_pos' t.2
    refine ⟨by omega, ?_⟩
    rw [framesL_cons, h8, h1, ← span_add]
    congr 1
    omega
end Go.Proofs.Ytcdeaiiiplkfiaa.X
