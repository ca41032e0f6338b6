/- What order.joined, order.Cut and the reference's Cut come to, as plain functions: the frames of a range pushed one by one with joins are the greedy cut. Without the machine. -/
import Derived.Test.YtcdeaiiiplkfiaaXx4
import Derived.Test.YtcdeaiiiplkfiaaMath
namespace Go.Proofs.Ytcdeaiiiplkfiaa.X
open Go.RowKit Go.Proofs.YtcdeaiiiplkfiaaW.PrintWords Go.Proofs.YtcdeaiiiplkfiaaW.PrintLast OrdMath

def blk (t : Nat × Nat) : S32 := ⟨(t.1 : Int), (t.2 : Int)⟩
def stk (st : List (Nat × Nat)) : List S32 := st.reverse.map blk
theorem stk_cons (t : Nat × Nat) (st : List (Nat × Nat)) : stk (t :: st) = stk st ++ [blk t] := by simp [stk]
theorem stk_length (st : List (Nat × Nat)) : (stk st).length = st.length := by simp [stk]
theorem stk_last (t : Nat × Nat) (st : List (Nat × Nat)) : rd_T32 (stk (t :: st)) (st.length : Int) = blk t := by
  rw [stk_cons]
  simp [rd_T32, List.getD_eq_getElem?_getD, ← stk_length]
theorem stk_take (t : Nat × Nat) (st : List (Nat × Nat)) : (stk (t :: st)).take st.length = stk st := by
  rw [stk_cons, ← stk_length, List.take_left]
theorem wsm {x : Int} (h0 : -9223372036854775808 ≤ x) (h1 : x ≤ 9223372036854775807) : wrap64 x = x := by
  unfold wrap64
  omega
theorem buddy_tab : ∀ a : Fin 256, ∀ o : Fin 6, order_buddy.f (a.val : Int) (o.val : Int) = some (((a.val ^^^ 2 ^ o.val : Nat) : Int), (o.val : Int)) := by decide +kernel
theorem parent_tab : ∀ a : Fin 256, ∀ o : Fin 6, order_parent.f (a.val : Int) (o.val : Int) = some (((clr a.val o.val : Nat) : Int), ((o.val + 1 : Nat) : Int)) := by decide +kernel
theorem buddy_at {a o : Nat} (ha : a ≤ 255) (ho : o < 6) : order_buddy.f (a : Int) (o : Int) = some (((a ^^^ 2 ^ o : Nat) : Int), (o : Int)) := buddy_tab ⟨a, by omega⟩ ⟨o, ho⟩
theorem parent_at {a o : Nat} (ha : a ≤ 255) (ho : o < 6) : order_parent.f (a : Int) (o : Int) = some (((clr a o : Nat) : Int), ((o + 1 : Nat) : Int)) := parent_tab ⟨a, by omega⟩ ⟨o, ho⟩
theorem clr_le (a o : Nat) : clr a o ≤ a := Nat.sub_le _ _

theorem joined_l1 (L : List S32) (n i : Int) (r : List S32) (f : Nat) : ∀ (st : List (Nat × Nat)) (a o : Nat), 6 ≤ f + o → o ≤ 6 → a ≤ 255 → st.length < 1000000 →
    Ev (fun k => order_joined.l0 k (stk (push f st a o)) L n (wrap64 (i + 1))) r → Ev (fun k => order_joined.l1 k (stk st) L n i (a : Int) (o : Int)) r := by
  induction f with
  | zero =>
    intro st a o hf ho ha hl h
    obtain rfl : o = 6 := by omega
    refine Ev.step (f := fun k => order_joined.l0 k (stk ((a, 6) :: st)) L n (wrap64 (i + 1))) (fun k => ?_) h
    simp only [order_joined.l1]
    rw [if_neg (by omega), stk_length, if_pos (by omega), stk_cons]
    rfl
  | succ f ih =>
    intro st a o hf ho ha hl h
    unfold push at h
    by_cases h6 : o < 6
    · rw [if_pos h6] at h
      cases st with
      | nil =>
        refine Ev.step (f := fun k => order_joined.l0 k (stk [(a, o)]) L n (wrap64 (i + 1))) (fun k => ?_) h
        simp only [order_joined.l1]
        rw [if_pos (by omega), stk_length, if_pos (by rw [wsm (by simp) (by simp)]; simp), if_pos (by simp)]
        rfl
      | cons t st =>
        simp only [List.length_cons] at hl
        have hw : wrap64 (((stk (t :: st)).length : Int) - 1) = (st.length : Int) := by
          rw [stk_length, wsm (by simp only [List.length_cons]; omega) (by simp only [List.length_cons]; omega)]
          simp only [List.length_cons]
          omega
        have hstep : ∀ k, order_joined.l1 (k + 1) (stk (t :: st)) L n i (a : Int) (o : Int) =
            if t.1 = a ^^^ 2 ^ o ∧ t.2 = o then order_joined.l1 k (stk st) L n i ((clr a o : Nat) : Int) ((o + 1 : Nat) : Int) else order_joined.l0 k (stk ((a, o) :: t :: st)) L n (wrap64 (i + 1)) := by
          intro k
          simp only [order_joined.l1]
          rw [if_pos (by omega), hw, if_neg (by omega), if_pos (by omega), if_pos (by rw [stk_length, List.length_cons]; omega), buddy_at ha h6]
          simp only [Option.bind_some, stk_last]
          by_cases hb : t.1 = a ^^^ 2 ^ o ∧ t.2 = o
          · obtain ⟨b1, b2⟩ := hb
            rw [if_neg (by simp only [blk]; rw [b1, b2]; simp), if_pos (by rw [stk_length, List.length_cons]; omega), parent_at ha h6, if_pos (show t.1 = a ^^^ 2 ^ o ∧ t.2 = o from ⟨b1, b2⟩)]
            simp only [Option.bind_some, Int.toNat_natCast, stk_take]
          · rw [if_pos, stk_length, List.length_cons, if_pos (by omega), if_neg hb, stk_cons (a, o)]
            · rfl
            · simp only [blk, Bool.or_eq_true, Bool.not_eq_true', beq_eq_false_iff_ne, ne_eq, Int.natCast_inj]
              by_cases h1 : t.1 = a ^^^ 2 ^ o
              · exact .inr (fun h2 => hb ⟨h1, h2⟩)
              · exact .inl h1
        dsimp only at h
        by_cases hb : t.1 = a ^^^ 2 ^ o ∧ t.2 = o
        · rw [if_pos hb] at h
          refine Ev.step (f := fun k => order_joined.l1 k (stk st) L n i ((clr a o : Nat) : Int) ((o + 1 : Nat) : Int)) (fun k => by rw [hstep k, if_pos hb]) ?_
          exact ih st (clr a o) (o + 1) (by omega) (by omega) (by have := clr_le a o; omega) (by omega) h
        · rw [if_neg hb] at h
          exact Ev.step (f := fun k => order_joined.l0 k (stk ((a, o) :: t :: st)) L n (wrap64 (i + 1))) (fun k => by rw [hstep k, if_neg hb]) h
    · rw [if_neg h6] at h
      refine Ev.step (f := fun k => order_joined.l0 k (stk ((a, o) :: st)) L n (wrap64 (i + 1))) (fun k => ?_) h
      simp only [order_joined.l1]
      rw [if_neg (by omega), stk_length, if_pos (by omega), stk_cons]
      rfl
theorem push_length (f : Nat) : ∀ (st : List (Nat × Nat)) (a o : Nat), (push f st a o).length ≤ st.length + 1 := by
  induction f with
  | zero => intro st a o; simp [push]
  | succ f ih =>
    intro st a o
    unfold push
    split
    · cases st with
      | nil => simp
      | cons t st =>
        dsimp only
        split
        · have := ih st (clr a o) (o + 1); simp only [List.length_cons]; omega
        · simp
    · simp
/-- order.joined: all blocks of the list pushed. -/
theorem joined_l0 (L : List (Nat × Nat)) (hL : L.length < 1000000) (hall : ∀ t ∈ L, t.1 ≤ 255 ∧ t.2 ≤ 6) (d : Nat) : ∀ (i : Nat) (st : List (Nat × Nat)), i + d = L.length → st.length ≤ i →
    Ev (fun k => order_joined.l0 k (stk st) (L.map blk) (L.length : Int) (i : Int)) (stk (pushes st (L.drop i))) := by
  induction d with
  | zero =>
    intro i st hi hs
    refine Ev.step (f := fun _ => some (stk st)) (fun k => ?_) ?_
    · simp only [order_joined.l0]
      rw [if_neg (by omega)]
    · rw [List.drop_eq_nil_of_le (by omega)]
      exact Ev.now _
  | succ d ih =>
    intro i st hi hs
    have hlt : i < L.length := by omega
    have hd : L.drop i = L[i] :: L.drop (i + 1) := List.drop_eq_getElem_cons hlt
    have hr : rd_T32 (L.map blk) (i : Int) = blk L[i] := by
      simp [rd_T32, List.getD_eq_getElem?_getD, List.getElem?_eq_getElem hlt]
    obtain ⟨ha, ho⟩ := hall L[i] (List.getElem_mem hlt)
    refine Ev.step (f := fun k => order_joined.l1 k (stk st) (L.map blk) (L.length : Int) (i : Int) (L[i].1 : Int) (L[i].2 : Int)) (fun k => ?_) ?_
    · simp only [order_joined.l0]
      rw [if_pos (by omega), if_pos (by omega), if_pos (by rw [List.length_map]; omega), hr]
      rfl
    · refine joined_l1 _ _ _ _ 7 st L[i].1 L[i].2 (by omega) ho ha (by omega) ?_
      rw [wsm (by omega) (by omega), hd]
      have := push_length 7 st L[i].1 L[i].2
      exact ih (i + 1) (push 7 st L[i].1 L[i].2) (by omega) (by omega)
theorem joined_f (L : List (Nat × Nat)) (hL : L.length < 1000000) (hall : ∀ t ∈ L, t.1 ≤ 255 ∧ t.2 ≤ 6) : Ev (fun k => order_joined.f k (L.map blk)) (stk (pushes [] L)) := by
  have := joined_l0 L hL hall L.length 0 [] (by omega) (Nat.le_refl _)
  rw [List.drop_zero] at this
  refine Ev.congr (fun k => ?_) this
  unfold order_joined.f
  rw [List.length_map]
  rfl
theorem singles_snoc (d : Nat) : ∀ n, singles (d + 1) n = singles d n ++ [(n + d, 0)] := by
  induction d with
  | zero => intro n; rfl
  | succ d ih =>
    intro n
    have h1 : singles (d + 1 + 1) n = (n, 0) :: singles (d + 1) (n + 1) := rfl
    rw [h1, ih (n + 1), show n + 1 + d = n + (d + 1) by omega]
    rfl
theorem singles_length (d : Nat) : ∀ n, (singles d n).length = d := by
  induction d with
  | zero => intro n; rfl
  | succ d ih => intro n; simp [singles, ih]
theorem singles_mem {d : Nat} : ∀ {n : Nat} {t : Nat × Nat}, t ∈ singles d n → n ≤ t.1 ∧ t.1 < n + d ∧ t.2 = 0 := by
  induction d with
  | zero => intro n t h; simp [singles] at h
  | succ d ih =>
    intro n t h
    rcases List.mem_cons.1 h with rfl | h
    · exact ⟨Nat.le_refl _, by dsimp only; omega, rfl⟩
    · obtain ⟨h1, h2, h3⟩ := ih h
      exact ⟨by omega, by omega, h3⟩
/-- order.Cut's loop. -/
theorem cut_l0 (from_ te : Nat) (hto : te ≤ 256) (d : Nat) : ∀ m : Nat, from_ + m + d = te →
    Ev (fun k => order_Cut.l0 k (te : Int) ((singles m from_).map blk) ((from_ + m : Nat) : Int)) (stk (pushes [] (singles (te - from_) from_)), 0) := by
  induction d with
  | zero =>
    intro m hm
    have hj := joined_f (singles m from_) (by rw [singles_length]; omega) (fun t ht => by obtain ⟨h1, h2, h3⟩ := singles_mem ht; omega)
    refine Ev.step (f := fun k => (order_joined.f k ((singles m from_).map blk)).bind fun t => some (t, (0 : Int))) (fun k => ?_) ?_
    · simp only [order_Cut.l0]
      rw [if_neg (by omega)]
    · rw [show te - from_ = m by omega]
      exact Ev.bind hj (Ev.now _)
  | succ d ih =>
    intro m hm
    refine Ev.step (f := fun k => order_Cut.l0 k (te : Int) ((singles (m + 1) from_).map blk) ((from_ + (m + 1) : Nat) : Int)) (fun k => ?_) (ih (m + 1) (by omega))
    simp only [order_Cut.l0]
    rw [if_pos (by omega), if_pos (by rw [List.length_map, singles_length]; omega), wsm (by omega) (by omega), singles_snoc, List.map_append]
    rfl
theorem cut_ok {from_ te : Nat} (h : from_ ≤ te) (hto : te ≤ 256) : Ev (fun k => order_Cut.f k (from_ : Int) (te : Int)) ((greedy (te - from_) from_ te).map blk, 0) := by
  have h1 := cut_l0 from_ te hto (te - from_) 0 (by omega)
  have h2 : stk (pushes [] (singles (te - from_) from_)) = (greedy (te - from_) from_ te).map blk := by
    unfold stk
    rw [(pushes_greedy h hto).1]
  rw [h2] at h1
  refine Ev.congr (f := fun k => order_Cut.j0 k (from_ : Int) (te : Int) false) (fun k => ?_) (Ev.step (f := fun k => order_Cut.l0 k (te : Int) [] (from_ : Int)) (fun k => ?_) h1)
  · unfold order_Cut.f
    rw [if_neg (by omega), if_neg (by omega), decide_eq_false (by omega)]
  · simp only [order_Cut.j0]
    rw [if_neg (by decide)]
theorem cut_err {from_ te : Int} (h : from_ < 0 ∨ te < from_ ∨ 256 < te) : Ev (fun k => order_Cut.f k from_ te) ([], 2) := by
  refine Ev.congr (f := fun k => order_Cut.j0 k from_ te true) (fun k => ?_) (Ev.step (f := fun _ => some ([], 2)) (fun k => ?_) (Ev.now _))
  · unfold order_Cut.f
    by_cases h1 : from_ < 0
    · rw [if_pos h1]
    · rw [if_neg h1]
      by_cases h2 : te < from_
      · rw [if_pos h2]
      · rw [if_neg h2, decide_eq_true (by omega)]
  · simp only [order_Cut.j0]
    rw [if_pos trivial]

/-! ### the reference's -/
theorem size_tab : ∀ o : Fin 8, headgateref08_size.f 9 (o.val : Int) = some ((2 ^ o.val : Nat) : Int) := by decide +kernel
theorem size_at {o : Nat} (h : o ≤ 7) : Ev (fun k => headgateref08_size.f k (o : Int)) ((2 ^ o : Nat) : Int) := Ev.of (headgateref08_size.mono _) (size_tab ⟨o, by omega⟩)
theorem pow_le_64 {o : Nat} (h : o ≤ 6) : 2 ^ o ≤ 64 := Nat.pow_le_pow_right (n := 2) (by omega) h
theorem refcut_l1 (te at_ : Nat) (hto : te ≤ 256) (hat : at_ < te) (acc : List S32) (hacc : acc.length < 1000000) (r : List S32 × Int) (f : Nat) : ∀ s : Nat, f + s = 6 → gord f at_ te s ≤ 6 →
    Ev (fun k => headgateref08_Cut.l0 k (te : Int) (acc ++ [blk (at_, gord f at_ te s)]) ((at_ + 2 ^ gord f at_ te s : Nat) : Int)) r → Ev (fun k => headgateref08_Cut.l1 k (te : Int) acc (at_ : Int) (s : Int)) r := by
  have last : ∀ s : Nat, s ≤ 6 → Ev (fun k => headgateref08_Cut.l0 k (te : Int) (acc ++ [blk (at_, s)]) ((at_ + 2 ^ s : Nat) : Int)) r → Ev (fun k => (headgateref08_size.f k (s : Int)).bind fun t => headgateref08_Cut.l0 k (te : Int) (acc ++ [blk (at_, s)]) (wrap64 ((at_ : Int) + t))) r := by
    intro s hs h
    refine Ev.bind (size_at (by omega)) ?_
    have := pow_le_64 hs
    have hp := pow_pos' s
    rw [show wrap64 ((at_ : Int) + ((2 ^ s : Nat) : Int)) = ((at_ + 2 ^ s : Nat) : Int) by rw [wsm (by omega) (by omega)]; omega]
    exact h
  induction f with
  | zero =>
    intro s hs _ h
    obtain rfl : s = 6 := by omega
    refine Ev.step (fun k => ?_) (last 6 (Nat.le_refl _) h)
    simp only [headgateref08_Cut.l1]
    rw [if_neg (by omega), if_pos (by omega)]
    rfl
  | succ f ih =>
    intro s hs hg h
    have hp := pow_le_64 (o := s + 1) (by omega)
    have hw : wrap64 ((s : Int) + 1) = ((s + 1 : Nat) : Int) := by rw [wsm (by omega) (by omega)]; rfl
    have hpos := pow_pos' (s + 1)
    have hmod : Int.tmod (at_ : Int) ((2 ^ (s + 1) : Nat) : Int) = ((at_ % 2 ^ (s + 1) : Nat) : Int) := by rw [Int.tmod_eq_emod_of_nonneg (by omega)]; rfl
    have hsum : wrap64 ((at_ : Int) + ((2 ^ (s + 1) : Nat) : Int)) = ((at_ + 2 ^ (s + 1) : Nat) : Int) := by rw [wsm (by omega) (by omega)]; omega
    unfold gord at h hg
    rw [if_pos (by omega)] at h hg
    refine Ev.step (f := fun k => (headgateref08_size.f k ((s + 1 : Nat) : Int)).bind fun t => if t = 0 then none else if Int.tmod (at_ : Int) t = 0 then if wrap64 ((at_ : Int) + t) ≤ (te : Int) then headgateref08_Cut.l1 k (te : Int) acc (at_ : Int) ((s + 1 : Nat) : Int) else (headgateref08_size.f k (s : Int)).bind fun t => headgateref08_Cut.l0 k (te : Int) (acc ++ [blk (at_, s)]) (wrap64 ((at_ : Int) + t)) else (headgateref08_size.f k (s : Int)).bind fun t => headgateref08_Cut.l0 k (te : Int) (acc ++ [blk (at_, s)]) (wrap64 ((at_ : Int) + t))) (fun k => ?_) ?_
    · simp only [headgateref08_Cut.l1]
      rw [if_pos (by omega), hw]
      have hacc' : acc.length < 8796093022208 := by omega
      simp only [hacc', if_true]
      rfl
    · refine Ev.bind (size_at (by omega)) ?_
      refine Ev.congr (f := fun k => if at_ % 2 ^ (s + 1) = 0 then if at_ + 2 ^ (s + 1) ≤ te then headgateref08_Cut.l1 k (te : Int) acc (at_ : Int) ((s + 1 : Nat) : Int) else (headgateref08_size.f k (s : Int)).bind fun t => headgateref08_Cut.l0 k (te : Int) (acc ++ [blk (at_, s)]) (wrap64 ((at_ : Int) + t)) else (headgateref08_size.f k (s : Int)).bind fun t => headgateref08_Cut.l0 k (te : Int) (acc ++ [blk (at_, s)]) (wrap64 ((at_ : Int) + t))) (fun k => ?_) ?_
      · rw [if_neg (by omega), hmod, hsum]
        by_cases h1 : at_ % 2 ^ (s + 1) = 0
        · rw [if_pos (by omega), if_pos h1]
          by_cases h2 : at_ + 2 ^ (s + 1) ≤ te
          · rw [if_pos (by omega), if_pos h2]
          · rw [if_neg (by omega), if_neg h2]
        · rw [if_neg (by omega), if_neg h1]
      · by_cases h1 : at_ % 2 ^ (s + 1) = 0
        · simp only [if_pos h1] at h hg ⊢
          by_cases h2 : at_ + 2 ^ (s + 1) ≤ te
          · simp only [if_pos h2] at h hg ⊢
            exact ih (s + 1) (by omega) hg h
          · simp only [if_neg h2] at h hg ⊢
            exact last s (by omega) h
        · simp only [if_neg h1] at h hg ⊢
          exact last s (by omega) h
theorem gord_le (at_ te : Nat) (f : Nat) : ∀ s, s ≤ 6 → gord f at_ te s ≤ 6 := by
  induction f with
  | zero => intro s h; exact h
  | succ f ih =>
    intro s h
    unfold gord
    split
    · split
      · split
        · exact ih _ (by omega)
        · exact h
      · exact h
    · exact h
theorem refcut_l0 (te : Nat) (hto : te ≤ 256) (d : Nat) : ∀ (at_ : Nat) (acc : List S32), te ≤ at_ + d → acc.length + d < 1000000 →
    Ev (fun k => headgateref08_Cut.l0 k (te : Int) acc (at_ : Int)) (acc ++ (greedy d at_ te).map blk, 0) := by
  induction d with
  | zero =>
    intro at_ acc hd _
    refine Ev.step (f := fun _ => some (acc, 0)) (fun k => ?_) ?_
    · simp only [headgateref08_Cut.l0]
      rw [if_neg (by omega)]
    · simp only [greedy, List.map_nil, List.append_nil]
      exact Ev.now _
  | succ d ih =>
    intro at_ acc hd hacc
    unfold greedy
    by_cases hlt : at_ < te
    · rw [if_pos hlt]
      refine Ev.step (f := fun k => headgateref08_Cut.l1 k (te : Int) acc (at_ : Int) 0) (fun k => ?_) ?_
      · simp only [headgateref08_Cut.l0]
        rw [if_pos (by omega)]
      · refine refcut_l1 te at_ hto hlt acc (by omega) _ 6 0 (by omega) (gord_le _ _ _ _ (by omega)) ?_
        have hp := pow_pos' (gord 6 at_ te 0)
        have := ih (at_ + 2 ^ gord 6 at_ te 0) (acc ++ [blk (at_, gord 6 at_ te 0)]) (by omega) (by simp only [List.length_append, List.length_singleton]; omega)
        rw [List.append_assoc, List.singleton_append] at this
        exact this
    · rw [if_neg hlt]
      refine Ev.step (f := fun _ => some (acc, 0)) (fun k => ?_) ?_
      · simp only [headgateref08_Cut.l0]
        rw [if_neg (by omega)]
      · simp only [List.map_nil, List.append_nil]
        exact Ev.now _
theorem refcut_ok {from_ te : Nat} (h : from_ ≤ te) (hto : te ≤ 256) : Ev (fun k => headgateref08_Cut.f k (from_ : Int) (te : Int)) ((greedy (te - from_) from_ te).map blk, 0) := by
  have h1 := refcut_l0 te hto (te - from_) from_ [] (by omega) (by simp; omega)
  rw [List.nil_append] at h1
  refine Ev.congr (f := fun k => headgateref08_Cut.j0 k (from_ : Int) (te : Int) false) (fun k => ?_) (Ev.step (f := fun k => headgateref08_Cut.l0 k (te : Int) [] (from_ : Int)) (fun k => ?_) h1)
  · unfold headgateref08_Cut.f
    rw [if_neg (by omega), if_neg (by omega), decide_eq_false (by omega)]
  · simp only [headgateref08_Cut.j0]
    rw [if_neg (by decide)]
theorem refcut_err {from_ te : Int} (h : from_ < 0 ∨ te < from_ ∨ 256 < te) : Ev (fun k => headgateref08_Cut.f k from_ te) ([], 2) := by
  refine Ev.congr (f := fun k => headgateref08_Cut.j0 k from_ te true) (fun k => ?_) (Ev.step (f := fun _ => some ([], 2)) (fun k => ?_) (Ev.now _))
  · unfold headgateref08_Cut.f
    by_cases h1 : from_ < 0
    · rw [if_pos h1]
    · rw [if_neg h1]
      by_cases h2 : te < from_
      · rw [if_pos h2]
      · rw [if_neg h2, decide_eq_true (by omega)]
  · simp only [headgateref08_Cut.j0]
    rw [if_pos trivial]
/-! ### equal lists -/
theorem same_l0 (l : List S32) (hl : l.length < 1000000) (d : Nat) : ∀ i : Nat, i + d = l.length → Ev (fun k => headgatelaw08_same.l0 k l l (i : Int)) true := by
  induction d with
  | zero =>
    intro i hi
    refine Ev.step (f := fun _ => some true) (fun k => ?_) (Ev.now _)
    simp only [headgatelaw08_same.l0]
    rw [if_neg (by omega)]
  | succ d ih =>
    intro i hi
    refine Ev.step (f := fun k => headgatelaw08_same.l0 k l l ((i + 1 : Nat) : Int)) (fun k => ?_) (ih (i + 1) (by omega))
    simp only [headgatelaw08_same.l0]
    rw [if_pos (by omega), if_pos (by omega), if_pos (by omega), if_neg (by simp), wsm (by omega) (by omega)]
    rfl
theorem same_refl (l : List S32) (hl : l.length < 1000000) : Ev (fun k => headgatelaw08_same.f k l l) true := by
  refine Ev.congr (f := fun k => headgatelaw08_same.l0 k l l 0) (fun k => ?_) (same_l0 l hl l.length 0 (by omega))
  unfold headgatelaw08_same.f
  rw [if_pos rfl]
theorem greedy_length (f : Nat) : ∀ at_ te, (greedy f at_ te).length ≤ f := by
  induction f with
  | zero => intro at_ te; exact Nat.le_refl _
  | succ f ih =>
    intro at_ te
    unfold greedy
    split
    · have := ih (at_ + 2 ^ gord 6 at_ te 0) te; simp only [List.length_cons]; omega
    · simp
end Go.Proofs.Ytcdeaiiiplkfiaa.X
