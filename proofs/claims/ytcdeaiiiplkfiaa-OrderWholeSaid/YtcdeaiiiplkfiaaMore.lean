/- More of the arithmetic of buddies, without any program: a block pushed in halves or frame by frame is the block pushed; the greedy cut is joined already; how long it is at most. -/
import Derived.Test.YtcdeaiiiplkfiaaMath
namespace OrdMath
theorem push_six {f : Nat} {st : List (Nat × Nat)} {a o : Nat} (h : ¬ o < 6) : push (f + 1) st a o = (a, o) :: st := by
  unfold push
  rw [if_neg h]
theorem push_nil {f a o : Nat} : push (f + 1) [] a o = [(a, o)] := by
  unfold push
  split <;> rfl
theorem push_cons {f : Nat} {t : Nat × Nat} {st : List (Nat × Nat)} {a o : Nat} (h : o < 6) : push (f + 1) (t :: st) a o = if t.1 = a ^^^ 2 ^ o ∧ t.2 = o then push f st (clr a o) (o + 1) else (a, o) :: t :: st := by
  conv => lhs; unfold push
  rw [if_pos h]
theorem push_fuel (f : Nat) : ∀ (st : List (Nat × Nat)) (a o : Nat), 6 ≤ f + o → o ≤ 6 → push (f + 1) st a o = push f st a o := by
  induction f with
  | zero =>
    intro st a o h ho
    obtain rfl : o = 6 := by omega
    rw [push_six (by omega)]
    rfl
  | succ f ih =>
    intro st a o h ho
    by_cases h6 : o < 6
    · cases st with
      | nil => rw [push_nil, push_nil]
      | cons t st => rw [push_cons h6, push_cons h6, ih st (clr a o) (o + 1) (by omega) (by omega)]
    · rw [push_six h6, push_six h6]
theorem clr_le' (a o : Nat) : clr a o ≤ a := Nat.sub_le _ _
theorem push_top (f : Nat) : ∀ (st : List (Nat × Nat)) (a o : Nat), ∃ b q st', push f st a o = (b, q) :: st' ∧ b ≤ a := by
  induction f with
  | zero => intro st a o; exact ⟨a, o, st, rfl, Nat.le_refl _⟩
  | succ f ih =>
    intro st a o
    by_cases h6 : o < 6
    · cases st with
      | nil => exact ⟨a, o, [], push_nil, Nat.le_refl _⟩
      | cons t st =>
        rw [push_cons h6]
        split
        · obtain ⟨b, q, st', h, hle⟩ := ih st (clr a o) (o + 1)
          exact ⟨b, q, st', h, Nat.le_trans hle (clr_le' a o)⟩
        · exact ⟨a, o, t :: st, rfl, Nat.le_refl _⟩
    · exact ⟨a, o, st, push_six h6, Nat.le_refl _⟩
/-- All that is on top lies below a place. -/
def Low (a : Nat) : List (Nat × Nat) → Prop
  | [] => True
  | t :: _ => t.1 < a
theorem push_low {f : Nat} {st : List (Nat × Nat)} {a o b : Nat} (h : a < b) : Low b (push f st a o) := by
  obtain ⟨c, q, st', he, hle⟩ := push_top f st a o
  rw [he]
  exact Nat.lt_of_le_of_lt hle h
theorem half_push {st : List (Nat × Nat)} {a o : Nat} (ho : o < 6) (hm : a % 2 ^ (o + 1) = 0) (he : a + 2 ^ (o + 1) ≤ 256) (hl : Low a st) : push 7 (push 7 st a o) (a + 2 ^ o) o = push 7 st a (o + 1) := by
  have hp := pow_pos' o
  have hs := pow_succ' o
  have hm0 : a % 2 ^ o = 0 := mod_pow_le hm (by omega)
  have hm2 : (a + 2 ^ o) % 2 ^ o = 0 := mod_add_pow hm0
  have hodd : ¬ (a + 2 ^ o) % 2 ^ (o + 1) = 0 := by
    rw [Nat.add_mod, hm, Nat.zero_add, Nat.mod_mod, Nat.mod_eq_of_lt (by omega)]
    omega
  have x1 := xor_at (c := a) (q := o) (by omega) ho hm0
  have x2 := xor_at (c := a + 2 ^ o) (q := o) (by omega) ho hm2
  have c2 := clr_at (c := a + 2 ^ o) (q := o) (by omega) ho hm2
  rw [if_pos hm] at x1
  rw [if_neg hodd, Nat.add_sub_cancel] at x2 c2
  have h1 : push 7 st a o = (a, o) :: st := by
    cases st with
    | nil => exact push_nil
    | cons t st =>
      rw [push_cons ho, if_neg]
      rintro ⟨e1, _⟩
      rw [x1] at e1
      have : t.1 < a := hl
      omega
  rw [h1, push_cons ho, x2, c2, if_pos ⟨rfl, rfl⟩, push_fuel 6 st a (o + 1) (by omega) (by omega)]
theorem pushes_append (l r : List (Nat × Nat)) : ∀ st, pushes st (l ++ r) = pushes (pushes st l) r := by
  induction l with
  | nil => intro st; rfl
  | cons t l ih => intro st; exact ih _
theorem singles_add (m n : Nat) : ∀ a, singles (m + n) a = singles m a ++ singles n (a + m) := by
  induction m with
  | zero => intro a; rw [Nat.zero_add, Nat.add_zero]; rfl
  | succ m ih =>
    intro a
    rw [show m + 1 + n = (m + n) + 1 by omega]
    show (a, 0) :: singles (m + n) (a + 1) = (a, 0) :: singles m (a + 1) ++ singles n (a + (m + 1))
    rw [ih (a + 1), show a + 1 + m = a + (m + 1) by omega]
    rfl
/-- A block pushed frame by frame. -/
theorem push_singles (o : Nat) : ∀ {st : List (Nat × Nat)} {a : Nat}, o ≤ 6 → a % 2 ^ o = 0 → a + 2 ^ o ≤ 256 → Low a st → pushes st (singles (2 ^ o) a) = push 7 st a o := by
  induction o with
  | zero => intro st a _ _ _ _; rfl
  | succ o ih =>
    intro st a ho hm he hl
    have hp := pow_pos' o
    have hs := pow_succ' o
    have hm0 : a % 2 ^ o = 0 := mod_pow_le hm (by omega)
    rw [hs, singles_add, pushes_append, ih (by omega) hm0 (by omega) hl, ih (by omega) (mod_add_pow hm0) (by omega) (push_low (by omega))]
    exact half_push (by omega) hm he hl
theorem can_pushes {n : Nat} (hn : n ≤ 256) {l : List (Nat × Nat)} : ∀ {at_ : Nat} {st : List (Nat × Nat)}, Can n at_ l → Low at_ st → at_ ≤ n ∧ pushes st (singles (n - at_) at_) = pushes st l := by
  induction l with
  | nil =>
    intro at_ st h _
    obtain rfl : at_ = n := h
    exact ⟨Nat.le_refl _, by rw [Nat.sub_self]; rfl⟩
  | cons t l ih =>
    rintro at_ st ⟨h1, h2, h3, h4, h5, h6⟩ hl
    have hp := pow_pos' t.2
    obtain ⟨h7, h8⟩ := ih (st := push 7 st t.1 t.2) h6 (push_low (by omega))
    refine ⟨by omega, ?_⟩
    rw [show n - at_ = 2 ^ t.2 + (n - (at_ + 2 ^ t.2)) by omega, singles_add, pushes_append, push_singles t.2 h2 h3 (by omega) hl]
    rw [h1] at h8
    rw [h8]
    show pushes (push 7 st at_ t.2) l = pushes (push 7 st t.1 t.2) l
    rw [h1]
/-- The greedy cut is joined already. -/
theorem pushes_cut {from_ n : Nat} (h : from_ ≤ n) (hn : n ≤ 256) : pushes [] (greedy (n - from_) from_ n) = (greedy (n - from_) from_ n).reverse := by
  obtain ⟨h1, h2⟩ := pushes_greedy h hn
  obtain ⟨_, h3⟩ := can_pushes hn (st := []) h2 trivial
  rw [← h3, ← h1, List.reverse_reverse]
/-- A list some of whose blocks are given in halves. -/
inductive Parts : List (Nat × Nat) → List (Nat × Nat) → Prop
  | nil : Parts [] []
  | whole {l p : List (Nat × Nat)} (t : Nat × Nat) : Parts l p → Parts (l ++ [t]) (p ++ [t])
  | half {l p : List (Nat × Nat)} (a o : Nat) : Parts l p → Parts (l ++ [(a, o + 1)]) (p ++ [(a, o), (a + 2 ^ o, o)])
theorem Parts.length {l p : List (Nat × Nat)} (h : Parts l p) : p.length ≤ 2 * l.length := by
  induction h with
  | nil => exact Nat.le_refl _
  | whole t _ ih => simp only [List.length_append, List.length_singleton]; omega
  | half a o _ ih => simp only [List.length_append, List.length_cons, List.length_nil]; omega
/-- The greedy cut's blocks up to one of them: what is on top lies below what comes. -/
theorem parts_pushes {n from_ : Nat} (hn : n ≤ 256) {l p : List (Nat × Nat)} (h : Parts l p) : ∀ {r : List (Nat × Nat)}, Can n from_ (l ++ r) → pushes [] p = pushes [] l ∧ (∀ t r', r = t :: r' → Low t.1 (pushes [] l)) := by
  have key : ∀ {l r : List (Nat × Nat)} {t : Nat × Nat}, Can n from_ (l ++ t :: r) → t.2 ≤ 6 ∧ t.1 % 2 ^ t.2 = 0 ∧ t.1 + 2 ^ t.2 ≤ n ∧ (∀ u r', r = u :: r' → t.1 < u.1) := by
    intro l
    induction l generalizing from_ with
    | nil =>
      rintro r t ⟨h1, h2, h3, h4, h5, h6⟩
      refine ⟨h2, by rw [h1]; exact h3, by omega, ?_⟩
      rintro u r' rfl
      have hp := pow_pos' t.2
      have := h6.1
      omega
    | cons v l ih =>
      rintro r t ⟨h1, h2, h3, h4, h5, h6⟩
      exact ih h6
  induction h with
  | nil =>
    intro r _
    exact ⟨rfl, fun t r' _ => trivial⟩
  | whole t hp ih =>
    intro r hc
    rw [List.append_assoc, List.singleton_append] at hc
    obtain ⟨h1, h2⟩ := ih hc
    obtain ⟨k1, k2, k3, k4⟩ := key hc
    rw [pushes_append, pushes_append, h1]
    refine ⟨rfl, fun u r' hr => ?_⟩
    exact push_low (k4 u r' hr)
  | half a o hp ih =>
    intro r hc
    rw [List.append_assoc, List.singleton_append] at hc
    obtain ⟨h1, h2⟩ := ih hc
    obtain ⟨k1, k2, k3, k4⟩ := key hc
    dsimp only at k1 k2 k3 k4
    rw [pushes_append, pushes_append, h1]
    refine ⟨?_, fun u r' hr => push_low (k4 u r' hr)⟩
    show push 7 (push 7 _ a o) (a + 2 ^ o) o = push 7 _ a (o + 1)
    exact half_push (by omega) k2 (by omega) (h2 _ _ rfl)
/-! ### how long the greedy cut is -/
theorem can_short {n : Nat} (m : Nat) : ∀ {at_ : Nat} {l : List (Nat × Nat)}, m ≤ 6 → Can n at_ l → at_ % 2 ^ m = 0 → n < at_ + 2 ^ m → l.length ≤ m := by
  induction m with
  | zero =>
    intro at_ l _ h _ hlt
    cases l with
    | nil => exact Nat.le_refl _
    | cons t l =>
      obtain ⟨h1, h2, h3, h4, h5, h6⟩ := h
      have := pow_pos' t.2
      omega
  | succ m ih =>
    intro at_ l hm h h0 hlt
    have hs := pow_succ' m
    have h0' : at_ % 2 ^ m = 0 := mod_pow_le h0 (by omega)
    by_cases hn : n < at_ + 2 ^ m
    · have := ih (by omega) h h0' hn
      omega
    · cases l with
      | nil => exact Nat.zero_le _
      | cons t l =>
        obtain ⟨h1, h2, h3, h4, h5, h6⟩ := h
        have ht : t.2 = m := by
          rcases Nat.lt_trichotomy t.2 m with hl | he | hg
          · have hp1 : 2 ^ (t.2 + 1) ≤ 2 ^ m := Nat.pow_le_pow_right (by omega) hl
            rcases h5 with h5 | h5 | h5
            · omega
            · exact absurd (mod_pow_le h0 (by omega)) h5
            · omega
          · exact he
          · have hp1 : 2 ^ (m + 1) ≤ 2 ^ t.2 := Nat.pow_le_pow_right (by omega) hg
            omega
        rw [ht] at h6
        have := ih (at_ := at_ + 2 ^ m) (by omega) h6 (mod_add_pow h0') (by omega)
        simp only [List.length_cons]
        omega
theorem can_length {n : Nat} {l : List (Nat × Nat)} : ∀ {at_ j : Nat}, j ≤ 6 → at_ % 2 ^ j = 0 → Can n at_ l → l.length ≤ (6 - j) + 6 + (n - at_) / 64 := by
  induction l with
  | nil => intro _ _ _ _ _; exact Nat.zero_le _
  | cons t l ih =>
    rintro at_ j hj h0 ⟨h1, h2, h3, h4, h5, h6⟩
    have hp := pow_pos' t.2
    simp only [List.length_cons]
    by_cases h66 : t.2 = 6
    · rw [h66] at h6 h3 h4
      have := ih (at_ := at_ + 2 ^ 6) (j := 6) (Nat.le_refl _) (mod_add_pow h3) h6
      have h64 : (2 : Nat) ^ 6 = 64 := by decide
      rw [h64] at this h4
      omega
    · rcases h5 with h5 | h5 | h5
      · exact absurd h5 h66
      · have hjt : j ≤ t.2 := by
          rcases Nat.lt_or_ge t.2 j with h | h
          · exact absurd (mod_pow_le h0 (by omega)) h5
          · exact h
        have := ih (at_ := at_ + 2 ^ t.2) (j := t.2 + 1) (by omega) (odd_add h3 h5) h6
        have h7 : (n - (at_ + 2 ^ t.2)) / 64 ≤ (n - at_) / 64 := Nat.div_le_div_right (by omega)
        omega
      · have hs := pow_succ' t.2
        have := can_short t.2 (by omega) h6 (mod_add_pow h3) (by omega)
        omega
end OrdMath
