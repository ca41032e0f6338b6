/- The arithmetic of buddies, without any program: what pushing frames one by one with joins comes to (the greedy cut), and how long that is. -/
namespace OrdMath

/-- An order's bit cleared. -/
def clr (a o : Nat) : Nat := a - (a / 2 ^ o % 2) * 2 ^ o
/-- A block pushed onto a stack (its top first), joined as often as its buddy is on top. -/
def push : Nat → List (Nat × Nat) → Nat → Nat → List (Nat × Nat)
  | 0, st, a, o => (a, o) :: st
  | f + 1, st, a, o => if o < 6 then
      (match st with
      | [] => [(a, o)]
      | t :: st' => if t.1 = a ^^^ 2 ^ o ∧ t.2 = o then push f st' (clr a o) (o + 1) else (a, o) :: t :: st')
    else (a, o) :: st
/-- The greatest order of a block at a place that ends in time. -/
def gord : Nat → Nat → Nat → Nat → Nat
  | 0, _, _, o => o
  | f + 1, at_, to, o => if o < 6 then (if at_ % 2 ^ (o + 1) = 0 then (if at_ + 2 ^ (o + 1) ≤ to then gord f at_ to (o + 1) else o) else o) else o
/-- The greedy cut. -/
def greedy : Nat → Nat → Nat → List (Nat × Nat)
  | 0, _, _ => []
  | f + 1, at_, to => if at_ < to then (at_, gord 6 at_ to 0) :: greedy f (at_ + 2 ^ gord 6 at_ to 0) to else []
/-- A list of blocks from a place to another one, each as great as it can be. -/
def Can (n : Nat) : Nat → List (Nat × Nat) → Prop
  | at_, [] => at_ = n
  | at_, t :: l => t.1 = at_ ∧ t.2 ≤ 6 ∧ at_ % 2 ^ t.2 = 0 ∧ at_ + 2 ^ t.2 ≤ n ∧ (t.2 = 6 ∨ at_ % 2 ^ (t.2 + 1) ≠ 0 ∨ n < at_ + 2 ^ (t.2 + 1)) ∧ Can n (at_ + 2 ^ t.2) l
/-- The same of a stack, its top first: from a place up to c; m: what no block's parent ends ahead of. -/
def Rcan (from_ m : Nat) : Nat → List (Nat × Nat) → Prop
  | c, [] => c = from_
  | c, t :: st => t.1 + 2 ^ t.2 = c ∧ t.2 ≤ 6 ∧ t.1 % 2 ^ t.2 = 0 ∧ (t.2 = 6 ∨ t.1 % 2 ^ (t.2 + 1) ≠ 0 ∨ m ≤ t.1 + 2 ^ (t.2 + 1)) ∧ Rcan from_ m t.1 st

theorem pow_pos' (o : Nat) : 1 ≤ 2 ^ o := Nat.one_le_two_pow
theorem pow_inj' {a b : Nat} (h : (2 : Nat) ^ a = 2 ^ b) : a = b := by
  rcases Nat.lt_trichotomy a b with h1 | h1 | h1
  · have := Nat.pow_lt_pow_right (a := 2) (by omega) h1; omega
  · exact h1
  · have := Nat.pow_lt_pow_right (a := 2) (by omega) h1; omega
theorem pow_succ' (o : Nat) : 2 ^ (o + 1) = 2 ^ o + 2 ^ o := by rw [Nat.pow_succ]; omega
theorem mod_pow_le {a i j : Nat} (h : a % 2 ^ j = 0) (hij : i ≤ j) : a % 2 ^ i = 0 :=
  Nat.mod_eq_zero_of_dvd (Nat.dvd_trans (Nat.pow_dvd_pow 2 hij) (Nat.dvd_of_mod_eq_zero h))
theorem mod_add_pow {a i : Nat} (h : a % 2 ^ i = 0) : (a + 2 ^ i) % 2 ^ i = 0 := by rw [Nat.add_mod_right]; exact h
theorem odd_add {a i : Nat} (h : a % 2 ^ i = 0) (h2 : a % 2 ^ (i + 1) ≠ 0) : (a + 2 ^ i) % 2 ^ (i + 1) = 0 := by
  have hp := pow_pos' i
  have h1 : a = 2 ^ i * (a / 2 ^ i) := by have := Nat.div_add_mod a (2 ^ i); omega
  have h3 : a / 2 ^ i % 2 = 1 := by
    rcases Nat.mod_two_eq_zero_or_one (a / 2 ^ i) with h4 | h4
    · exfalso
      apply h2
      rw [h1, Nat.pow_succ, Nat.mul_mod_mul_left, h4, Nat.mul_zero]
    · exact h4
  rw [show a + 2 ^ i = 2 ^ i * (a / 2 ^ i + 1) by rw [Nat.mul_add, ← h1, Nat.mul_one], Nat.pow_succ, Nat.mul_mod_mul_left]
  rw [show (a / 2 ^ i + 1) % 2 = 0 by omega, Nat.mul_zero]

/-! ### the xor and the cleared bit, at the few places that there are -/
theorem xor_tab : ∀ c : Fin 257, ∀ q : Fin 6, c.val % 2 ^ q.val = 0 → c.val ^^^ 2 ^ q.val = if c.val % 2 ^ (q.val + 1) = 0 then c.val + 2 ^ q.val else c.val - 2 ^ q.val := by decide +kernel
theorem clr_tab : ∀ c : Fin 257, ∀ q : Fin 6, c.val % 2 ^ q.val = 0 → clr c.val q.val = if c.val % 2 ^ (q.val + 1) = 0 then c.val else c.val - 2 ^ q.val := by decide +kernel
theorem xor_at {c q : Nat} (hc : c ≤ 256) (hq : q < 6) (h : c % 2 ^ q = 0) : c ^^^ 2 ^ q = if c % 2 ^ (q + 1) = 0 then c + 2 ^ q else c - 2 ^ q := xor_tab ⟨c, by omega⟩ ⟨q, hq⟩ h
theorem clr_at {c q : Nat} (hc : c ≤ 256) (hq : q < 6) (h : c % 2 ^ q = 0) : clr c q = if c % 2 ^ (q + 1) = 0 then c else c - 2 ^ q := clr_tab ⟨c, by omega⟩ ⟨q, hq⟩ h

/-! ### stacks -/
theorem Rcan.le {from_ m c : Nat} : ∀ {st : List (Nat × Nat)}, Rcan from_ m c st → from_ ≤ c := by
  intro st
  induction st generalizing c with
  | nil => intro h; exact Nat.le_of_eq h.symm
  | cons t st ih => rintro ⟨h1, _, _, _, h5⟩; have := ih h5; omega
def crit (m : Nat) (t : Nat × Nat) : Prop := t.2 < 6 ∧ t.1 % 2 ^ (t.2 + 1) = 0 ∧ t.1 + 2 ^ (t.2 + 1) = m
theorem crit_top {from_ m c : Nat} {st : List (Nat × Nat)} (h : Rcan from_ m c st) (hc : c < m) (t : Nat × Nat) (ht : t ∈ st) (hcr : crit m t) : ∃ t' st', st = t' :: st' ∧ crit m t' := by
  induction st generalizing c with
  | nil => cases ht
  | cons u st ih =>
    obtain ⟨h1, h2, h3, h4, h5⟩ := h
    rcases List.mem_cons.1 ht with rfl | hin
    · exact ⟨_, _, rfl, hcr⟩
    · have hp := pow_pos' u.2
      obtain ⟨v, st', rfl, hv⟩ := ih h5 (by omega) hin
      refine ⟨u, v :: st', rfl, ?_⟩
      obtain ⟨k1, k2, k3, k4, _⟩ := h5
      obtain ⟨c1, c2, c3⟩ := hv
      have hs := pow_succ' v.2
      have hlt : u.2 < v.2 := by
        rcases Nat.lt_or_ge u.2 v.2 with hlt | hge
        · exact hlt
        · have := Nat.pow_le_pow_right (n := 2) (by omega) hge
          omega
      have hmod : u.1 % 2 ^ v.2 = 0 := by rw [← k1]; exact mod_add_pow k3
      have hmod1 : u.1 % 2 ^ (u.2 + 1) = 0 := mod_pow_le hmod hlt
      rcases h4 with h4 | h4 | h4
      · omega
      · exact absurd hmod1 h4
      · have : 2 ^ (u.2 + 1) ≤ 2 ^ v.2 := Nat.pow_le_pow_right (by omega) hlt
        exact ⟨by omega, hmod1, by omega⟩
theorem Rcan.tighten {from_ m c : Nat} {st : List (Nat × Nat)} (h : Rcan from_ m c st) (hn : ∀ t ∈ st, ¬ crit m t) : Rcan from_ (m + 1) c st := by
  induction st generalizing c with
  | nil => exact h
  | cons u st ih =>
    obtain ⟨h1, h2, h3, h4, h5⟩ := h
    refine ⟨h1, h2, h3, ?_, ih h5 (fun t ht => hn t (List.mem_cons_of_mem _ ht))⟩
    rcases h4 with h4 | h4 | h4
    · exact .inl h4
    · exact .inr (.inl h4)
    · have := hn u (List.mem_cons_self ..)
      by_cases h6 : u.2 = 6
      · exact .inl h6
      · by_cases hm : u.1 % 2 ^ (u.2 + 1) = 0
        · refine .inr (.inr ?_)
          have : ¬ (u.1 + 2 ^ (u.2 + 1) = m) := fun e => this ⟨by omega, hm, e⟩
          omega
        · exact .inr (.inl hm)
theorem push_can (f : Nat) : ∀ (from_ c q : Nat) (st : List (Nat × Nat)), 6 ≤ f + q → q ≤ 6 → c + 2 ^ q ≤ 256 → c % 2 ^ q = 0 → Rcan from_ (c + 2 ^ q) c st → Rcan from_ (c + 2 ^ q + 1) (c + 2 ^ q) (push f st c q) := by
  induction f with
  | zero =>
    intro from_ c q st hf hq hc hm h
    obtain rfl : q = 6 := by omega
    refine ⟨rfl, Nat.le_refl _, hm, .inl rfl, h.tighten ?_⟩
    intro t ht hcr
    obtain ⟨t', st', rfl, h1, h2, h3⟩ := crit_top h (by omega) t ht hcr
    obtain ⟨k1, _⟩ := h
    have hs := pow_succ' t'.2
    have : (2 : Nat) ^ t'.2 = 2 ^ 6 := by omega
    have := pow_inj' this
    omega
  | succ f ih =>
    intro from_ c q st hf hq hc hm h
    have hp := pow_pos' q
    have hs := pow_succ' q
    have hnew : (∀ t ∈ st, ¬ crit (c + 2 ^ q) t) → Rcan from_ (c + 2 ^ q + 1) (c + 2 ^ q) ((c, q) :: st) := fun hn => ⟨rfl, hq, hm, .inr (.inr (by show _ ≤ c + 2 ^ (q + 1); omega)), h.tighten hn⟩
    unfold push
    by_cases hq6 : q < 6
    · rw [if_pos hq6]
      cases st with
      | nil => exact hnew (by simp)
      | cons t st' =>
        have hx := xor_at (c := c) (q := q) (by omega) hq6 hm
        dsimp only
        by_cases hb : t.1 = c ^^^ 2 ^ q ∧ t.2 = q
        · rw [if_pos hb]
          obtain ⟨k1, k2, k3, k4, k5⟩ := h
          obtain ⟨b1, b2⟩ := hb
          rw [hx] at b1
          rw [b2] at k1
          have hne : ¬ c % 2 ^ (q + 1) = 0 := by
            intro h0
            rw [if_pos h0] at b1
            omega
          rw [if_neg hne] at b1
          have hcl : clr c q = t.1 := by rw [clr_at (by omega) hq6 hm, if_neg hne]; omega
          have hte : t.1 % 2 ^ (q + 1) = 0 := by
            by_cases h0 : t.1 % 2 ^ (q + 1) = 0
            · exact h0
            · exfalso
              apply hne
              rw [← k1]
              rw [b2] at k3
              exact odd_add k3 h0
          have he : t.1 + 2 ^ (q + 1) = c + 2 ^ q := by omega
          have := ih from_ t.1 (q + 1) st' (by omega) (by omega) (by omega) hte (by rw [he]; exact k5)
          rw [he] at this
          rw [hcl]
          exact this
        · rw [if_neg hb]
          refine hnew ?_
          intro u hu hcr
          obtain ⟨t', st'', he, h1, h2, h3⟩ := crit_top h (by omega) u hu hcr
          obtain ⟨rfl, rfl⟩ := List.cons.inj he
          obtain ⟨k1, k2, k3, k4, k5⟩ := h
          have hs' := pow_succ' t.2
          have hpe : (2 : Nat) ^ t.2 = 2 ^ q := by omega
          have heq : t.2 = q := pow_inj' hpe
          apply hb
          refine ⟨?_, heq⟩
          rw [hx]
          rw [heq] at k1 h2 k3
          have hne : ¬ c % 2 ^ (q + 1) = 0 := by
            intro h0
            rw [← k1] at h0
            have h5 : (t.1 + 2 ^ q) % 2 ^ (q + 1) = 2 ^ q := by
              rw [Nat.add_mod, h2, Nat.zero_add, Nat.mod_mod, Nat.mod_eq_of_lt (by omega)]
            omega
          rw [if_neg hne]
          omega
    · rw [if_neg hq6]
      refine hnew ?_
      intro t ht hcr
      obtain ⟨t', st', rfl, h1, h2, h3⟩ := crit_top h (by omega) t ht hcr
      obtain ⟨k1, _⟩ := h
      have hs' := pow_succ' t'.2
      have hpe : (2 : Nat) ^ t'.2 = 2 ^ q := by omega
      have := pow_inj' hpe
      omega
/-- Frames pushed one by one. -/
def pushes : List (Nat × Nat) → List (Nat × Nat) → List (Nat × Nat)
  | st, [] => st
  | st, t :: l => pushes (push 7 st t.1 t.2) l
def singles : Nat → Nat → List (Nat × Nat)
  | 0, _ => []
  | d + 1, n => (n, 0) :: singles d (n + 1)
theorem pushes_can (d : Nat) : ∀ (from_ n : Nat) (st : List (Nat × Nat)), n + d ≤ 256 → Rcan from_ (n + 1) n st → Rcan from_ (n + d + 1) (n + d) (pushes st (singles d n)) := by
  induction d with
  | zero => intro from_ n st _ h; exact h
  | succ d ih =>
    intro from_ n st hn h
    have := push_can 7 from_ n 0 st (by omega) (by omega) (by simp; omega) (Nat.mod_one _) h
    have h2 := ih from_ (n + 1) (push 7 st n 0) (by omega) this
    rw [show n + 1 + d = n + (d + 1) by omega] at h2
    exact h2
theorem Can.append {n from_ : Nat} : ∀ {st r : List (Nat × Nat)} {c : Nat}, Rcan from_ (n + 1) c st → c ≤ n → Can n c r → Can n from_ (st.reverse ++ r) := by
  intro st
  induction st with
  | nil => intro r c hr _ h; obtain rfl : c = from_ := hr; exact h
  | cons t st ih =>
    intro r c hr hle h
    obtain ⟨h1, h2, h3, h4, h5⟩ := hr
    have hp := pow_pos' t.2
    rw [List.reverse_cons, List.append_assoc, List.singleton_append]
    refine ih (c := t.1) h5 (by omega) ⟨rfl, h2, h3, by omega, ?_, by rw [h1]; exact h⟩
    rcases h4 with h4 | h4 | h4
    · exact .inl h4
    · exact .inr (.inl h4)
    · exact .inr (.inr (by omega))
theorem can_of_rcan {from_ n : Nat} {st : List (Nat × Nat)} (h : Rcan from_ (n + 1) n st) : Can n from_ st.reverse := by
  have := Can.append (n := n) (r := []) h (Nat.le_refl _) rfl
  rwa [List.append_nil] at this
theorem gord_at {at_ n o : Nat} (ho : o ≤ 6) (hm : at_ % 2 ^ o = 0) (hn : at_ + 2 ^ o ≤ n) (hx : o = 6 ∨ at_ % 2 ^ (o + 1) ≠ 0 ∨ n < at_ + 2 ^ (o + 1)) : ∀ (d f s : Nat), s + d = o → d ≤ f → f + s = 6 → gord f at_ n s = o := by
  intro d
  induction d with
  | zero =>
    intro f s hs _ hf
    obtain rfl : s = o := by omega
    cases f with
    | zero => rfl
    | succ f =>
      unfold gord
      rw [if_pos (by omega)]
      rcases hx with hx | hx | hx
      · omega
      · rw [if_neg hx]
      · by_cases h0 : at_ % 2 ^ (s + 1) = 0
        · rw [if_pos h0, if_neg (by omega)]
        · rw [if_neg h0]
  | succ d ih =>
    intro f s hs hd hf
    obtain ⟨f, rfl⟩ : ∃ g, f = g + 1 := ⟨f - 1, by omega⟩
    unfold gord
    have h1 : 2 ^ (s + 1) ≤ 2 ^ o := Nat.pow_le_pow_right (by omega) (by omega)
    rw [if_pos (by omega), if_pos (mod_pow_le hm (by omega)), if_pos (by omega)]
    exact ih f (s + 1) (by omega) (by omega) (by omega)
theorem can_greedy {n : Nat} : ∀ {l : List (Nat × Nat)} {at_ f : Nat}, Can n at_ l → n ≤ at_ + f → l = greedy f at_ n := by
  intro l
  induction l with
  | nil =>
    intro at_ f h hf
    obtain rfl : at_ = n := h
    cases f with
    | zero => rfl
    | succ f => unfold greedy; rw [if_neg (by omega)]
  | cons t l ih =>
    intro at_ f h hf
    obtain ⟨h1, h2, h3, h4, h5, h6⟩ := h
    have hp := pow_pos' t.2
    obtain ⟨f, rfl⟩ : ∃ g, f = g + 1 := ⟨f - 1, by omega⟩
    unfold greedy
    have hg := gord_at h2 h3 h4 h5 t.2 6 0 (by omega) (by omega) (by omega)
    rw [if_pos (by omega), hg, ← ih h6 (by omega)]
    obtain ⟨a, o⟩ := t
    dsimp only at h1
    rw [h1]
/-- Frames one by one, joined: the greedy cut. -/
theorem pushes_greedy {from_ n : Nat} (h : from_ ≤ n) (hn : n ≤ 256) : (pushes [] (singles (n - from_) from_)).reverse = greedy (n - from_) from_ n ∧ Can n from_ (greedy (n - from_) from_ n) := by
  have h1 := pushes_can (n - from_) from_ from_ [] (by omega) rfl
  rw [show from_ + (n - from_) = n by omega] at h1
  have h2 := can_of_rcan h1
  have h3 := can_greedy (f := n - from_) h2 (by omega)
  exact ⟨h3, by rw [← h3]; exact h2⟩
end OrdMath
