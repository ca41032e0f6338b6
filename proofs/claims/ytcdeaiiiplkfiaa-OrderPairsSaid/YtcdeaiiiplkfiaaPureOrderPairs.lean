/- OrderPairs, without the machine: for any two numbers, made a block below the greatest order, buddies are buddies of each other, have one parent, and are its frames; the chapter's examples hold. No condition. -/
import Derived.Test.YtcdeaiiiplkfiaaLists
import Derived.Test.YtcdeaiiiplkfiaaXx8
import Derived.Test.YtcdeaiiiplkfiaaXx9
namespace Go.Proofs.Ytcdeaiiiplkfiaa.Pure
open Go.RowKit Go.Proofs.Ytcdeaiiiplkfiaa.X Go.Proofs.YtcdeaiiiplkfiaaW.PrintWords Go.Proofs.YtcdeaiiiplkfiaaW.PrintLast Go.Proofs.YtcdeaiiiplkfiaaW.PrintMore OrdMath
theorem pow_tab : ∀ o : Fin 6, 256 / 2 ^ o.val * 2 ^ o.val = 256 ∧ Int.tdiv 256 ((2 ^ o.val : Nat) : Int) = ((256 / 2 ^ o.val : Nat) : Int) := by decide +kernel
/-- The lower one of two buddies, the higher one, and their parent. -/
theorem low_facts {p o : Nat} (ho : o < 6) (h0 : p % 2 ^ (o + 1) = 0) (he : p + 2 ^ o ≤ 256) : p + 2 ^ (o + 1) ≤ 256 ∧
    Ev (fun k => order_Buddy.f k (p : Int) (o : Int)) (((p + 2 ^ o : Nat) : Int), (o : Int), 0) ∧ Ev (fun k => order_Buddy.f k ((p + 2 ^ o : Nat) : Int) (o : Int)) ((p : Int), (o : Int), 0) ∧
    Ev (fun k => order_Parent.f k (p : Int) (o : Int)) ((p : Int), ((o + 1 : Nat) : Int), 0) ∧ Ev (fun k => order_Parent.f k ((p + 2 ^ o : Nat) : Int) (o : Int)) ((p : Int), ((o + 1 : Nat) : Int), 0) := by
  have hp := pow_pos' o
  have hs := pow_succ' o
  have h256 : ∃ q, 256 = 2 ^ (o + 1) * q := ⟨256 / 2 ^ (o + 1), by
    have : 256 % 2 ^ (o + 1) = 0 := mod_pow_le (show 256 % 2 ^ 8 = 0 by decide) (by omega)
    have := Nat.div_add_mod 256 (2 ^ (o + 1))
    omega⟩
  have hle : p + 2 ^ (o + 1) ≤ 256 := by
    obtain ⟨q, hq⟩ := h256
    have h1 : p = 2 ^ (o + 1) * (p / 2 ^ (o + 1)) := by have := Nat.div_add_mod p (2 ^ (o + 1)); omega
    generalize p / 2 ^ (o + 1) = u at h1
    have : u < q := by
      rcases Nat.lt_or_ge u q with h | h
      · exact h
      · have := Nat.mul_le_mul_left (2 ^ (o + 1)) h; omega
    have := Nat.mul_le_mul_left (2 ^ (o + 1)) (show u + 1 ≤ q by omega)
    rw [Nat.mul_add, Nat.mul_one] at this
    omega
  have hm : p % 2 ^ o = 0 := mod_pow_le h0 (by omega)
  have hm2 : (p + 2 ^ o) % 2 ^ o = 0 := mod_add_pow hm
  have hodd : ¬ (p + 2 ^ o) % 2 ^ (o + 1) = 0 := by
    rw [Nat.add_mod, h0, Nat.zero_add, Nat.mod_mod, Nat.mod_eq_of_lt (by omega)]
    omega
  have x1 := xor_at (c := p) (q := o) (by omega) ho hm
  have x2 := xor_at (c := p + 2 ^ o) (q := o) (by omega) ho hm2
  have c1 := clr_at (c := p) (q := o) (by omega) ho hm
  have c2 := clr_at (c := p + 2 ^ o) (q := o) (by omega) ho hm2
  rw [if_pos h0] at x1 c1
  rw [if_neg hodd, Nat.add_sub_cancel] at x2 c2
  have e1 := Buddy_at (a := p) (by omega) ho hm
  have e2 := Buddy_at (a := p + 2 ^ o) (by omega) ho hm2
  have e3 := Parent_at (a := p) (by omega) ho hm
  have e4 := Parent_at (a := p + 2 ^ o) (by omega) ho hm2
  rw [x1] at e1
  rw [x2] at e2
  rw [c1] at e3
  rw [c2] at e4
  exact ⟨hle, e1, e2, e3, e4⟩
theorem pair_facts {a o : Nat} (ho : o < 6) (hm : a % 2 ^ o = 0) (he : a + 2 ^ o ≤ 256) : ∃ p y : Nat, p % 2 ^ (o + 1) = 0 ∧ p + 2 ^ (o + 1) ≤ 256 ∧
    Ev (fun k => order_Buddy.f k (a : Int) (o : Int)) ((y : Int), (o : Int), 0) ∧ Ev (fun k => order_Buddy.f k (y : Int) (o : Int)) ((a : Int), (o : Int), 0) ∧
    Ev (fun k => order_Parent.f k (a : Int) (o : Int)) ((p : Int), ((o + 1 : Nat) : Int), 0) ∧ Ev (fun k => order_Parent.f k (y : Int) (o : Int)) ((p : Int), ((o + 1 : Nat) : Int), 0) ∧
    (a = p ∧ y = p + 2 ^ o ∧ a < y ∨ a = p + 2 ^ o ∧ y = p ∧ y < a) := by
  have hp := pow_pos' o
  have hs := pow_succ' o
  by_cases h0 : a % 2 ^ (o + 1) = 0
  · obtain ⟨h1, h2, h3, h4, h5⟩ := low_facts ho h0 he
    exact ⟨a, a + 2 ^ o, h0, h1, h2, h3, h4, h5, .inl ⟨rfl, rfl, by omega⟩⟩
  · have hev := odd_add hm h0
    have hge : 2 ^ o ≤ a := by
      rcases Nat.lt_or_ge a (2 ^ o) with h | h
      · rw [Nat.mod_eq_of_lt h] at hm
        rw [hm, Nat.zero_mod] at h0
        exact absurd rfl h0
      · exact h
    have hpe : (a - 2 ^ o) % 2 ^ (o + 1) = 0 := by
      have h1 : a + 2 ^ o = (a - 2 ^ o) + 2 ^ (o + 1) := by omega
      rw [h1, Nat.add_mod_right] at hev
      exact hev
    obtain ⟨h1, h2, h3, h4, h5⟩ := low_facts ho hpe (by omega)
    have ha : a - 2 ^ o + 2 ^ o = a := by omega
    rw [ha] at h2 h3 h5
    exact ⟨a - 2 ^ o, a - 2 ^ o, hpe, h1, h3, h2, h5, h4, .inr ⟨ha.symm, rfl, by omega⟩⟩
theorem pair_end (p o : Nat) (ho : o < 6) (hp : p % 2 ^ (o + 1) = 0) (hle : p + 2 ^ (o + 1) ≤ 256) : Ev (fun k => headgatelaw08_OrderPairs.j1 k (p : Int) ((o + 1 : Nat) : Int) (p : Int) (o : Int) ((p + 2 ^ o : Nat) : Int) (o : Int)) true := by
  have h1 := pow_pos' o
  have hs := pow_succ' o
  have hm : p % 2 ^ o = 0 := mod_pow_le hp (by omega)
  have f1 := frames_ok [(p, o), (p + 2 ^ o, o)] (by simp) ⟨by dsimp only; omega, by dsimp only; omega, by dsimp only; omega, hm, by dsimp only; omega, by dsimp only; omega, by dsimp only; omega, mod_add_pow hm, trivial⟩
  have f2 := frames_ok [(p, o + 1)] (by simp) ⟨by dsimp only; omega, by dsimp only; omega, by dsimp only; omega, hp, trivial⟩
  have e1 : framesL ([(p, o), (p + 2 ^ o, o)].map blk) = span_ p (2 ^ (o + 1)) := by
    rw [framesL_cons, framesL_cons, hs, span_add]
    simp [framesL]
  have e2 : framesL ([(p, o + 1)].map blk) = span_ p (2 ^ (o + 1)) := by
    rw [framesL_cons]
    simp [framesL]
  rw [e1] at f1
  rw [e2] at f2
  refine Ev.step (f := fun k => (order_Frames.f k ([(p, o), (p + 2 ^ o, o)].map blk)).bind fun s => (order_Frames.f k ([(p, o + 1)].map blk)).bind fun t => if s.2 = 0 then (if t.2 = 0 then ((headgatekit_SameInts.f k s.1 t.1).bind fun u => if u = true then ((headgatelaw08_awake.f k).bind fun v => some v) else some false) else some false) else some false) (fun k => ?_) (Ev.bind f1 (Ev.bind f2 ?_))
  · simp only [headgatelaw08_OrderPairs.j1]
    rfl
  · simp only [if_true]
    refine Ev.bind (same_ints _ (by have := pow_le_64 (o := o + 1) (by omega); simp only [span_, List.length_map, List.length_range]; omega)) ?_
    simp only [if_true]
    exact Ev.bind awake_ev (Ev.now _)
theorem OrderPairs : headgatelaw08_OrderPairs.Pure := by
  intro a0 a1 _ _
  have g0 := Int.emod_nonneg a1 (show (6 : Int) ≠ 0 by omega)
  have g1 := Int.emod_lt_of_pos a1 (show (0 : Int) < 6 by omega)
  obtain ⟨o, ho⟩ := Int.eq_ofNat_of_zero_le g0
  have ho6 : o < 6 := by omega
  obtain ⟨t1, t3⟩ := pow_tab ⟨o, ho6⟩
  dsimp only at t1 t3
  have hp1 := pow_pos' o
  have hs := pow_succ' o
  have hp2 : 2 ^ o ≤ 32 := Nat.pow_le_pow_right (n := 2) (by omega) (show o ≤ 5 by omega)
  generalize hq : 256 / 2 ^ o = q at t1 t3
  have hq2 : q ≤ 256 := by rw [← hq]; exact Nat.div_le_self _ _
  have hq0 : q ≠ 0 := by
    intro h
    rw [h, Nat.zero_mul] at t1
    omega
  have g2 := Int.emod_nonneg a0 (show (q : Int) ≠ 0 by omega)
  have g3 := Int.emod_lt_of_pos a0 (show (0 : Int) < (q : Int) by omega)
  obtain ⟨j, hj⟩ := Int.eq_ofNat_of_zero_le g2
  have hat : j * 2 ^ o + 2 ^ o ≤ 256 := by
    have := Nat.mul_le_mul_right (2 ^ o) (show j + 1 ≤ q by omega)
    rw [Nat.add_mul, Nat.one_mul] at this
    omega
  have hm : j * 2 ^ o % 2 ^ o = 0 := Nat.mul_mod_left _ _
  have hmul : wrap64 ((j : Int) * ((2 ^ o : Nat) : Int)) = ((j * 2 ^ o : Nat) : Int) := by
    rw [wsm (by rw [← Int.natCast_mul]; omega) (by rw [← Int.natCast_mul]; omega), Int.natCast_mul]
  generalize j * 2 ^ o = a at hat hm hmul
  obtain ⟨p, y, f1, f2, b1, b2, b3, b4, f6⟩ := pair_facts (a := a) ho6 hm hat
  refine Ev.rounds (g := fun k => headgatelaw08_OrderPairs.f k a0 a1) ?_
  unfold headgatelaw08_OrderPairs.f headgatelaw08_b.f
  rw [mod_at _ _ (by omega) (by omega), ho]
  simp only [Option.bind_some]
  rw [u64_small (x := (o : Int)) (by omega) (by omega), shl_u (by omega)]
  have c1 : ¬ (((2 ^ o : Nat) : Int) = 0) := by omega
  have c2 : (0 : Int) ≤ (o : Int) := by omega
  simp only [c1, c2, if_true, if_false]
  rw [t3, wsm (x := ((q : Nat) : Int)) (by omega) (by omega), mod_at _ _ (by omega) (by omega), hj]
  simp only [Option.bind_some]
  rw [hmul]
  refine Ev.bind b1 ?_
  dsimp only
  refine Ev.bind b2 ?_
  dsimp only
  refine Ev.bind b3 ?_
  dsimp only
  refine Ev.bind b4 ?_
  dsimp only
  have w1 : wrap64 ((o : Int) + 1) = ((o + 1 : Nat) : Int) := by rw [wsm (by omega) (by omega)]; rfl
  have e1 : ((y : Int) == (a : Int)) = false := beq_eq_false_iff_ne.mpr (fun h => by
    have h' := Int.ofNat.inj h
    rcases f6 with ⟨_, _, h2⟩ | ⟨_, _, h2⟩
    · exact Nat.lt_irrefl _ (h' ▸ h2)
    · exact Nat.lt_irrefl _ (h' ▸ h2))
  simp only [if_true, beq_self_eq_true, Bool.not_true, Bool.or_false, if_false, w1, e1, Bool.false_and, Bool.false_eq_true]
  refine Ev.step (f := fun k => headgatelaw08_OrderPairs.j1 k (p : Int) ((o + 1 : Nat) : Int) (p : Int) (o : Int) ((p + 2 ^ o : Nat) : Int) (o : Int)) (fun k => ?_) (pair_end p o ho6 f1 f2)
  simp only [headgatelaw08_OrderPairs.j0]
  rw [if_neg (by decide)]
  rcases f6 with ⟨h1, h2, h3⟩ | ⟨h1, h2, h3⟩
  · rw [if_neg (show ¬ ((y : Int) < (a : Int)) from fun h => by have := Int.ofNat_lt.1 h; exact Nat.lt_asymm h3 this), h1, h2]
  · rw [if_pos (Int.ofNat_lt.2 h3), h1, h2]
end Go.Proofs.Ytcdeaiiiplkfiaa.Pure
