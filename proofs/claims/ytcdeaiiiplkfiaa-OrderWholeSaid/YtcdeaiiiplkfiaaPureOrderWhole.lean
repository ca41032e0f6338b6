/- OrderWhole, without the machine: for any two numbers, made places from 0 to 256, and any numbers, Cut has exactly its frames and is not longer than said; it is joined, and is what Join makes of it however some of its blocks are halved; the chapter's examples hold. No condition. -/
import Derived.Test.YtcdeaiiiplkfiaaLists
import Derived.Test.YtcdeaiiiplkfiaaMore
import Derived.Test.YtcdeaiiiplkfiaaXx10
namespace Go.Proofs.Ytcdeaiiiplkfiaa.Pure
open Go.RowKit Go.Proofs.Ytcdeaiiiplkfiaa.X Go.Proofs.YtcdeaiiiplkfiaaW.PrintWords Go.Proofs.YtcdeaiiiplkfiaaW.PrintLast Go.Proofs.YtcdeaiiiplkfiaaW.PrintMore OrdMath
theorem at_some (l : List Int) (i : Int) (_ : 0 ≤ i) : ∃ v, headgatekit_At.f l i = some v := by
  unfold headgatekit_At.f
  rw [if_neg (by omega)]
  by_cases h : i ≥ (l.length : Int)
  · rw [if_pos h]
    exact ⟨_, rfl⟩
  · rw [if_neg h, if_pos (by omega), if_pos (by omega)]
    exact ⟨_, rfl⟩
theorem parts_asc {l p : List (Nat × Nat)} (h : Parts l p) : ∀ {next : Nat}, (∀ r, Asc next (l ++ r) → Asc next (p ++ r)) := by
  induction h with
  | nil => intro next r h; exact h
  | whole t _ ih =>
    intro next r h
    rw [List.append_assoc] at h ⊢
    exact ih _ h
  | half a o _ ih =>
    intro next r h
    rw [List.append_assoc, List.singleton_append] at h
    have h2 := ih ((a, o + 1) :: r) h
    rw [List.append_assoc]
    have key : ∀ (q : List (Nat × Nat)) (m : Nat), Asc m (q ++ (a, o + 1) :: r) → Asc m (q ++ ((a, o) :: (a + 2 ^ o, o) :: r)) := by
      intro q
      induction q with
      | nil =>
        rintro m ⟨h1, h2, h3, h4, h5⟩
        have hp := pow_pos' o
        have hs := pow_succ' o
        dsimp only at h1 h2 h3 h4 h5
        have hm := mod_pow_le h4 (show o ≤ o + 1 by omega)
        have hle : a + 2 ^ (o + 1) ≤ 256 := by
          have h256 : 256 = 2 ^ (o + 1) * (256 / 2 ^ (o + 1)) := by
            have : 256 % 2 ^ (o + 1) = 0 := mod_pow_le (show 256 % 2 ^ 8 = 0 by decide) (by omega)
            have := Nat.div_add_mod 256 (2 ^ (o + 1))
            omega
          have h1 : a = 2 ^ (o + 1) * (a / 2 ^ (o + 1)) := by have := Nat.div_add_mod a (2 ^ (o + 1)); omega
          generalize a / 2 ^ (o + 1) = u at h1
          generalize 256 / 2 ^ (o + 1) = q at h256
          have : u < q := by
            rcases Nat.lt_or_ge u q with h | h
            · exact h
            · have := Nat.mul_le_mul_left (2 ^ (o + 1)) h; omega
          have := Nat.mul_le_mul_left (2 ^ (o + 1)) (show u + 1 ≤ q by omega)
          rw [Nat.mul_add, Nat.mul_one] at this
          omega
        refine ⟨h1, h2, by dsimp only; omega, hm, Nat.le_refl _, by dsimp only; omega, by dsimp only; omega, mod_add_pow hm, ?_⟩
        rw [hs] at h5
        rw [Nat.add_assoc]
        exact h5
      | cons v q ihq =>
        rintro m ⟨h1, h2, h3, h4, h5⟩
        exact ⟨h1, h2, h3, h4, ihq _ h5⟩
    exact key _ _ h2
theorem whole_end (nums : List Int) (L P : List (Nat × Nat)) (hL : L.length < 1000) (hP : P.length ≤ 2 * L.length) (h1 : Asc 0 L) (h2 : Asc 0 P) (e1 : pushes [] L = L.reverse) (e2 : pushes [] P = L.reverse) (i : Int) (hi : ¬ i < ((L.map blk).length : Int)) :
    Ev (fun k => headgatelaw08_OrderWhole.l1 k nums (L.map blk) (P.map blk) i) true := by
  have j1 := join_ok P (by omega) h2
  have j2 := join_ok L (by omega) h1
  have s1 : stk L.reverse = L.map blk := by simp [stk]
  rw [e2, s1] at j1
  rw [e1, s1] at j2
  have hs := same_refl (L.map blk) (by rw [List.length_map]; omega)
  refine Ev.step (f := fun k => (order_Join.f k (P.map blk)).bind fun s => (order_Join.f k (L.map blk)).bind fun t => if s.2 = 0 then (if t.2 = 0 then ((headgatelaw08_same.f k s.1 (L.map blk)).bind fun u => if u = true then ((headgatelaw08_same.f k t.1 (L.map blk)).bind fun v => if v = true then ((headgatelaw08_awake.f k).bind fun w => some w) else some false) else some false) else some false) else some false) (fun k => ?_) ?_
  · simp only [headgatelaw08_OrderWhole.l1]
    rw [if_neg hi]
  · refine Ev.bind j1 ?_
    dsimp only
    refine Ev.bind j2 ?_
    simp only [if_true]
    refine Ev.bind hs ?_
    simp only [if_true]
    refine Ev.bind hs ?_
    simp only [if_true]
    exact Ev.bind awake_ev (Ev.now _)
theorem whole_l1 (nums : List Int) {n from_ : Nat} (hn : n ≤ 256) (L : List (Nat × Nat)) (hL : L.length < 1000) (hc : OrdMath.Can n from_ L) (h1 : Asc 0 L) (e1 : pushes [] L = L.reverse) (d : Nat) : ∀ (i : Nat) (P : List (Nat × Nat)), i + d = L.length → Parts (L.take i) P →
    Ev (fun k => headgatelaw08_OrderWhole.l1 k nums (L.map blk) (P.map blk) (i : Int)) true := by
  induction d with
  | zero =>
    intro i P hi hp
    rw [List.take_of_length_le (by omega)] at hp
    refine whole_end nums L P hL hp.length h1 ?_ e1 ?_ _ (by rw [List.length_map]; omega)
    · have := parts_asc hp (next := 0) [] (by rw [List.append_nil]; exact h1)
      rwa [List.append_nil] at this
    · rw [← e1]
      exact (parts_pushes hn hp (r := []) (by rw [List.append_nil]; exact hc)).1
  | succ d ih =>
    intro i P hi hp
    have hlt : i < L.length := by omega
    have hts : L.take (i + 1) = L.take i ++ [L[i]] := List.take_succ_eq_append_getElem hlt
    have hr : rd_T32 (L.map blk) (i : Int) = blk L[i] := by
      simp [rd_T32, List.getD_eq_getElem?_getD, List.getElem?_eq_getElem hlt]
    obtain ⟨v, hv⟩ := at_some nums (i : Int) (by omega)
    have hpl : P.length < 3000 := by
      have := hp.length
      have h5 : (L.take i).length ≤ L.length := by rw [List.length_take]; omega
      omega
    have hall := Asc.all h1 L[i] (List.getElem_mem hlt)
    have hwi : wrap64 ((i : Int) + 1) = ((i + 1 : Nat) : Int) := by rw [wsm (by omega) (by omega)]; rfl
    have keep := ih (i + 1) (P ++ [L[i]]) (by omega) (by rw [hts]; exact .whole _ hp)
    have halves : ∀ o, L[i].2 = o + 1 → Ev (fun k => headgatelaw08_OrderWhole.l1 k nums (L.map blk) ((P ++ [(L[i].1, o), (L[i].1 + 2 ^ o, o)]).map blk) ((i + 1 : Nat) : Int)) true := by
      intro o ho
      refine ih (i + 1) _ (by omega) ?_
      have hb : L[i] = (L[i].1, o + 1) := by rw [← ho]
      have := Parts.half L[i].1 o hp
      rw [← hb, ← hts] at this
      exact this
    generalize L[i] = t at hr hall keep halves
    obtain ⟨a, o⟩ := t
    obtain ⟨ha, ho⟩ := hall
    dsimp only at ha ho keep halves
    refine Ev.step (f := fun k => if v % 3 = 0 ∨ o = 0 then headgatelaw08_OrderWhole.l1 k nums (L.map blk) ((P ++ [(a, o)]).map blk) ((i + 1 : Nat) : Int) else headgatelaw08_OrderWhole.l1 k nums (L.map blk) ((P ++ [(a, o - 1), (a + 2 ^ (o - 1), o - 1)]).map blk) ((i + 1 : Nat) : Int)) (fun k => ?_) ?_
    · simp only [headgatelaw08_OrderWhole.l1]
      rw [if_pos (by rw [List.length_map]; omega), hv]
      simp only [Option.bind_some]
      rw [mod_at _ _ (by omega) (by omega)]
      simp only [Option.bind_some]
      rw [if_pos (by omega), hr]
      have hlen : (P.map blk).length < 8796093022208 := by rw [List.length_map]; omega
      simp only [headgatelaw08_b.f, Option.bind_some, hlen, if_true, blk, hwi]
      have e0 : (List.map blk P ++ [(⟨(a : Int), (o : Int)⟩ : S32)]) = (P ++ [(a, o)]).map blk := by simp [blk]
      by_cases hv3 : v % 3 = 0
      · rw [if_pos hv3, if_pos (.inl hv3), e0]
      · rw [if_neg hv3]
        by_cases ho0 : o = 0
        · rw [if_pos (by omega), if_pos (.inr ho0), e0]
        · obtain ⟨q, rfl⟩ : ∃ q, o = q + 1 := ⟨o - 1, by omega⟩
          have hq : wrap64 (((q + 1 : Nat) : Int) - 1) = (q : Int) := by rw [wsm (by omega) (by omega)]; omega
          have hp2 : 2 ^ q ≤ 32 := Nat.pow_le_pow_right (n := 2) (by omega) (show q ≤ 5 by omega)
          have hsum : wrap64 ((a : Int) + ((2 ^ q : Nat) : Int)) = ((a + 2 ^ q : Nat) : Int) := by
            generalize 2 ^ q = m at hp2
            rw [wsm (by omega) (by omega)]
            omega
          rw [if_neg (by omega), if_neg (by omega), hq, u64_small (by omega) (by omega), if_pos (by omega), shl_u (by omega), hsum, if_pos (by rw [List.length_map]; simp only [List.length_cons, List.length_nil]; omega), if_neg (by omega)]
          have e2 : (List.map blk P ++ [(⟨(a : Int), (q : Int)⟩ : S32), ⟨((a + 2 ^ q : Nat) : Int), (q : Int)⟩]) = (P ++ [(a, q), (a + 2 ^ q, q)]).map blk := by simp [blk]
          rw [e2, Nat.add_sub_cancel]
    · by_cases hc2 : v % 3 = 0 ∨ o = 0
      · simp only [if_pos hc2]
        exact keep
      · simp only [if_neg hc2]
        obtain ⟨q, rfl⟩ : ∃ q, o = q + 1 := ⟨o - 1, by omega⟩
        rw [Nat.add_sub_cancel]
        exact halves q rfl
theorem whole_l0 (nums : List Int) (from_ m : Nat) (hm : from_ + m ≤ 256) (B : List S32) (h : Ev (fun k => headgatelaw08_OrderWhole.l1 k nums B [] 0) true) (d : Nat) : ∀ i : Nat, i + d = m → Ev (fun k => headgatelaw08_OrderWhole.l0 k nums (from_ : Int) B (span_ from_ m) (i : Int)) true := by
  have hlen : (span_ from_ m).length = m := by simp [span_]
  induction d with
  | zero =>
    intro i hi
    refine Ev.step (fun k => ?_) h
    simp only [headgatelaw08_OrderWhole.l0]
    rw [if_neg (by rw [hlen]; omega)]
  | succ d ih =>
    intro i hi
    refine Ev.step (fun k => ?_) (ih (i + 1) (by omega))
    have hr : rd (span_ from_ m) (i : Int) = ((from_ + i : Nat) : Int) := by
      have hi2 : i < m := by omega
      simp [rd, span_, List.getD_eq_getElem?_getD, hi2]
    simp only [headgatelaw08_OrderWhole.l0]
    rw [if_pos (by rw [hlen]; omega), if_pos (by omega), hr, if_pos (by rw [wsm (by omega) (by omega)]; omega), wsm (by omega) (by omega)]
    rfl
theorem whole_j0 (nums : List Int) (from_ to_ : Nat) (h : from_ ≤ to_) (hn : to_ ≤ 256) : Ev (fun k => headgatelaw08_OrderWhole.j0 k nums (from_ : Int) (to_ : Int)) true := by
  obtain ⟨hg, hc⟩ := pushes_greedy h hn
  have hcut := cut_ok h hn
  have hp := pushes_cut h hn
  have hlen := can_length (j := 0) (by omega) (Nat.mod_one _) hc
  generalize greedy (to_ - from_) from_ to_ = L at hc hcut hp hlen hg
  have hasc := (can_asc hn hc).low (Nat.zero_le _)
  have hfr := (can_frames hc).2
  have hL : L.length < 1000 := by omega
  have hfo := frames_ok L (by omega) hasc
  rw [hfr] at hfo
  have hspan : (span_ from_ (to_ - from_)).length = to_ - from_ := by simp [span_]
  have h1 := whole_l1 nums hn L hL hc hasc hp L.length 0 [] (by omega) (by rw [List.take_zero]; exact .nil)
  have h0 := whole_l0 nums from_ (to_ - from_) (by omega) (L.map blk) h1 (to_ - from_) 0 (by omega)
  refine Ev.step (f := fun k => (order_Cut.f k (from_ : Int) (to_ : Int)).bind fun s => (order_Frames.f k s.1).bind fun t => if s.2 = 0 then (if t.2 = 0 then (if (t.1.length : Int) = (wrap64 ((to_ : Int) - (from_ : Int))) then (headgatelaw08_OrderWhole.j1 k nums (from_ : Int) s.1 t.1 (decide ((s.1.length : Int) > (wrap64 (12 + (wrap64 (Int.tdiv (wrap64 ((to_ : Int) - (from_ : Int))) 64))))))) else (headgatelaw08_OrderWhole.j1 k nums (from_ : Int) s.1 t.1 true)) else (headgatelaw08_OrderWhole.j1 k nums (from_ : Int) s.1 t.1 true)) else (headgatelaw08_OrderWhole.j1 k nums (from_ : Int) s.1 t.1 true)) (fun k => ?_) ?_
  · simp only [headgatelaw08_OrderWhole.j0]
  · refine Ev.bind hcut ?_
    dsimp only
    refine Ev.bind hfo ?_
    dsimp only
    have hw : wrap64 ((to_ : Int) - (from_ : Int)) = ((to_ - from_ : Nat) : Int) := by rw [wsm (by omega) (by omega)]; omega
    have hd : Int.tdiv ((to_ - from_ : Nat) : Int) 64 = (((to_ - from_) / 64 : Nat) : Int) := by rw [Int.tdiv_eq_ediv_of_nonneg (by omega)]; rfl
    have hq : (to_ - from_) / 64 ≤ 4 := by omega
    rw [hw, hd, hspan, List.length_map]
    have hb : decide ((L.length : Int) > wrap64 (12 + wrap64 (((to_ - from_) / 64 : Nat) : Int))) = false := by
      rw [wsm (x := (((to_ - from_) / 64 : Nat) : Int)) (by omega) (by omega), wsm (by omega) (by omega)]
      exact decide_eq_false (by omega)
    rw [hb]
    simp only [if_true]
    refine Ev.step (fun k => ?_) h0
    simp only [headgatelaw08_OrderWhole.j1]
    rw [if_neg (by decide)]
    rfl
theorem OrderWhole : headgatelaw08_OrderWhole.Pure := by
  intro a0 a1 nums _ _ _ _ _
  have g0 := Int.emod_nonneg a0 (show (257 : Int) ≠ 0 by omega)
  have g1 := Int.emod_lt_of_pos a0 (show (0 : Int) < 257 by omega)
  have g2 := Int.emod_nonneg a1 (show (257 : Int) ≠ 0 by omega)
  have g3 := Int.emod_lt_of_pos a1 (show (0 : Int) < 257 by omega)
  obtain ⟨x, hx⟩ := Int.eq_ofNat_of_zero_le g0
  obtain ⟨y, hy⟩ := Int.eq_ofNat_of_zero_le g2
  refine Ev.rounds (g := fun k => headgatelaw08_OrderWhole.f k a0 a1 nums) ?_
  unfold headgatelaw08_OrderWhole.f
  rw [mod_at _ _ (by omega) (by omega), mod_at _ _ (by omega) (by omega), hx, hy]
  simp only [Option.bind_some]
  by_cases hlt : (y : Int) < (x : Int)
  · simp only [if_pos hlt]
    exact whole_j0 nums y x (by omega) (by omega)
  · simp only [if_neg hlt]
    exact whole_j0 nums x y (by omega) (by omega)
end Go.Proofs.Ytcdeaiiiplkfiaa.Pure
