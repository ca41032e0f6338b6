/- Of these Go functions: what each computes, and that the machine's call comes to it. Laid by a program of this session. -/
import Derived.Test.YtcdeaiiiplkfiaaXx0
import Derived.Test.YtcdeaiiiplkfiaaXx1
import Derived.Test.YtcdeaiiiplkfiaaXx4
import Derived.Test.YtcdeaiiiplkfiaaXx5
import Derived.Test.YtcdeaiiiplkfiaaXx6
import Derived.Test.YtcdeaiiiplkfiaaXx7
import Derived.Test.YtcdeaiiiplkfiaaFrames
namespace Go.Proofs.Ytcdeaiiiplkfiaa.X
open Go.RowKit Go.Proofs.YtcdeaiiiplkfiaaW.PrintWords Go.Proofs.YtcdeaiiiplkfiaaW.PrintLast Go.Proofs.YtcdeaiiiplkfiaaW.PrintMore
attribute [local go_sem] max2_int min2_int max_two min_two max_three min_three max_four min_four   -- for this text's walks alone
set_option linter.unusedVariables false
set_option linter.unusedSimpArgs false

attribute [local go_sem high] eqA32
/-! ### headgatelaw08_OrderPairs: function 4 -/
mutual
def headgatelaw08_OrderPairs.j0 : Nat → Bool → Int → Int → Int → Int → Int → Int → Option (Bool)
  | 0, _, _, _, _, _, _, _ => none
  | k + 1, x88, x203000, x203001, x207000, x207001, x215000, x215001 => if x88 = true then (some false) else (if x207000 < x203000 then (headgatelaw08_OrderPairs.j1 k x215000 x215001 x207000 x207001 x203000 x203001) else (headgatelaw08_OrderPairs.j1 k x215000 x215001 x203000 x203001 x207000 x207001))
def headgatelaw08_OrderPairs.j1 : Nat → Int → Int → Int → Int → Int → Int → Option (Bool)
  | 0, _, _, _, _, _, _ => none
  | k + 1, x215000, x215001, x220000, x220001, x221000, x221001 => (order_Frames.f k (([(⟨x220000, x220001⟩ : S32), (⟨x221000, x221001⟩ : S32)] : List (S32)))).bind fun bt224 => ((order_Frames.f k (([(⟨x215000, x215001⟩ : S32)] : List (S32)))).bind fun bt231 => (if bt224.2 = 0 then (if bt231.2 = 0 then ((headgatekit_SameInts.f k bt224.1 bt231.1).bind fun t235 => (if t235 = true then ((headgatelaw08_awake.f k).bind fun t236 => (some t236)) else (some false))) else (some false)) else (some false)))
end
def headgatelaw08_OrderPairs.f (k : Nat) (a0 : Int) (a1 : Int) : Option (Bool) := (headgatekit_Mod.f a1 6).bind fun t198 => (if 0 ≤ (IntKind.u64.wrap (t198)) then (if (shl .i64 1 (IntKind.u64.wrap (t198))) = 0 then (none) else ((headgatekit_Mod.f a0 (wrap64 (Int.tdiv (256 : Int) (shl .i64 1 (IntKind.u64.wrap (t198)))))).bind fun t199 => ((headgatelaw08_b.f (wrap64 (t199 * (shl .i64 1 (IntKind.u64.wrap (t198))))) t198).bind fun bt200 => ((order_Buddy.f k bt200.1 bt200.2).bind fun bt203 => ((order_Buddy.f k bt203.1 bt203.2.1).bind fun bt207 => ((order_Parent.f k bt200.1 bt200.2).bind fun bt211 => ((order_Parent.f k bt203.1 bt203.2.1).bind fun bt215 => (if bt203.2.2 = 0 then (if bt207.2.2 = 0 then (if bt211.2.2 = 0 then (if bt215.2.2 = 0 then (if (!(bt207.1 == bt200.1) || (!(bt207.2.1 == bt200.2))) = true then (headgatelaw08_OrderPairs.j0 k true bt200.1 bt200.2 bt203.1 bt203.2.1 bt211.1 bt211.2.1) else (if (!(bt211.1 == bt215.1) || (!(bt211.2.1 == bt215.2.1))) = true then (headgatelaw08_OrderPairs.j0 k true bt200.1 bt200.2 bt203.1 bt203.2.1 bt211.1 bt211.2.1) else (if bt211.2.1 = (wrap64 (t198 + 1)) then (headgatelaw08_OrderPairs.j0 k (bt203.1 == bt200.1 && (bt203.2.1 == bt200.2)) bt200.1 bt200.2 bt203.1 bt203.2.1 bt211.1 bt211.2.1) else (headgatelaw08_OrderPairs.j0 k true bt200.1 bt200.2 bt203.1 bt203.2.1 bt211.1 bt211.2.1)))) else (headgatelaw08_OrderPairs.j0 k true bt200.1 bt200.2 bt203.1 bt203.2.1 bt211.1 bt211.2.1)) else (headgatelaw08_OrderPairs.j0 k true bt200.1 bt200.2 bt203.1 bt203.2.1 bt211.1 bt211.2.1)) else (headgatelaw08_OrderPairs.j0 k true bt200.1 bt200.2 bt203.1 bt203.2.1 bt211.1 bt211.2.1)) else (headgatelaw08_OrderPairs.j0 k true bt200.1 bt200.2 bt203.1 bt203.2.1 bt211.1 bt211.2.1))))))))) else (none))
theorem headgatelaw08_OrderPairs.mono_l : ∀ k, (∀ y0 y1 y2 y3 y4 y5 y6, LeO (headgatelaw08_OrderPairs.j0 k y0 y1 y2 y3 y4 y5 y6) (headgatelaw08_OrderPairs.j0 (k + 1) y0 y1 y2 y3 y4 y5 y6)) ∧ (∀ y0 y1 y2 y3 y4 y5, LeO (headgatelaw08_OrderPairs.j1 k y0 y1 y2 y3 y4 y5) (headgatelaw08_OrderPairs.j1 (k + 1) y0 y1 y2 y3 y4 y5))
  | 0 => ⟨fun _ _ _ _ _ _ _ r h => by simp [headgatelaw08_OrderPairs.j0] at h, fun _ _ _ _ _ _ r h => by simp [headgatelaw08_OrderPairs.j1] at h⟩
  | k + 1 => by
    obtain ⟨ih0, ih1⟩ := headgatelaw08_OrderPairs.mono_l k
    refine ⟨?_, ?_⟩
    · intro y0 y1 y2 y3 y4 y5 y6
      unfold headgatelaw08_OrderPairs.j0
      repeat' first
      | (with_reducible exact ih0 _ _ _ _ _ _ _)
      | (with_reducible exact ih1 _ _ _ _ _ _)
      | (with_reducible exact headgatekit_SameInts.mono _ _ _)
      | (with_reducible exact headgatelaw08_awake.mono _)
      | (with_reducible exact order_Buddy.mono _ _ _)
      | (with_reducible exact order_Frames.mono _ _)
      | (with_reducible exact order_Parent.mono _ _ _)
      | (with_reducible exact LeO.refl _)
      | (with_reducible exact LeO.none _)
      | (with_reducible refine LeO.ite ?_ ?_)
      | (with_reducible refine LeO.bind ?_ (fun _ => ?_))
      | exact ih0 _ _ _ _ _ _ _
      | exact ih1 _ _ _ _ _ _
      | exact headgatekit_SameInts.mono _ _ _
      | exact headgatelaw08_awake.mono _
      | exact order_Buddy.mono _ _ _
      | exact order_Frames.mono _ _
      | exact order_Parent.mono _ _ _
      | exact LeO.none _
      | refine LeO.ite ?_ ?_
      | refine LeO.bind ?_ (fun _ => ?_)
    · intro y0 y1 y2 y3 y4 y5
      unfold headgatelaw08_OrderPairs.j1
      repeat' first
      | (with_reducible exact ih0 _ _ _ _ _ _ _)
      | (with_reducible exact ih1 _ _ _ _ _ _)
      | (with_reducible exact headgatekit_SameInts.mono _ _ _)
      | (with_reducible exact headgatelaw08_awake.mono _)
      | (with_reducible exact order_Buddy.mono _ _ _)
      | (with_reducible exact order_Frames.mono _ _)
      | (with_reducible exact order_Parent.mono _ _ _)
      | (with_reducible exact LeO.refl _)
      | (with_reducible exact LeO.none _)
      | (with_reducible refine LeO.ite ?_ ?_)
      | (with_reducible refine LeO.bind ?_ (fun _ => ?_))
      | exact ih0 _ _ _ _ _ _ _
      | exact ih1 _ _ _ _ _ _
      | exact headgatekit_SameInts.mono _ _ _
      | exact headgatelaw08_awake.mono _
      | exact order_Buddy.mono _ _ _
      | exact order_Frames.mono _ _
      | exact order_Parent.mono _ _ _
      | exact LeO.none _
      | refine LeO.ite ?_ ?_
      | refine LeO.bind ?_ (fun _ => ?_)
theorem headgatelaw08_OrderPairs.mono : ∀ a0 a1 k, LeO (headgatelaw08_OrderPairs.f k a0 a1) (headgatelaw08_OrderPairs.f (k + 1) a0 a1) := by
  intro a0 a1 k
  obtain ⟨ih0, ih1⟩ := headgatelaw08_OrderPairs.mono_l k
  unfold headgatelaw08_OrderPairs.f
  repeat' first
      | (with_reducible exact ih0 _ _ _ _ _ _ _)
      | (with_reducible exact ih1 _ _ _ _ _ _)
      | (with_reducible exact headgatekit_SameInts.mono _ _ _)
      | (with_reducible exact headgatelaw08_awake.mono _)
      | (with_reducible exact order_Buddy.mono _ _ _)
      | (with_reducible exact order_Frames.mono _ _)
      | (with_reducible exact order_Parent.mono _ _ _)
      | (with_reducible exact LeO.refl _)
      | (with_reducible exact LeO.none _)
      | (with_reducible refine LeO.ite ?_ ?_)
      | (with_reducible refine LeO.bind ?_ (fun _ => ?_))
      | exact ih0 _ _ _ _ _ _ _
      | exact ih1 _ _ _ _ _ _
      | exact headgatekit_SameInts.mono _ _ _
      | exact headgatelaw08_awake.mono _
      | exact order_Buddy.mono _ _ _
      | exact order_Frames.mono _ _
      | exact order_Parent.mono _ _ _
      | exact LeO.none _
      | refine LeO.ite ?_ ?_
      | refine LeO.bind ?_ (fun _ => ?_)
set_option maxHeartbeats 8000000 in
set_option maxRecDepth 100000 in
theorem headgatelaw08_OrderPairs.calls (k : Nat) (a0 : Int) (a1 : Int) (r : Bool) (w : World) (h : headgatelaw08_OrderPairs.f k a0 a1 = some r) :
    Calls Try.prog 4 #[.int .i64 a0, .int .i64 a1] w fun e w' => e = .returned (.bool r) ∧ Below w.heap.size w w' := by
  have hu32 := Try.underlying32
  have HB := Aside0.mk (Below.refl w.heap.size w)
  have H : ((headgatekit_Mod.f a1 6).bind fun t198 => (if 0 ≤ (IntKind.u64.wrap (t198)) then (if (shl .i64 1 (IntKind.u64.wrap (t198))) = 0 then (none) else ((headgatekit_Mod.f a0 (wrap64 (Int.tdiv (256 : Int) (shl .i64 1 (IntKind.u64.wrap (t198)))))).bind fun t199 => ((headgatelaw08_b.f (wrap64 (t199 * (shl .i64 1 (IntKind.u64.wrap (t198))))) t198).bind fun bt200 => ((order_Buddy.f k bt200.1 bt200.2).bind fun bt203 => ((order_Buddy.f k bt203.1 bt203.2.1).bind fun bt207 => ((order_Parent.f k bt200.1 bt200.2).bind fun bt211 => ((order_Parent.f k bt203.1 bt203.2.1).bind fun bt215 => (if bt203.2.2 = 0 then (if bt207.2.2 = 0 then (if bt211.2.2 = 0 then (if bt215.2.2 = 0 then (if (!(bt207.1 == bt200.1) || (!(bt207.2.1 == bt200.2))) = true then (headgatelaw08_OrderPairs.j0 k true bt200.1 bt200.2 bt203.1 bt203.2.1 bt211.1 bt211.2.1) else (if (!(bt211.1 == bt215.1) || (!(bt211.2.1 == bt215.2.1))) = true then (headgatelaw08_OrderPairs.j0 k true bt200.1 bt200.2 bt203.1 bt203.2.1 bt211.1 bt211.2.1) else (if bt211.2.1 = (wrap64 (t198 + 1)) then (headgatelaw08_OrderPairs.j0 k (bt203.1 == bt200.1 && (bt203.2.1 == bt200.2)) bt200.1 bt200.2 bt203.1 bt203.2.1 bt211.1 bt211.2.1) else (headgatelaw08_OrderPairs.j0 k true bt200.1 bt200.2 bt203.1 bt203.2.1 bt211.1 bt211.2.1)))) else (headgatelaw08_OrderPairs.j0 k true bt200.1 bt200.2 bt203.1 bt203.2.1 bt211.1 bt211.2.1)) else (headgatelaw08_OrderPairs.j0 k true bt200.1 bt200.2 bt203.1 bt203.2.1 bt211.1 bt211.2.1)) else (headgatelaw08_OrderPairs.j0 k true bt200.1 bt200.2 bt203.1 bt203.2.1 bt211.1 bt211.2.1)) else (headgatelaw08_OrderPairs.j0 k true bt200.1 bt200.2 bt203.1 bt203.2.1 bt211.1 bt211.2.1))))))))) else (none))) = some r := h
  clear h
  replace H := Option.bind_eq_some_iff.mp H
  obtain ⟨t198, A30, H⟩ := H
  replace H : (if 0 ≤ (IntKind.u64.wrap (t198)) then (if (shl .i64 1 (IntKind.u64.wrap (t198))) = 0 then (none) else ((headgatekit_Mod.f a0 (wrap64 (Int.tdiv (256 : Int) (shl .i64 1 (IntKind.u64.wrap (t198)))))).bind fun t199 => ((headgatelaw08_b.f (wrap64 (t199 * (shl .i64 1 (IntKind.u64.wrap (t198))))) t198).bind fun bt200 => ((order_Buddy.f k bt200.1 bt200.2).bind fun bt203 => ((order_Buddy.f k bt203.1 bt203.2.1).bind fun bt207 => ((order_Parent.f k bt200.1 bt200.2).bind fun bt211 => ((order_Parent.f k bt203.1 bt203.2.1).bind fun bt215 => (if bt203.2.2 = 0 then (if bt207.2.2 = 0 then (if bt211.2.2 = 0 then (if bt215.2.2 = 0 then (if (!(bt207.1 == bt200.1) || (!(bt207.2.1 == bt200.2))) = true then (headgatelaw08_OrderPairs.j0 k true bt200.1 bt200.2 bt203.1 bt203.2.1 bt211.1 bt211.2.1) else (if (!(bt211.1 == bt215.1) || (!(bt211.2.1 == bt215.2.1))) = true then (headgatelaw08_OrderPairs.j0 k true bt200.1 bt200.2 bt203.1 bt203.2.1 bt211.1 bt211.2.1) else (if bt211.2.1 = (wrap64 (t198 + 1)) then (headgatelaw08_OrderPairs.j0 k (bt203.1 == bt200.1 && (bt203.2.1 == bt200.2)) bt200.1 bt200.2 bt203.1 bt203.2.1 bt211.1 bt211.2.1) else (headgatelaw08_OrderPairs.j0 k true bt200.1 bt200.2 bt203.1 bt203.2.1 bt211.1 bt211.2.1)))) else (headgatelaw08_OrderPairs.j0 k true bt200.1 bt200.2 bt203.1 bt203.2.1 bt211.1 bt211.2.1)) else (headgatelaw08_OrderPairs.j0 k true bt200.1 bt200.2 bt203.1 bt203.2.1 bt211.1 bt211.2.1)) else (headgatelaw08_OrderPairs.j0 k true bt200.1 bt200.2 bt203.1 bt203.2.1 bt211.1 bt211.2.1)) else (headgatelaw08_OrderPairs.j0 k true bt200.1 bt200.2 bt203.1 bt203.2.1 bt211.1 bt211.2.1))))))))) else (none)) = some r := H
  have A3 := Aside0.mk A30
  clear A30
  obtain ⟨ji4, hji4⟩ : ∃ j_ : Int, (IntKind.u64.wrap (t198)) = j_ := ⟨_, rfl⟩
  replace H : (if 0 ≤ (ji4) then (if (shl .i64 1 (ji4)) = 0 then (none) else ((headgatekit_Mod.f a0 (wrap64 (Int.tdiv (256 : Int) (shl .i64 1 (ji4))))).bind fun t199 => ((headgatelaw08_b.f (wrap64 (t199 * (shl .i64 1 (ji4)))) t198).bind fun bt200 => ((order_Buddy.f k bt200.1 bt200.2).bind fun bt203 => ((order_Buddy.f k bt203.1 bt203.2.1).bind fun bt207 => ((order_Parent.f k bt200.1 bt200.2).bind fun bt211 => ((order_Parent.f k bt203.1 bt203.2.1).bind fun bt215 => (if bt203.2.2 = 0 then (if bt207.2.2 = 0 then (if bt211.2.2 = 0 then (if bt215.2.2 = 0 then (if (!(bt207.1 == bt200.1) || (!(bt207.2.1 == bt200.2))) = true then (headgatelaw08_OrderPairs.j0 k true bt200.1 bt200.2 bt203.1 bt203.2.1 bt211.1 bt211.2.1) else (if (!(bt211.1 == bt215.1) || (!(bt211.2.1 == bt215.2.1))) = true then (headgatelaw08_OrderPairs.j0 k true bt200.1 bt200.2 bt203.1 bt203.2.1 bt211.1 bt211.2.1) else (if bt211.2.1 = (wrap64 (t198 + 1)) then (headgatelaw08_OrderPairs.j0 k (bt203.1 == bt200.1 && (bt203.2.1 == bt200.2)) bt200.1 bt200.2 bt203.1 bt203.2.1 bt211.1 bt211.2.1) else (headgatelaw08_OrderPairs.j0 k true bt200.1 bt200.2 bt203.1 bt203.2.1 bt211.1 bt211.2.1)))) else (headgatelaw08_OrderPairs.j0 k true bt200.1 bt200.2 bt203.1 bt203.2.1 bt211.1 bt211.2.1)) else (headgatelaw08_OrderPairs.j0 k true bt200.1 bt200.2 bt203.1 bt203.2.1 bt211.1 bt211.2.1)) else (headgatelaw08_OrderPairs.j0 k true bt200.1 bt200.2 bt203.1 bt203.2.1 bt211.1 bt211.2.1)) else (headgatelaw08_OrderPairs.j0 k true bt200.1 bt200.2 bt203.1 bt203.2.1 bt211.1 bt211.2.1))))))))) else (none)) = some r := by first | (rw [hji4] at H; exact H) | (simp only [hji4] at H ⊢; exact H)
  (try rw [hji4] at A3)
  by_cases c5 : 0 ≤ (ji4)
  · rw [if_pos c5] at H
    have c5b0 := eq_true c5
    have c5b1 : decide (0 ≤ (ji4)) = true := decide_eq_true c5
    clear c5
    obtain ⟨ji6, hji6⟩ : ∃ j_ : Int, (shl .i64 1 (ji4)) = j_ := ⟨_, rfl⟩
    replace H : (if (ji6) = 0 then (none) else ((headgatekit_Mod.f a0 (wrap64 (Int.tdiv (256 : Int) (ji6)))).bind fun t199 => ((headgatelaw08_b.f (wrap64 (t199 * (ji6))) t198).bind fun bt200 => ((order_Buddy.f k bt200.1 bt200.2).bind fun bt203 => ((order_Buddy.f k bt203.1 bt203.2.1).bind fun bt207 => ((order_Parent.f k bt200.1 bt200.2).bind fun bt211 => ((order_Parent.f k bt203.1 bt203.2.1).bind fun bt215 => (if bt203.2.2 = 0 then (if bt207.2.2 = 0 then (if bt211.2.2 = 0 then (if bt215.2.2 = 0 then (if (!(bt207.1 == bt200.1) || (!(bt207.2.1 == bt200.2))) = true then (headgatelaw08_OrderPairs.j0 k true bt200.1 bt200.2 bt203.1 bt203.2.1 bt211.1 bt211.2.1) else (if (!(bt211.1 == bt215.1) || (!(bt211.2.1 == bt215.2.1))) = true then (headgatelaw08_OrderPairs.j0 k true bt200.1 bt200.2 bt203.1 bt203.2.1 bt211.1 bt211.2.1) else (if bt211.2.1 = (wrap64 (t198 + 1)) then (headgatelaw08_OrderPairs.j0 k (bt203.1 == bt200.1 && (bt203.2.1 == bt200.2)) bt200.1 bt200.2 bt203.1 bt203.2.1 bt211.1 bt211.2.1) else (headgatelaw08_OrderPairs.j0 k true bt200.1 bt200.2 bt203.1 bt203.2.1 bt211.1 bt211.2.1)))) else (headgatelaw08_OrderPairs.j0 k true bt200.1 bt200.2 bt203.1 bt203.2.1 bt211.1 bt211.2.1)) else (headgatelaw08_OrderPairs.j0 k true bt200.1 bt200.2 bt203.1 bt203.2.1 bt211.1 bt211.2.1)) else (headgatelaw08_OrderPairs.j0 k true bt200.1 bt200.2 bt203.1 bt203.2.1 bt211.1 bt211.2.1)) else (headgatelaw08_OrderPairs.j0 k true bt200.1 bt200.2 bt203.1 bt203.2.1 bt211.1 bt211.2.1))))))))) = some r := by first | (rw [hji6] at H; exact H) | (simp only [hji6] at H ⊢; exact H)
    (try rw [hji6] at A3)
    have hji6_ : (IntKind.i64.wrap (1 * 2 ^ min (ji4).toNat 64)) = ji6 := hji6
    have hji6z : (ji4) ≤ 64 → (IntKind.i64.wrap (1 * 2 ^ (ji4).toNat)) = ji6 := shl_small hji6
    have hji6u : (IntKind.i64.wrap (2 ^ min (ji4).toNat 64)) = ji6 := by have h_ := hji6_; rw [Int.one_mul] at h_; exact h_
    have hji6v : (ji4) ≤ 64 → (IntKind.i64.wrap (2 ^ (ji4).toNat)) = ji6 := fun hle_ => by have h_ := hji6z hle_; rw [Int.one_mul] at h_; exact h_
    have hji6y : (wrap64 (1 * 2 ^ min (ji4).toNat 64)) = ji6 := (i64_w _).symm.trans hji6_
    have hji6x : (ji4) ≤ 64 → (wrap64 (1 * 2 ^ (ji4).toNat)) = ji6 := fun h_ => (i64_w _).symm.trans (hji6z h_)
    by_cases c7 : (ji6) = 0
    · rw [if_pos c7] at H
      exact absurd H (by simp)
    · rw [if_neg c7] at H
      have c7b0 : ((ji6) == 0) = false := beq_eq_false_iff_ne.mpr c7
      have c7b1 : ((ji6) != 0) = true := bne_iff_ne.mpr c7
      replace H := Option.bind_eq_some_iff.mp H
      obtain ⟨t199, A80, H⟩ := H
      replace H : ((headgatelaw08_b.f (wrap64 (t199 * (ji6))) t198).bind fun bt200 => ((order_Buddy.f k bt200.1 bt200.2).bind fun bt203 => ((order_Buddy.f k bt203.1 bt203.2.1).bind fun bt207 => ((order_Parent.f k bt200.1 bt200.2).bind fun bt211 => ((order_Parent.f k bt203.1 bt203.2.1).bind fun bt215 => (if bt203.2.2 = 0 then (if bt207.2.2 = 0 then (if bt211.2.2 = 0 then (if bt215.2.2 = 0 then (if (!(bt207.1 == bt200.1) || (!(bt207.2.1 == bt200.2))) = true then (headgatelaw08_OrderPairs.j0 k true bt200.1 bt200.2 bt203.1 bt203.2.1 bt211.1 bt211.2.1) else (if (!(bt211.1 == bt215.1) || (!(bt211.2.1 == bt215.2.1))) = true then (headgatelaw08_OrderPairs.j0 k true bt200.1 bt200.2 bt203.1 bt203.2.1 bt211.1 bt211.2.1) else (if bt211.2.1 = (wrap64 (t198 + 1)) then (headgatelaw08_OrderPairs.j0 k (bt203.1 == bt200.1 && (bt203.2.1 == bt200.2)) bt200.1 bt200.2 bt203.1 bt203.2.1 bt211.1 bt211.2.1) else (headgatelaw08_OrderPairs.j0 k true bt200.1 bt200.2 bt203.1 bt203.2.1 bt211.1 bt211.2.1)))) else (headgatelaw08_OrderPairs.j0 k true bt200.1 bt200.2 bt203.1 bt203.2.1 bt211.1 bt211.2.1)) else (headgatelaw08_OrderPairs.j0 k true bt200.1 bt200.2 bt203.1 bt203.2.1 bt211.1 bt211.2.1)) else (headgatelaw08_OrderPairs.j0 k true bt200.1 bt200.2 bt203.1 bt203.2.1 bt211.1 bt211.2.1)) else (headgatelaw08_OrderPairs.j0 k true bt200.1 bt200.2 bt203.1 bt203.2.1 bt211.1 bt211.2.1))))))) = some r := H
      have A8 := Aside0.mk A80
      clear A80
      replace H := Option.bind_eq_some_iff.mp H
      obtain ⟨⟨t200, t201⟩, A90, H⟩ := H
      replace H : ((order_Buddy.f k t200 t201).bind fun bt203 => ((order_Buddy.f k bt203.1 bt203.2.1).bind fun bt207 => ((order_Parent.f k t200 t201).bind fun bt211 => ((order_Parent.f k bt203.1 bt203.2.1).bind fun bt215 => (if bt203.2.2 = 0 then (if bt207.2.2 = 0 then (if bt211.2.2 = 0 then (if bt215.2.2 = 0 then (if (!(bt207.1 == t200) || (!(bt207.2.1 == t201))) = true then (headgatelaw08_OrderPairs.j0 k true t200 t201 bt203.1 bt203.2.1 bt211.1 bt211.2.1) else (if (!(bt211.1 == bt215.1) || (!(bt211.2.1 == bt215.2.1))) = true then (headgatelaw08_OrderPairs.j0 k true t200 t201 bt203.1 bt203.2.1 bt211.1 bt211.2.1) else (if bt211.2.1 = (wrap64 (t198 + 1)) then (headgatelaw08_OrderPairs.j0 k (bt203.1 == t200 && (bt203.2.1 == t201)) t200 t201 bt203.1 bt203.2.1 bt211.1 bt211.2.1) else (headgatelaw08_OrderPairs.j0 k true t200 t201 bt203.1 bt203.2.1 bt211.1 bt211.2.1)))) else (headgatelaw08_OrderPairs.j0 k true t200 t201 bt203.1 bt203.2.1 bt211.1 bt211.2.1)) else (headgatelaw08_OrderPairs.j0 k true t200 t201 bt203.1 bt203.2.1 bt211.1 bt211.2.1)) else (headgatelaw08_OrderPairs.j0 k true t200 t201 bt203.1 bt203.2.1 bt211.1 bt211.2.1)) else (headgatelaw08_OrderPairs.j0 k true t200 t201 bt203.1 bt203.2.1 bt211.1 bt211.2.1)))))) = some r := H
      have A9 := Aside0.mk A90
      clear A90
      replace H := Option.bind_eq_some_iff.mp H
      obtain ⟨⟨t203, t204, t205⟩, A100, H⟩ := H
      replace H : ((order_Buddy.f k t203 t204).bind fun bt207 => ((order_Parent.f k t200 t201).bind fun bt211 => ((order_Parent.f k t203 t204).bind fun bt215 => (if t205 = 0 then (if bt207.2.2 = 0 then (if bt211.2.2 = 0 then (if bt215.2.2 = 0 then (if (!(bt207.1 == t200) || (!(bt207.2.1 == t201))) = true then (headgatelaw08_OrderPairs.j0 k true t200 t201 t203 t204 bt211.1 bt211.2.1) else (if (!(bt211.1 == bt215.1) || (!(bt211.2.1 == bt215.2.1))) = true then (headgatelaw08_OrderPairs.j0 k true t200 t201 t203 t204 bt211.1 bt211.2.1) else (if bt211.2.1 = (wrap64 (t198 + 1)) then (headgatelaw08_OrderPairs.j0 k (t203 == t200 && (t204 == t201)) t200 t201 t203 t204 bt211.1 bt211.2.1) else (headgatelaw08_OrderPairs.j0 k true t200 t201 t203 t204 bt211.1 bt211.2.1)))) else (headgatelaw08_OrderPairs.j0 k true t200 t201 t203 t204 bt211.1 bt211.2.1)) else (headgatelaw08_OrderPairs.j0 k true t200 t201 t203 t204 bt211.1 bt211.2.1)) else (headgatelaw08_OrderPairs.j0 k true t200 t201 t203 t204 bt211.1 bt211.2.1)) else (headgatelaw08_OrderPairs.j0 k true t200 t201 t203 t204 bt211.1 bt211.2.1))))) = some r := H
      have A10 := Aside0.mk A100
      clear A100
      replace H := Option.bind_eq_some_iff.mp H
      obtain ⟨⟨t207, t208, t209⟩, A110, H⟩ := H
      replace H : ((order_Parent.f k t200 t201).bind fun bt211 => ((order_Parent.f k t203 t204).bind fun bt215 => (if t205 = 0 then (if t209 = 0 then (if bt211.2.2 = 0 then (if bt215.2.2 = 0 then (if (!(t207 == t200) || (!(t208 == t201))) = true then (headgatelaw08_OrderPairs.j0 k true t200 t201 t203 t204 bt211.1 bt211.2.1) else (if (!(bt211.1 == bt215.1) || (!(bt211.2.1 == bt215.2.1))) = true then (headgatelaw08_OrderPairs.j0 k true t200 t201 t203 t204 bt211.1 bt211.2.1) else (if bt211.2.1 = (wrap64 (t198 + 1)) then (headgatelaw08_OrderPairs.j0 k (t203 == t200 && (t204 == t201)) t200 t201 t203 t204 bt211.1 bt211.2.1) else (headgatelaw08_OrderPairs.j0 k true t200 t201 t203 t204 bt211.1 bt211.2.1)))) else (headgatelaw08_OrderPairs.j0 k true t200 t201 t203 t204 bt211.1 bt211.2.1)) else (headgatelaw08_OrderPairs.j0 k true t200 t201 t203 t204 bt211.1 bt211.2.1)) else (headgatelaw08_OrderPairs.j0 k true t200 t201 t203 t204 bt211.1 bt211.2.1)) else (headgatelaw08_OrderPairs.j0 k true t200 t201 t203 t204 bt211.1 bt211.2.1)))) = some r := H
      have A11 := Aside0.mk A110
      clear A110
      replace H := Option.bind_eq_some_iff.mp H
      obtain ⟨⟨t211, t212, t213⟩, A120, H⟩ := H
      replace H : ((order_Parent.f k t203 t204).bind fun bt215 => (if t205 = 0 then (if t209 = 0 then (if t213 = 0 then (if bt215.2.2 = 0 then (if (!(t207 == t200) || (!(t208 == t201))) = true then (headgatelaw08_OrderPairs.j0 k true t200 t201 t203 t204 t211 t212) else (if (!(t211 == bt215.1) || (!(t212 == bt215.2.1))) = true then (headgatelaw08_OrderPairs.j0 k true t200 t201 t203 t204 t211 t212) else (if t212 = (wrap64 (t198 + 1)) then (headgatelaw08_OrderPairs.j0 k (t203 == t200 && (t204 == t201)) t200 t201 t203 t204 t211 t212) else (headgatelaw08_OrderPairs.j0 k true t200 t201 t203 t204 t211 t212)))) else (headgatelaw08_OrderPairs.j0 k true t200 t201 t203 t204 t211 t212)) else (headgatelaw08_OrderPairs.j0 k true t200 t201 t203 t204 t211 t212)) else (headgatelaw08_OrderPairs.j0 k true t200 t201 t203 t204 t211 t212)) else (headgatelaw08_OrderPairs.j0 k true t200 t201 t203 t204 t211 t212))) = some r := H
      have A12 := Aside0.mk A120
      clear A120
      replace H := Option.bind_eq_some_iff.mp H
      obtain ⟨⟨t215, t216, t217⟩, A130, H⟩ := H
      replace H : (if t205 = 0 then (if t209 = 0 then (if t213 = 0 then (if t217 = 0 then (if (!(t207 == t200) || (!(t208 == t201))) = true then (headgatelaw08_OrderPairs.j0 k true t200 t201 t203 t204 t211 t212) else (if (!(t211 == t215) || (!(t212 == t216))) = true then (headgatelaw08_OrderPairs.j0 k true t200 t201 t203 t204 t211 t212) else (if t212 = (wrap64 (t198 + 1)) then (headgatelaw08_OrderPairs.j0 k (t203 == t200 && (t204 == t201)) t200 t201 t203 t204 t211 t212) else (headgatelaw08_OrderPairs.j0 k true t200 t201 t203 t204 t211 t212)))) else (headgatelaw08_OrderPairs.j0 k true t200 t201 t203 t204 t211 t212)) else (headgatelaw08_OrderPairs.j0 k true t200 t201 t203 t204 t211 t212)) else (headgatelaw08_OrderPairs.j0 k true t200 t201 t203 t204 t211 t212)) else (headgatelaw08_OrderPairs.j0 k true t200 t201 t203 t204 t211 t212)) = some r := H
      have A13 := Aside0.mk A130
      clear A130
      have HC14 := Aside0.mk H
      clear H
      go_enter Try.func4, Try.ntmps4
      go_upto_region 8 with (first | ((with_reducible refine gate_callee (f := 13) rfl ?_); refine goesL_ (some 21) rfl rfl Try.func13 (by kernel_rfl) rfl #[.int .i64 a1, .int .i64 6] rfl (by (try simp only [List.map_toArray, List.map_cons, List.map_nil]); first | done | rfl | (simp only [List.length_drop, List.length_take]; rfl)) ?_; (with_reducible refine (headgatekit_Mod.calls a1 6 t198 _ A3.out).mono ?_); rintro e w' ⟨rfl, ⟨nd, rfl⟩⟩; refine ⟨_, rfl, ?_⟩) | ((with_reducible refine gate_callee (f := 13) rfl ?_); refine goesL_ (some 28) rfl rfl Try.func13 (by kernel_rfl) rfl #[.int .i64 a0, .int .i64 (wrap64 (Int.tdiv (256 : Int) (ji6)))] rfl (by (try simp only [List.map_toArray, List.map_cons, List.map_nil]); first | done | (simp only [hji6]; rfl) | rfl | (simp only [List.length_drop, List.length_take]; rfl)) ?_; (with_reducible refine (headgatekit_Mod.calls a0 (wrap64 (Int.tdiv (256 : Int) (ji6))) t199 _ A8.out).mono ?_); rintro e w' ⟨rfl, ⟨nd, rfl⟩⟩; refine ⟨_, rfl, ?_⟩) | ((with_reducible refine gate_callee (f := 14) rfl ?_); refine goesL_ (some 32) rfl rfl Try.func14 (by kernel_rfl) rfl #[.int .i64 (wrap64 (t199 * (ji6))), .int .i64 t198] rfl (by (try simp only [List.map_toArray, List.map_cons, List.map_nil]); first | done | (simp only [hji6]; rfl) | rfl | (simp only [List.length_drop, List.length_take]; rfl)) ?_; (with_reducible refine (headgatelaw08_b.calls (wrap64 (t199 * (ji6))) t198 t200 t201 _ A9.out).mono ?_); rintro e w15 ⟨rfl, hb⟩; refine ⟨_, rfl, ?_⟩; have n0_ := Aside0.mk (below_step (by repeat (first | (with_reducible first | exact HB.out | apply below_alloc | apply pw_below_drewN | apply below_drew1) | exact HB.out)) hb); clear HB; have HB := n0_; clear n0_; (try clear hb); (try clear hb2); (try clear hk); (try clear hi)) | ((with_reducible refine gate_dst (N := 7) rfl ?_); refine box_event ?hg (N := 7) ?hd (cs := #[.int .i64 0, .int .i64 0]) (t := 32) ?hr ?_; (case hd => rfl); (case hg => rfl); (case hr => first | (go_simp; done) | (go_simp; rfl)); intro gb202 hg w16 hbox hb; have n0_ := Aside0.mk (below_step (by repeat (first | (with_reducible first | exact HB.out | apply below_alloc | apply pw_below_drewN | apply below_drew1) | exact HB.out)) hb); have n1_ := Aside0.mk (hbox); have n2_ := Aside0.mk ((by rw [hg]; exact (below_size (by repeat (first | (with_reducible first | exact HB.out | apply below_alloc | apply pw_below_drewN | apply below_drew1) | exact HB.out))) : w.heap.size ≤ gb202)); have n3_ := Aside0.mk ((by rw [hg]; exact (below_size (by repeat (first | (with_reducible first | exact HB.out | apply below_alloc | apply pw_below_drewN | apply below_drew1) | exact HB.out))) : w.heap.size ≤ gb202)); clear HB; have HB := n0_; have BK202 := n1_; have GW202 := n2_; have GE202 := n3_; clear n0_ n1_ n2_ n3_; clear hb hbox hg; have hcz17_0 : w16.cell? ⟨gb202, 0, none⟩ = some (.int .i64 0) := (blk_cell BK202.out 0).trans rfl; have hcz17_1 : w16.cell? ⟨gb202, 1, none⟩ = some (.int .i64 0) := (blk_cell BK202.out 1).trans rfl; have hfz17_0 := blk_frozen BK202.out 0; have hfz17_1 := blk_frozen BK202.out 1) | ((with_reducible refine gate_callee (f := 15) rfl ?_); refine goesL_ (some 35) rfl rfl Try.func15 (by kernel_rfl) rfl #[.agg #[.int .i64 t200, .int .i64 t201]] rfl (by (try simp only [List.map_toArray, List.map_cons, List.map_nil]); first | done | rfl | (simp only [List.length_drop, List.length_take]; rfl)) ?_; (with_reducible refine (order_Buddy.calls k t200 t201 t203 t204 t205 _ A10.out).mono ?_); rintro e w18 ⟨rfl, hb⟩; refine ⟨_, rfl, ?_⟩; have n0_ := Aside0.mk (blk_below (g := gb202) (o := .cells #[.int .i64 t200, .int .i64 t201] 32 (0, 0)) (by (with_reducible repeat (first | refine blk_drewN ?_ _ | refine blk_drew ?_ | refine blk_alloc ?_ _)); refine blk_put (cs := #[.int .i64 t200, .int .i64 0]) ?_ 1 _ rfl; (with_reducible repeat (first | refine blk_drewN ?_ _ | refine blk_drew ?_ | refine blk_alloc ?_ _)); refine blk_put (cs := #[.int .i64 0, .int .i64 0]) ?_ 0 _ rfl; (with_reducible repeat (first | refine blk_drewN ?_ _ | refine blk_drew ?_ | refine blk_alloc ?_ _)); exact BK202.out) hb); have n1_ := Aside0.mk (below_step (by repeat (first | (with_reducible first | exact HB.out | apply below_alloc | apply pw_below_drewN | apply below_drew1 | refine below_set ?_ GE202.out) | exact HB.out)) hb); clear BK202; clear HB; have BK202 := n0_; have HB := n1_; clear n0_ n1_; (try clear hb); (try clear hb2); (try clear hk); (try clear hi)) | ((with_reducible refine gate_dst (N := 8) rfl ?_); refine box_event ?hg (N := 8) ?hd (cs := #[.int .i64 0, .int .i64 0]) (t := 32) ?hr ?_; (case hd => rfl); (case hg => rfl); (case hr => first | (go_simp; done) | (go_simp; rfl)); intro gb206 hg w19 hbox hb; have n0_ := Aside0.mk (blk_below (g := gb202) (o := .cells #[.int .i64 t200, .int .i64 t201] 32 (0, 0)) (by (with_reducible repeat (first | refine blk_drewN ?_ _ | refine blk_drew ?_ | refine blk_alloc ?_ _)); exact BK202.out) hb); have n1_ := Aside0.mk (below_step (by repeat (first | (with_reducible first | exact HB.out | apply below_alloc | apply pw_below_drewN | apply below_drew1 | refine below_set ?_ GE202.out) | exact HB.out)) hb); have n2_ := Aside0.mk (hbox); have n3_ := Aside0.mk ((by rw [hg]; exact (below_size (by repeat (first | (with_reducible first | exact HB.out | apply below_alloc | apply pw_below_drewN | apply below_drew1 | refine below_set ?_ GE202.out) | exact HB.out))) : w.heap.size ≤ gb206)); have n4_ := Aside0.mk ((by rw [hg]; exact (below_size (by repeat (first | (with_reducible first | exact HB.out | apply below_alloc | apply pw_below_drewN | apply below_drew1 | refine below_set ?_ GE202.out) | exact HB.out))) : w.heap.size ≤ gb206)); have n5_ := Aside0.mk ((by rw [hg]; exact Nat.ne_of_lt (blk_lt (g := gb202) (o := .cells #[.int .i64 t200, .int .i64 t201] 32 (0, 0)) (by (with_reducible repeat (first | refine blk_drewN ?_ _ | refine blk_drew ?_ | refine blk_alloc ?_ _)); exact BK202.out)) : gb202 ≠ gb206)); have n6_ := Aside0.mk ((by rw [hg]; exact Nat.ne_of_gt (blk_lt (g := gb202) (o := .cells #[.int .i64 t200, .int .i64 t201] 32 (0, 0)) (by (with_reducible repeat (first | refine blk_drewN ?_ _ | refine blk_drew ?_ | refine blk_alloc ?_ _)); exact BK202.out)) : gb206 ≠ gb202)); clear BK202; clear HB; have BK202 := n0_; have HB := n1_; have BK206 := n2_; have GW206 := n3_; have GE206 := n4_; have NB202_206 := n5_; have NB206_202 := n6_; clear n0_ n1_ n2_ n3_ n4_ n5_ n6_; clear hb hbox hg; have hnb20 := NB206_202.out; have hnc20 := NB202_206.out; have hcz21_0 : w19.cell? ⟨gb206, 0, none⟩ = some (.int .i64 0) := (blk_cell BK206.out 0).trans rfl; have hcz21_1 : w19.cell? ⟨gb206, 1, none⟩ = some (.int .i64 0) := (blk_cell BK206.out 1).trans rfl; have hfz21_0 := blk_frozen BK206.out 0; have hfz21_1 := blk_frozen BK206.out 1) | ((with_reducible refine gate_callee (f := 15) rfl ?_); refine goesL_ (some 40) rfl rfl Try.func15 (by kernel_rfl) rfl #[.agg #[.int .i64 t203, .int .i64 t204]] rfl (by (try simp only [List.map_toArray, List.map_cons, List.map_nil]); first | done | rfl | (simp only [List.length_drop, List.length_take]; rfl)) ?_; (with_reducible refine (order_Buddy.calls k t203 t204 t207 t208 t209 _ A11.out).mono ?_); rintro e w22 ⟨rfl, hb⟩; refine ⟨_, rfl, ?_⟩; have n0_ := Aside0.mk (blk_below (g := gb202) (o := .cells #[.int .i64 t200, .int .i64 t201] 32 (0, 0)) (by (with_reducible repeat (first | refine blk_drewN ?_ _ | refine blk_drew ?_ | refine blk_alloc ?_ _)); refine blk_far ?_ NB202_206.out _; (with_reducible repeat (first | refine blk_drewN ?_ _ | refine blk_drew ?_ | refine blk_alloc ?_ _)); refine blk_far ?_ NB202_206.out _; (with_reducible repeat (first | refine blk_drewN ?_ _ | refine blk_drew ?_ | refine blk_alloc ?_ _)); exact BK202.out) hb); have n1_ := Aside0.mk (blk_below (g := gb206) (o := .cells #[.int .i64 t203, .int .i64 t204] 32 (0, 0)) (by (with_reducible repeat (first | refine blk_drewN ?_ _ | refine blk_drew ?_ | refine blk_alloc ?_ _)); refine blk_put (cs := #[.int .i64 t203, .int .i64 0]) ?_ 1 _ rfl; (with_reducible repeat (first | refine blk_drewN ?_ _ | refine blk_drew ?_ | refine blk_alloc ?_ _)); refine blk_put (cs := #[.int .i64 0, .int .i64 0]) ?_ 0 _ rfl; (with_reducible repeat (first | refine blk_drewN ?_ _ | refine blk_drew ?_ | refine blk_alloc ?_ _)); exact BK206.out) hb); have n2_ := Aside0.mk (below_step (by repeat (first | (with_reducible first | exact HB.out | apply below_alloc | apply pw_below_drewN | apply below_drew1 | refine below_set ?_ GE202.out | refine below_set ?_ GE206.out) | exact HB.out)) hb); clear BK202; clear BK206; clear HB; have BK202 := n0_; have BK206 := n1_; have HB := n2_; clear n0_ n1_ n2_; (try clear hb); (try clear hb2); (try clear hk); (try clear hi)) | ((with_reducible refine gate_dst (N := 10) rfl ?_); refine box_event ?hg (N := 10) ?hd (cs := #[.int .i64 0, .int .i64 0]) (t := 32) ?hr ?_; (case hd => rfl); (case hg => rfl); (case hr => first | (go_simp; done) | (go_simp; rfl)); intro gb210 hg w23 hbox hb; have n0_ := Aside0.mk (blk_below (g := gb202) (o := .cells #[.int .i64 t200, .int .i64 t201] 32 (0, 0)) (by (with_reducible repeat (first | refine blk_drewN ?_ _ | refine blk_drew ?_ | refine blk_alloc ?_ _)); exact BK202.out) hb); have n1_ := Aside0.mk (blk_below (g := gb206) (o := .cells #[.int .i64 t203, .int .i64 t204] 32 (0, 0)) (by (with_reducible repeat (first | refine blk_drewN ?_ _ | refine blk_drew ?_ | refine blk_alloc ?_ _)); exact BK206.out) hb); have n2_ := Aside0.mk (below_step (by repeat (first | (with_reducible first | exact HB.out | apply below_alloc | apply pw_below_drewN | apply below_drew1 | refine below_set ?_ GE202.out | refine below_set ?_ GE206.out) | exact HB.out)) hb); have n3_ := Aside0.mk (hbox); have n4_ := Aside0.mk ((by rw [hg]; exact (below_size (by repeat (first | (with_reducible first | exact HB.out | apply below_alloc | apply pw_below_drewN | apply below_drew1 | refine below_set ?_ GE202.out | refine below_set ?_ GE206.out) | exact HB.out))) : w.heap.size ≤ gb210)); have n5_ := Aside0.mk ((by rw [hg]; exact (below_size (by repeat (first | (with_reducible first | exact HB.out | apply below_alloc | apply pw_below_drewN | apply below_drew1 | refine below_set ?_ GE202.out | refine below_set ?_ GE206.out) | exact HB.out))) : w.heap.size ≤ gb210)); have n6_ := Aside0.mk ((by rw [hg]; exact Nat.ne_of_lt (blk_lt (g := gb202) (o := .cells #[.int .i64 t200, .int .i64 t201] 32 (0, 0)) (by (with_reducible repeat (first | refine blk_drewN ?_ _ | refine blk_drew ?_ | refine blk_alloc ?_ _)); exact BK202.out)) : gb202 ≠ gb210)); have n7_ := Aside0.mk ((by rw [hg]; exact Nat.ne_of_gt (blk_lt (g := gb202) (o := .cells #[.int .i64 t200, .int .i64 t201] 32 (0, 0)) (by (with_reducible repeat (first | refine blk_drewN ?_ _ | refine blk_drew ?_ | refine blk_alloc ?_ _)); exact BK202.out)) : gb210 ≠ gb202)); have n8_ := Aside0.mk ((by rw [hg]; exact Nat.ne_of_lt (blk_lt (g := gb206) (o := .cells #[.int .i64 t203, .int .i64 t204] 32 (0, 0)) (by (with_reducible repeat (first | refine blk_drewN ?_ _ | refine blk_drew ?_ | refine blk_alloc ?_ _)); exact BK206.out)) : gb206 ≠ gb210)); have n9_ := Aside0.mk ((by rw [hg]; exact Nat.ne_of_gt (blk_lt (g := gb206) (o := .cells #[.int .i64 t203, .int .i64 t204] 32 (0, 0)) (by (with_reducible repeat (first | refine blk_drewN ?_ _ | refine blk_drew ?_ | refine blk_alloc ?_ _)); exact BK206.out)) : gb210 ≠ gb206)); clear BK202; clear BK206; clear HB; have BK202 := n0_; have BK206 := n1_; have HB := n2_; have BK210 := n3_; have GW210 := n4_; have GE210 := n5_; have NB202_210 := n6_; have NB210_202 := n7_; have NB206_210 := n8_; have NB210_206 := n9_; clear n0_ n1_ n2_ n3_ n4_ n5_ n6_ n7_ n8_ n9_; clear hb hbox hg; have hnb24 := NB210_202.out; have hnc24 := NB202_210.out; have hnb25 := NB210_206.out; have hnc25 := NB206_210.out; have hcz26_0 : w23.cell? ⟨gb210, 0, none⟩ = some (.int .i64 0) := (blk_cell BK210.out 0).trans rfl; have hcz26_1 : w23.cell? ⟨gb210, 1, none⟩ = some (.int .i64 0) := (blk_cell BK210.out 1).trans rfl; have hfz26_0 := blk_frozen BK210.out 0; have hfz26_1 := blk_frozen BK210.out 1; have hcz27_0 : w23.cell? ⟨gb202, 0, none⟩ = some (.int .i64 t200) := (blk_cell BK202.out 0).trans rfl; have hcz27_1 : w23.cell? ⟨gb202, 1, none⟩ = some (.int .i64 t201) := (blk_cell BK202.out 1).trans rfl; have hfz27_0 := blk_frozen BK202.out 0; have hfz27_1 := blk_frozen BK202.out 1) | ((with_reducible refine gate_callee (f := 16) rfl ?_); refine goesL_ (some 45) rfl rfl Try.func16 (by kernel_rfl) rfl #[.agg #[.int .i64 t200, .int .i64 t201]] rfl (by (try simp only [List.map_toArray, List.map_cons, List.map_nil]); first | done | rfl | (simp only [List.length_drop, List.length_take]; rfl)) ?_; (with_reducible refine (order_Parent.calls k t200 t201 t211 t212 t213 _ A12.out).mono ?_); rintro e w28 ⟨rfl, hb⟩; refine ⟨_, rfl, ?_⟩; have n0_ := Aside0.mk (blk_below (g := gb202) (o := .cells #[.int .i64 t200, .int .i64 t201] 32 (0, 0)) (by (with_reducible repeat (first | refine blk_drewN ?_ _ | refine blk_drew ?_ | refine blk_alloc ?_ _)); refine blk_far ?_ NB202_210.out _; (with_reducible repeat (first | refine blk_drewN ?_ _ | refine blk_drew ?_ | refine blk_alloc ?_ _)); refine blk_far ?_ NB202_210.out _; (with_reducible repeat (first | refine blk_drewN ?_ _ | refine blk_drew ?_ | refine blk_alloc ?_ _)); exact BK202.out) hb); have n1_ := Aside0.mk (blk_below (g := gb206) (o := .cells #[.int .i64 t203, .int .i64 t204] 32 (0, 0)) (by (with_reducible repeat (first | refine blk_drewN ?_ _ | refine blk_drew ?_ | refine blk_alloc ?_ _)); refine blk_far ?_ NB206_210.out _; (with_reducible repeat (first | refine blk_drewN ?_ _ | refine blk_drew ?_ | refine blk_alloc ?_ _)); refine blk_far ?_ NB206_210.out _; (with_reducible repeat (first | refine blk_drewN ?_ _ | refine blk_drew ?_ | refine blk_alloc ?_ _)); exact BK206.out) hb); have n2_ := Aside0.mk (blk_below (g := gb210) (o := .cells #[.int .i64 t207, .int .i64 t208] 32 (0, 0)) (by (with_reducible repeat (first | refine blk_drewN ?_ _ | refine blk_drew ?_ | refine blk_alloc ?_ _)); refine blk_put (cs := #[.int .i64 t207, .int .i64 0]) ?_ 1 _ rfl; (with_reducible repeat (first | refine blk_drewN ?_ _ | refine blk_drew ?_ | refine blk_alloc ?_ _)); refine blk_put (cs := #[.int .i64 0, .int .i64 0]) ?_ 0 _ rfl; (with_reducible repeat (first | refine blk_drewN ?_ _ | refine blk_drew ?_ | refine blk_alloc ?_ _)); exact BK210.out) hb); have n3_ := Aside0.mk (below_step (by repeat (first | (with_reducible first | exact HB.out | apply below_alloc | apply pw_below_drewN | apply below_drew1 | refine below_set ?_ GE202.out | refine below_set ?_ GE206.out | refine below_set ?_ GE210.out) | exact HB.out)) hb); clear BK202; clear BK206; clear BK210; clear HB; have BK202 := n0_; have BK206 := n1_; have BK210 := n2_; have HB := n3_; clear n0_ n1_ n2_ n3_; (try clear hb); (try clear hb2); (try clear hk); (try clear hi)) | ((with_reducible refine gate_dst (N := 12) rfl ?_); refine box_event ?hg (N := 12) ?hd (cs := #[.int .i64 0, .int .i64 0]) (t := 32) ?hr ?_; (case hd => rfl); (case hg => rfl); (case hr => first | (go_simp; done) | (go_simp; rfl)); intro gb214 hg w29 hbox hb; have n0_ := Aside0.mk (blk_below (g := gb202) (o := .cells #[.int .i64 t200, .int .i64 t201] 32 (0, 0)) (by (with_reducible repeat (first | refine blk_drewN ?_ _ | refine blk_drew ?_ | refine blk_alloc ?_ _)); exact BK202.out) hb); have n1_ := Aside0.mk (blk_below (g := gb206) (o := .cells #[.int .i64 t203, .int .i64 t204] 32 (0, 0)) (by (with_reducible repeat (first | refine blk_drewN ?_ _ | refine blk_drew ?_ | refine blk_alloc ?_ _)); exact BK206.out) hb); have n2_ := Aside0.mk (blk_below (g := gb210) (o := .cells #[.int .i64 t207, .int .i64 t208] 32 (0, 0)) (by (with_reducible repeat (first | refine blk_drewN ?_ _ | refine blk_drew ?_ | refine blk_alloc ?_ _)); exact BK210.out) hb); have n3_ := Aside0.mk (below_step (by repeat (first | (with_reducible first | exact HB.out | apply below_alloc | apply pw_below_drewN | apply below_drew1 | refine below_set ?_ GE202.out | refine below_set ?_ GE206.out | refine below_set ?_ GE210.out) | exact HB.out)) hb); have n4_ := Aside0.mk (hbox); have n5_ := Aside0.mk ((by rw [hg]; exact (below_size (by repeat (first | (with_reducible first | exact HB.out | apply below_alloc | apply pw_below_drewN | apply below_drew1 | refine below_set ?_ GE202.out | refine below_set ?_ GE206.out | refine below_set ?_ GE210.out) | exact HB.out))) : w.heap.size ≤ gb214)); have n6_ := Aside0.mk ((by rw [hg]; exact (below_size (by repeat (first | (with_reducible first | exact HB.out | apply below_alloc | apply pw_below_drewN | apply below_drew1 | refine below_set ?_ GE202.out | refine below_set ?_ GE206.out | refine below_set ?_ GE210.out) | exact HB.out))) : w.heap.size ≤ gb214)); have n7_ := Aside0.mk ((by rw [hg]; exact Nat.ne_of_lt (blk_lt (g := gb202) (o := .cells #[.int .i64 t200, .int .i64 t201] 32 (0, 0)) (by (with_reducible repeat (first | refine blk_drewN ?_ _ | refine blk_drew ?_ | refine blk_alloc ?_ _)); exact BK202.out)) : gb202 ≠ gb214)); have n8_ := Aside0.mk ((by rw [hg]; exact Nat.ne_of_gt (blk_lt (g := gb202) (o := .cells #[.int .i64 t200, .int .i64 t201] 32 (0, 0)) (by (with_reducible repeat (first | refine blk_drewN ?_ _ | refine blk_drew ?_ | refine blk_alloc ?_ _)); exact BK202.out)) : gb214 ≠ gb202)); have n9_ := Aside0.mk ((by rw [hg]; exact Nat.ne_of_lt (blk_lt (g := gb206) (o := .cells #[.int .i64 t203, .int .i64 t204] 32 (0, 0)) (by (with_reducible repeat (first | refine blk_drewN ?_ _ | refine blk_drew ?_ | refine blk_alloc ?_ _)); exact BK206.out)) : gb206 ≠ gb214)); have n10_ := Aside0.mk ((by rw [hg]; exact Nat.ne_of_gt (blk_lt (g := gb206) (o := .cells #[.int .i64 t203, .int .i64 t204] 32 (0, 0)) (by (with_reducible repeat (first | refine blk_drewN ?_ _ | refine blk_drew ?_ | refine blk_alloc ?_ _)); exact BK206.out)) : gb214 ≠ gb206)); have n11_ := Aside0.mk ((by rw [hg]; exact Nat.ne_of_lt (blk_lt (g := gb210) (o := .cells #[.int .i64 t207, .int .i64 t208] 32 (0, 0)) (by (with_reducible repeat (first | refine blk_drewN ?_ _ | refine blk_drew ?_ | refine blk_alloc ?_ _)); exact BK210.out)) : gb210 ≠ gb214)); have n12_ := Aside0.mk ((by rw [hg]; exact Nat.ne_of_gt (blk_lt (g := gb210) (o := .cells #[.int .i64 t207, .int .i64 t208] 32 (0, 0)) (by (with_reducible repeat (first | refine blk_drewN ?_ _ | refine blk_drew ?_ | refine blk_alloc ?_ _)); exact BK210.out)) : gb214 ≠ gb210)); clear BK202; clear BK206; clear BK210; clear HB; have BK202 := n0_; have BK206 := n1_; have BK210 := n2_; have HB := n3_; have BK214 := n4_; have GW214 := n5_; have GE214 := n6_; have NB202_214 := n7_; have NB214_202 := n8_; have NB206_214 := n9_; have NB214_206 := n10_; have NB210_214 := n11_; have NB214_210 := n12_; clear n0_ n1_ n2_ n3_ n4_ n5_ n6_ n7_ n8_ n9_ n10_ n11_ n12_; clear hb hbox hg; have hnb30 := NB214_202.out; have hnc30 := NB202_214.out; have hnb31 := NB214_206.out; have hnc31 := NB206_214.out; have hnb32 := NB214_210.out; have hnc32 := NB210_214.out; have hcz33_0 : w29.cell? ⟨gb214, 0, none⟩ = some (.int .i64 0) := (blk_cell BK214.out 0).trans rfl; have hcz33_1 : w29.cell? ⟨gb214, 1, none⟩ = some (.int .i64 0) := (blk_cell BK214.out 1).trans rfl; have hfz33_0 := blk_frozen BK214.out 0; have hfz33_1 := blk_frozen BK214.out 1; have hcz34_0 : w29.cell? ⟨gb206, 0, none⟩ = some (.int .i64 t203) := (blk_cell BK206.out 0).trans rfl; have hcz34_1 : w29.cell? ⟨gb206, 1, none⟩ = some (.int .i64 t204) := (blk_cell BK206.out 1).trans rfl; have hfz34_0 := blk_frozen BK206.out 0; have hfz34_1 := blk_frozen BK206.out 1) | ((with_reducible refine gate_callee (f := 16) rfl ?_); refine goesL_ (some 50) rfl rfl Try.func16 (by kernel_rfl) rfl #[.agg #[.int .i64 t203, .int .i64 t204]] rfl (by (try simp only [List.map_toArray, List.map_cons, List.map_nil]); first | done | rfl | (simp only [List.length_drop, List.length_take]; rfl)) ?_; (with_reducible refine (order_Parent.calls k t203 t204 t215 t216 t217 _ A13.out).mono ?_); rintro e w35 ⟨rfl, hb⟩; refine ⟨_, rfl, ?_⟩; have n0_ := Aside0.mk (blk_below (g := gb202) (o := .cells #[.int .i64 t200, .int .i64 t201] 32 (0, 0)) (by (with_reducible repeat (first | refine blk_drewN ?_ _ | refine blk_drew ?_ | refine blk_alloc ?_ _)); refine blk_far ?_ NB202_214.out _; (with_reducible repeat (first | refine blk_drewN ?_ _ | refine blk_drew ?_ | refine blk_alloc ?_ _)); refine blk_far ?_ NB202_214.out _; (with_reducible repeat (first | refine blk_drewN ?_ _ | refine blk_drew ?_ | refine blk_alloc ?_ _)); exact BK202.out) hb); have n1_ := Aside0.mk (blk_below (g := gb206) (o := .cells #[.int .i64 t203, .int .i64 t204] 32 (0, 0)) (by (with_reducible repeat (first | refine blk_drewN ?_ _ | refine blk_drew ?_ | refine blk_alloc ?_ _)); refine blk_far ?_ NB206_214.out _; (with_reducible repeat (first | refine blk_drewN ?_ _ | refine blk_drew ?_ | refine blk_alloc ?_ _)); refine blk_far ?_ NB206_214.out _; (with_reducible repeat (first | refine blk_drewN ?_ _ | refine blk_drew ?_ | refine blk_alloc ?_ _)); exact BK206.out) hb); have n2_ := Aside0.mk (blk_below (g := gb210) (o := .cells #[.int .i64 t207, .int .i64 t208] 32 (0, 0)) (by (with_reducible repeat (first | refine blk_drewN ?_ _ | refine blk_drew ?_ | refine blk_alloc ?_ _)); refine blk_far ?_ NB210_214.out _; (with_reducible repeat (first | refine blk_drewN ?_ _ | refine blk_drew ?_ | refine blk_alloc ?_ _)); refine blk_far ?_ NB210_214.out _; (with_reducible repeat (first | refine blk_drewN ?_ _ | refine blk_drew ?_ | refine blk_alloc ?_ _)); exact BK210.out) hb); have n3_ := Aside0.mk (blk_below (g := gb214) (o := .cells #[.int .i64 t211, .int .i64 t212] 32 (0, 0)) (by (with_reducible repeat (first | refine blk_drewN ?_ _ | refine blk_drew ?_ | refine blk_alloc ?_ _)); refine blk_put (cs := #[.int .i64 t211, .int .i64 0]) ?_ 1 _ rfl; (with_reducible repeat (first | refine blk_drewN ?_ _ | refine blk_drew ?_ | refine blk_alloc ?_ _)); refine blk_put (cs := #[.int .i64 0, .int .i64 0]) ?_ 0 _ rfl; (with_reducible repeat (first | refine blk_drewN ?_ _ | refine blk_drew ?_ | refine blk_alloc ?_ _)); exact BK214.out) hb); have n4_ := Aside0.mk (below_step (by repeat (first | (with_reducible first | exact HB.out | apply below_alloc | apply pw_below_drewN | apply below_drew1 | refine below_set ?_ GE202.out | refine below_set ?_ GE206.out | refine below_set ?_ GE210.out | refine below_set ?_ GE214.out) | exact HB.out)) hb); clear BK202; clear BK206; clear BK210; clear BK214; clear HB; have BK202 := n0_; have BK206 := n1_; have BK210 := n2_; have BK214 := n3_; have HB := n4_; clear n0_ n1_ n2_ n3_ n4_; (try clear hb); (try clear hb2); (try clear hk); (try clear hi)) | ((with_reducible refine gate_dst (N := 14) rfl ?_); refine box_event ?hg (N := 14) ?hd (cs := #[.int .i64 0, .int .i64 0]) (t := 32) ?hr ?_; (case hd => rfl); (case hg => rfl); (case hr => first | (go_simp; done) | (go_simp; rfl)); intro gb218 hg w36 hbox hb; have n0_ := Aside0.mk (blk_below (g := gb202) (o := .cells #[.int .i64 t200, .int .i64 t201] 32 (0, 0)) (by (with_reducible repeat (first | refine blk_drewN ?_ _ | refine blk_drew ?_ | refine blk_alloc ?_ _)); exact BK202.out) hb); have n1_ := Aside0.mk (blk_below (g := gb206) (o := .cells #[.int .i64 t203, .int .i64 t204] 32 (0, 0)) (by (with_reducible repeat (first | refine blk_drewN ?_ _ | refine blk_drew ?_ | refine blk_alloc ?_ _)); exact BK206.out) hb); have n2_ := Aside0.mk (blk_below (g := gb210) (o := .cells #[.int .i64 t207, .int .i64 t208] 32 (0, 0)) (by (with_reducible repeat (first | refine blk_drewN ?_ _ | refine blk_drew ?_ | refine blk_alloc ?_ _)); exact BK210.out) hb); have n3_ := Aside0.mk (blk_below (g := gb214) (o := .cells #[.int .i64 t211, .int .i64 t212] 32 (0, 0)) (by (with_reducible repeat (first | refine blk_drewN ?_ _ | refine blk_drew ?_ | refine blk_alloc ?_ _)); exact BK214.out) hb); have n4_ := Aside0.mk (below_step (by repeat (first | (with_reducible first | exact HB.out | apply below_alloc | apply pw_below_drewN | apply below_drew1 | refine below_set ?_ GE202.out | refine below_set ?_ GE206.out | refine below_set ?_ GE210.out | refine below_set ?_ GE214.out) | exact HB.out)) hb); have n5_ := Aside0.mk (hbox); have n6_ := Aside0.mk ((by rw [hg]; exact (below_size (by repeat (first | (with_reducible first | exact HB.out | apply below_alloc | apply pw_below_drewN | apply below_drew1 | refine below_set ?_ GE202.out | refine below_set ?_ GE206.out | refine below_set ?_ GE210.out | refine below_set ?_ GE214.out) | exact HB.out))) : w.heap.size ≤ gb218)); have n7_ := Aside0.mk ((by rw [hg]; exact (below_size (by repeat (first | (with_reducible first | exact HB.out | apply below_alloc | apply pw_below_drewN | apply below_drew1 | refine below_set ?_ GE202.out | refine below_set ?_ GE206.out | refine below_set ?_ GE210.out | refine below_set ?_ GE214.out) | exact HB.out))) : w.heap.size ≤ gb218)); have n8_ := Aside0.mk ((by rw [hg]; exact Nat.ne_of_lt (blk_lt (g := gb202) (o := .cells #[.int .i64 t200, .int .i64 t201] 32 (0, 0)) (by (with_reducible repeat (first | refine blk_drewN ?_ _ | refine blk_drew ?_ | refine blk_alloc ?_ _)); exact BK202.out)) : gb202 ≠ gb218)); have n9_ := Aside0.mk ((by rw [hg]; exact Nat.ne_of_gt (blk_lt (g := gb202) (o := .cells #[.int .i64 t200, .int .i64 t201] 32 (0, 0)) (by (with_reducible repeat (first | refine blk_drewN ?_ _ | refine blk_drew ?_ | refine blk_alloc ?_ _)); exact BK202.out)) : gb218 ≠ gb202)); have n10_ := Aside0.mk ((by rw [hg]; exact Nat.ne_of_lt (blk_lt (g := gb206) (o := .cells #[.int .i64 t203, .int .i64 t204] 32 (0, 0)) (by (with_reducible repeat (first | refine blk_drewN ?_ _ | refine blk_drew ?_ | refine blk_alloc ?_ _)); exact BK206.out)) : gb206 ≠ gb218)); have n11_ := Aside0.mk ((by rw [hg]; exact Nat.ne_of_gt (blk_lt (g := gb206) (o := .cells #[.int .i64 t203, .int .i64 t204] 32 (0, 0)) (by (with_reducible repeat (first | refine blk_drewN ?_ _ | refine blk_drew ?_ | refine blk_alloc ?_ _)); exact BK206.out)) : gb218 ≠ gb206)); have n12_ := Aside0.mk ((by rw [hg]; exact Nat.ne_of_lt (blk_lt (g := gb210) (o := .cells #[.int .i64 t207, .int .i64 t208] 32 (0, 0)) (by (with_reducible repeat (first | refine blk_drewN ?_ _ | refine blk_drew ?_ | refine blk_alloc ?_ _)); exact BK210.out)) : gb210 ≠ gb218)); have n13_ := Aside0.mk ((by rw [hg]; exact Nat.ne_of_gt (blk_lt (g := gb210) (o := .cells #[.int .i64 t207, .int .i64 t208] 32 (0, 0)) (by (with_reducible repeat (first | refine blk_drewN ?_ _ | refine blk_drew ?_ | refine blk_alloc ?_ _)); exact BK210.out)) : gb218 ≠ gb210)); have n14_ := Aside0.mk ((by rw [hg]; exact Nat.ne_of_lt (blk_lt (g := gb214) (o := .cells #[.int .i64 t211, .int .i64 t212] 32 (0, 0)) (by (with_reducible repeat (first | refine blk_drewN ?_ _ | refine blk_drew ?_ | refine blk_alloc ?_ _)); exact BK214.out)) : gb214 ≠ gb218)); have n15_ := Aside0.mk ((by rw [hg]; exact Nat.ne_of_gt (blk_lt (g := gb214) (o := .cells #[.int .i64 t211, .int .i64 t212] 32 (0, 0)) (by (with_reducible repeat (first | refine blk_drewN ?_ _ | refine blk_drew ?_ | refine blk_alloc ?_ _)); exact BK214.out)) : gb218 ≠ gb214)); clear BK202; clear BK206; clear BK210; clear BK214; clear HB; have BK202 := n0_; have BK206 := n1_; have BK210 := n2_; have BK214 := n3_; have HB := n4_; have BK218 := n5_; have GW218 := n6_; have GE218 := n7_; have NB202_218 := n8_; have NB218_202 := n9_; have NB206_218 := n10_; have NB218_206 := n11_; have NB210_218 := n12_; have NB218_210 := n13_; have NB214_218 := n14_; have NB218_214 := n15_; clear n0_ n1_ n2_ n3_ n4_ n5_ n6_ n7_ n8_ n9_ n10_ n11_ n12_ n13_ n14_ n15_; clear hb hbox hg; have hnb37 := NB218_202.out; have hnc37 := NB202_218.out; have hnb38 := NB218_206.out; have hnc38 := NB206_218.out; have hnb39 := NB218_210.out; have hnc39 := NB210_218.out; have hnb40 := NB218_214.out; have hnc40 := NB214_218.out; have hcz41_0 : w36.cell? ⟨gb218, 0, none⟩ = some (.int .i64 0) := (blk_cell BK218.out 0).trans rfl; have hcz41_1 : w36.cell? ⟨gb218, 1, none⟩ = some (.int .i64 0) := (blk_cell BK218.out 1).trans rfl; have hfz41_0 := blk_frozen BK218.out 0; have hfz41_1 := blk_frozen BK218.out 1))
      (try simp only [Act.put, List.setIfInBounds_toArray, List.set_cons_zero, List.set_cons_succ])
      go_cut [88] (fun v88 wc => ∃ (kq : Nat) (x88_13 : Bool), v88 = .bool x88_13 ∧ Aside0 (headgatelaw08_OrderPairs.j0 kq x88_13 t200 t201 t203 t204 t211 t212 = some r) ∧ Aside0 (kq ≤ k) ∧ Aside0 (wc.heap[gb202]? = some (.cells #[.int .i64 t200, .int .i64 t201] 32 (0, 0))) ∧ Aside0 (wc.heap[gb206]? = some (.cells #[.int .i64 t203, .int .i64 t204] 32 (0, 0))) ∧ Aside0 (wc.heap[gb210]? = some (.cells #[.int .i64 t207, .int .i64 t208] 32 (0, 0))) ∧ Aside0 (wc.heap[gb214]? = some (.cells #[.int .i64 t211, .int .i64 t212] 32 (0, 0))) ∧ Aside0 (wc.heap[gb218]? = some (.cells #[.int .i64 t215, .int .i64 t216] 32 (0, 0))) ∧ Aside0 (Below w.heap.size w wc))
      case first =>
        have H := HC14.out
        clear HC14
        by_cases c42 : t205 = 0
        · rw [if_pos c42] at H
          have c42b0 : (t205 == 0) = true := beq_iff_eq.mpr c42
          have c42b1 : (t205 != 0) = false := bne_eq_false_iff_eq.mpr c42
          clear c42
          (first | rw [c42b0] | (simp only [i64_w, i32_w]; rw [c42b0]) | skip)
          by_cases c43 : t209 = 0
          · rw [if_pos c43] at H
            have c43b0 : (t209 == 0) = true := beq_iff_eq.mpr c43
            have c43b1 : (t209 != 0) = false := bne_eq_false_iff_eq.mpr c43
            clear c43
            by_cases c44 : t213 = 0
            · rw [if_pos c44] at H
              have c44b0 : (t213 == 0) = true := beq_iff_eq.mpr c44
              have c44b1 : (t213 != 0) = false := bne_eq_false_iff_eq.mpr c44
              clear c44
              by_cases c45 : t217 = 0
              · rw [if_pos c45] at H
                have c45b0 : (t217 == 0) = true := beq_iff_eq.mpr c45
                have c45b1 : (t217 != 0) = false := bne_eq_false_iff_eq.mpr c45
                clear c45
                by_cases c46 : (!(t207 == t200) || (!(t208 == t201))) = true
                · rw [if_pos c46] at H
                  have c46b0 : (!(t207 == t200) || (!(t208 == t201))) = true := c46
                  clear c46
                  have H' := Aside0.mk H
                  clear H
                  have hnb47 := NB210_202.out
                  have hnc47 := NB202_210.out
                  have hnb48 := NB210_206.out
                  have hnc48 := NB206_210.out
                  have hnb49 := NB210_214.out
                  have hnc49 := NB214_210.out
                  have hnb50 := NB210_218.out
                  have hnc50 := NB218_210.out
                  have hcz51_0 : w36.cell? ⟨gb210, 0, none⟩ = some (.int .i64 t207) := (blk_cell BK210.out 0).trans rfl
                  have hcz51_1 : w36.cell? ⟨gb210, 1, none⟩ = some (.int .i64 t208) := (blk_cell BK210.out 1).trans rfl
                  have hfz51_0 := blk_frozen BK210.out 0
                  have hfz51_1 := blk_frozen BK210.out 1
                  have hnb52 := NB202_206.out
                  have hnc52 := NB206_202.out
                  have hnb53 := NB202_214.out
                  have hnc53 := NB214_202.out
                  have hnb54 := NB202_218.out
                  have hnc54 := NB218_202.out
                  have hcz55_0 : w36.cell? ⟨gb202, 0, none⟩ = some (.int .i64 t200) := (blk_cell BK202.out 0).trans rfl
                  have hcz55_1 : w36.cell? ⟨gb202, 1, none⟩ = some (.int .i64 t201) := (blk_cell BK202.out 1).trans rfl
                  have hfz55_0 := blk_frozen BK202.out 0
                  have hfz55_1 := blk_frozen BK202.out 1
                  go_wp2
                  go_meet
                  case rel => exact ⟨_, (true), (by first | rfl | (simp; done) | (simp [*]; done)), H', ⟨by first | omega | exact Nat.le_refl _⟩, ⟨by (with_reducible repeat (first | refine blk_drewN ?_ _ | refine blk_drew ?_ | refine blk_alloc ?_ _)); refine blk_far ?_ NB202_218.out _; (with_reducible repeat (first | refine blk_drewN ?_ _ | refine blk_drew ?_ | refine blk_alloc ?_ _)); refine blk_far ?_ NB202_218.out _; (with_reducible repeat (first | refine blk_drewN ?_ _ | refine blk_drew ?_ | refine blk_alloc ?_ _)); exact BK202.out⟩, ⟨by (with_reducible repeat (first | refine blk_drewN ?_ _ | refine blk_drew ?_ | refine blk_alloc ?_ _)); refine blk_far ?_ NB206_218.out _; (with_reducible repeat (first | refine blk_drewN ?_ _ | refine blk_drew ?_ | refine blk_alloc ?_ _)); refine blk_far ?_ NB206_218.out _; (with_reducible repeat (first | refine blk_drewN ?_ _ | refine blk_drew ?_ | refine blk_alloc ?_ _)); exact BK206.out⟩, ⟨by (with_reducible repeat (first | refine blk_drewN ?_ _ | refine blk_drew ?_ | refine blk_alloc ?_ _)); refine blk_far ?_ NB210_218.out _; (with_reducible repeat (first | refine blk_drewN ?_ _ | refine blk_drew ?_ | refine blk_alloc ?_ _)); refine blk_far ?_ NB210_218.out _; (with_reducible repeat (first | refine blk_drewN ?_ _ | refine blk_drew ?_ | refine blk_alloc ?_ _)); exact BK210.out⟩, ⟨by (with_reducible repeat (first | refine blk_drewN ?_ _ | refine blk_drew ?_ | refine blk_alloc ?_ _)); refine blk_far ?_ NB214_218.out _; (with_reducible repeat (first | refine blk_drewN ?_ _ | refine blk_drew ?_ | refine blk_alloc ?_ _)); refine blk_far ?_ NB214_218.out _; (with_reducible repeat (first | refine blk_drewN ?_ _ | refine blk_drew ?_ | refine blk_alloc ?_ _)); exact BK214.out⟩, ⟨by (with_reducible repeat (first | refine blk_drewN ?_ _ | refine blk_drew ?_ | refine blk_alloc ?_ _)); refine blk_put (cs := #[.int .i64 t215, .int .i64 0]) ?_ 1 _ rfl; (with_reducible repeat (first | refine blk_drewN ?_ _ | refine blk_drew ?_ | refine blk_alloc ?_ _)); refine blk_put (cs := #[.int .i64 0, .int .i64 0]) ?_ 0 _ rfl; (with_reducible repeat (first | refine blk_drewN ?_ _ | refine blk_drew ?_ | refine blk_alloc ?_ _)); exact BK218.out⟩, ⟨by repeat (first | (with_reducible first | exact HB.out | apply below_alloc | apply pw_below_drewN | apply below_drew1 | refine below_set ?_ GE202.out | refine below_set ?_ GE206.out | refine below_set ?_ GE210.out | refine below_set ?_ GE214.out | refine below_set ?_ GE218.out) | exact HB.out)⟩⟩
                · rw [if_neg c46] at H
                  have c46b0 : (!(t207 == t200) || (!(t208 == t201))) = false := by simpa using c46
                  clear c46
                  by_cases c56 : (!(t211 == t215) || (!(t212 == t216))) = true
                  · rw [if_pos c56] at H
                    have c56b0 : (!(t211 == t215) || (!(t212 == t216))) = true := c56
                    clear c56
                    have H' := Aside0.mk H
                    clear H
                    have hnb57 := NB210_202.out
                    have hnc57 := NB202_210.out
                    have hnb58 := NB210_206.out
                    have hnc58 := NB206_210.out
                    have hnb59 := NB210_214.out
                    have hnc59 := NB214_210.out
                    have hnb60 := NB210_218.out
                    have hnc60 := NB218_210.out
                    have hcz61_0 : w36.cell? ⟨gb210, 0, none⟩ = some (.int .i64 t207) := (blk_cell BK210.out 0).trans rfl
                    have hcz61_1 : w36.cell? ⟨gb210, 1, none⟩ = some (.int .i64 t208) := (blk_cell BK210.out 1).trans rfl
                    have hfz61_0 := blk_frozen BK210.out 0
                    have hfz61_1 := blk_frozen BK210.out 1
                    have hnb62 := NB202_206.out
                    have hnc62 := NB206_202.out
                    have hnb63 := NB202_214.out
                    have hnc63 := NB214_202.out
                    have hnb64 := NB202_218.out
                    have hnc64 := NB218_202.out
                    have hcz65_0 : w36.cell? ⟨gb202, 0, none⟩ = some (.int .i64 t200) := (blk_cell BK202.out 0).trans rfl
                    have hcz65_1 : w36.cell? ⟨gb202, 1, none⟩ = some (.int .i64 t201) := (blk_cell BK202.out 1).trans rfl
                    have hfz65_0 := blk_frozen BK202.out 0
                    have hfz65_1 := blk_frozen BK202.out 1
                    have hnb66 := NB214_206.out
                    have hnc66 := NB206_214.out
                    have hnb67 := NB214_218.out
                    have hnc67 := NB218_214.out
                    have hcz68_0 : w36.cell? ⟨gb214, 0, none⟩ = some (.int .i64 t211) := (blk_cell BK214.out 0).trans rfl
                    have hcz68_1 : w36.cell? ⟨gb214, 1, none⟩ = some (.int .i64 t212) := (blk_cell BK214.out 1).trans rfl
                    have hfz68_0 := blk_frozen BK214.out 0
                    have hfz68_1 := blk_frozen BK214.out 1
                    have hnb69 := NB218_206.out
                    have hnc69 := NB206_218.out
                    have hcz70_0 : w36.cell? ⟨gb218, 0, none⟩ = some (.int .i64 0) := (blk_cell BK218.out 0).trans rfl
                    have hcz70_1 : w36.cell? ⟨gb218, 1, none⟩ = some (.int .i64 0) := (blk_cell BK218.out 1).trans rfl
                    have hfz70_0 := blk_frozen BK218.out 0
                    have hfz70_1 := blk_frozen BK218.out 1
                    go_wp2
                    go_meet
                    case rel => exact ⟨_, (true), (by first | rfl | (simp; done) | (simp [*]; done)), H', ⟨by first | omega | exact Nat.le_refl _⟩, ⟨by (with_reducible repeat (first | refine blk_drewN ?_ _ | refine blk_drew ?_ | refine blk_alloc ?_ _)); refine blk_far ?_ NB202_218.out _; (with_reducible repeat (first | refine blk_drewN ?_ _ | refine blk_drew ?_ | refine blk_alloc ?_ _)); refine blk_far ?_ NB202_218.out _; (with_reducible repeat (first | refine blk_drewN ?_ _ | refine blk_drew ?_ | refine blk_alloc ?_ _)); exact BK202.out⟩, ⟨by (with_reducible repeat (first | refine blk_drewN ?_ _ | refine blk_drew ?_ | refine blk_alloc ?_ _)); refine blk_far ?_ NB206_218.out _; (with_reducible repeat (first | refine blk_drewN ?_ _ | refine blk_drew ?_ | refine blk_alloc ?_ _)); refine blk_far ?_ NB206_218.out _; (with_reducible repeat (first | refine blk_drewN ?_ _ | refine blk_drew ?_ | refine blk_alloc ?_ _)); exact BK206.out⟩, ⟨by (with_reducible repeat (first | refine blk_drewN ?_ _ | refine blk_drew ?_ | refine blk_alloc ?_ _)); refine blk_far ?_ NB210_218.out _; (with_reducible repeat (first | refine blk_drewN ?_ _ | refine blk_drew ?_ | refine blk_alloc ?_ _)); refine blk_far ?_ NB210_218.out _; (with_reducible repeat (first | refine blk_drewN ?_ _ | refine blk_drew ?_ | refine blk_alloc ?_ _)); exact BK210.out⟩, ⟨by (with_reducible repeat (first | refine blk_drewN ?_ _ | refine blk_drew ?_ | refine blk_alloc ?_ _)); refine blk_far ?_ NB214_218.out _; (with_reducible repeat (first | refine blk_drewN ?_ _ | refine blk_drew ?_ | refine blk_alloc ?_ _)); refine blk_far ?_ NB214_218.out _; (with_reducible repeat (first | refine blk_drewN ?_ _ | refine blk_drew ?_ | refine blk_alloc ?_ _)); exact BK214.out⟩, ⟨by (with_reducible repeat (first | refine blk_drewN ?_ _ | refine blk_drew ?_ | refine blk_alloc ?_ _)); refine blk_put (cs := #[.int .i64 t215, .int .i64 0]) ?_ 1 _ rfl; (with_reducible repeat (first | refine blk_drewN ?_ _ | refine blk_drew ?_ | refine blk_alloc ?_ _)); refine blk_put (cs := #[.int .i64 0, .int .i64 0]) ?_ 0 _ rfl; (with_reducible repeat (first | refine blk_drewN ?_ _ | refine blk_drew ?_ | refine blk_alloc ?_ _)); exact BK218.out⟩, ⟨by repeat (first | (with_reducible first | exact HB.out | apply below_alloc | apply pw_below_drewN | apply below_drew1 | refine below_set ?_ GE202.out | refine below_set ?_ GE206.out | refine below_set ?_ GE210.out | refine below_set ?_ GE214.out | refine below_set ?_ GE218.out) | exact HB.out)⟩⟩
                  · rw [if_neg c56] at H
                    have c56b0 : (!(t211 == t215) || (!(t212 == t216))) = false := by simpa using c56
                    clear c56
                    by_cases c71 : t212 = (wrap64 (t198 + 1))
                    · rw [if_pos c71] at H
                      have c71b0 : (t212 == (wrap64 (t198 + 1))) = true := beq_iff_eq.mpr c71
                      have c71b1 : (t212 != (wrap64 (t198 + 1))) = false := bne_eq_false_iff_eq.mpr c71
                      clear c71
                      have H' := Aside0.mk H
                      clear H
                      have hnb72 := NB210_202.out
                      have hnc72 := NB202_210.out
                      have hnb73 := NB210_206.out
                      have hnc73 := NB206_210.out
                      have hnb74 := NB210_214.out
                      have hnc74 := NB214_210.out
                      have hnb75 := NB210_218.out
                      have hnc75 := NB218_210.out
                      have hcz76_0 : w36.cell? ⟨gb210, 0, none⟩ = some (.int .i64 t207) := (blk_cell BK210.out 0).trans rfl
                      have hcz76_1 : w36.cell? ⟨gb210, 1, none⟩ = some (.int .i64 t208) := (blk_cell BK210.out 1).trans rfl
                      have hfz76_0 := blk_frozen BK210.out 0
                      have hfz76_1 := blk_frozen BK210.out 1
                      have hnb77 := NB202_206.out
                      have hnc77 := NB206_202.out
                      have hnb78 := NB202_214.out
                      have hnc78 := NB214_202.out
                      have hnb79 := NB202_218.out
                      have hnc79 := NB218_202.out
                      have hcz80_0 : w36.cell? ⟨gb202, 0, none⟩ = some (.int .i64 t200) := (blk_cell BK202.out 0).trans rfl
                      have hcz80_1 : w36.cell? ⟨gb202, 1, none⟩ = some (.int .i64 t201) := (blk_cell BK202.out 1).trans rfl
                      have hfz80_0 := blk_frozen BK202.out 0
                      have hfz80_1 := blk_frozen BK202.out 1
                      have hnb81 := NB214_206.out
                      have hnc81 := NB206_214.out
                      have hnb82 := NB214_218.out
                      have hnc82 := NB218_214.out
                      have hcz83_0 : w36.cell? ⟨gb214, 0, none⟩ = some (.int .i64 t211) := (blk_cell BK214.out 0).trans rfl
                      have hcz83_1 : w36.cell? ⟨gb214, 1, none⟩ = some (.int .i64 t212) := (blk_cell BK214.out 1).trans rfl
                      have hfz83_0 := blk_frozen BK214.out 0
                      have hfz83_1 := blk_frozen BK214.out 1
                      have hnb84 := NB218_206.out
                      have hnc84 := NB206_218.out
                      have hcz85_0 : w36.cell? ⟨gb218, 0, none⟩ = some (.int .i64 0) := (blk_cell BK218.out 0).trans rfl
                      have hcz85_1 : w36.cell? ⟨gb218, 1, none⟩ = some (.int .i64 0) := (blk_cell BK218.out 1).trans rfl
                      have hfz85_0 := blk_frozen BK218.out 0
                      have hfz85_1 := blk_frozen BK218.out 1
                      have hcz86_0 : w36.cell? ⟨gb206, 0, none⟩ = some (.int .i64 t203) := (blk_cell BK206.out 0).trans rfl
                      have hcz86_1 : w36.cell? ⟨gb206, 1, none⟩ = some (.int .i64 t204) := (blk_cell BK206.out 1).trans rfl
                      have hfz86_0 := blk_frozen BK206.out 0
                      have hfz86_1 := blk_frozen BK206.out 1
                      go_wp2
                      go_meet
                      case rel => exact ⟨_, ((t203 == t200 && (t204 == t201))), (by first | rfl | (simp; done) | (simp [*]; done)), H', ⟨by first | omega | exact Nat.le_refl _⟩, ⟨by (with_reducible repeat (first | refine blk_drewN ?_ _ | refine blk_drew ?_ | refine blk_alloc ?_ _)); refine blk_far ?_ NB202_218.out _; (with_reducible repeat (first | refine blk_drewN ?_ _ | refine blk_drew ?_ | refine blk_alloc ?_ _)); refine blk_far ?_ NB202_218.out _; (with_reducible repeat (first | refine blk_drewN ?_ _ | refine blk_drew ?_ | refine blk_alloc ?_ _)); exact BK202.out⟩, ⟨by (with_reducible repeat (first | refine blk_drewN ?_ _ | refine blk_drew ?_ | refine blk_alloc ?_ _)); refine blk_far ?_ NB206_218.out _; (with_reducible repeat (first | refine blk_drewN ?_ _ | refine blk_drew ?_ | refine blk_alloc ?_ _)); refine blk_far ?_ NB206_218.out _; (with_reducible repeat (first | refine blk_drewN ?_ _ | refine blk_drew ?_ | refine blk_alloc ?_ _)); exact BK206.out⟩, ⟨by (with_reducible repeat (first | refine blk_drewN ?_ _ | refine blk_drew ?_ | refine blk_alloc ?_ _)); refine blk_far ?_ NB210_218.out _; (with_reducible repeat (first | refine blk_drewN ?_ _ | refine blk_drew ?_ | refine blk_alloc ?_ _)); refine blk_far ?_ NB210_218.out _; (with_reducible repeat (first | refine blk_drewN ?_ _ | refine blk_drew ?_ | refine blk_alloc ?_ _)); exact BK210.out⟩, ⟨by (with_reducible repeat (first | refine blk_drewN ?_ _ | refine blk_drew ?_ | refine blk_alloc ?_ _)); refine blk_far ?_ NB214_218.out _; (with_reducible repeat (first | refine blk_drewN ?_ _ | refine blk_drew ?_ | refine blk_alloc ?_ _)); refine blk_far ?_ NB214_218.out _; (with_reducible repeat (first | refine blk_drewN ?_ _ | refine blk_drew ?_ | refine blk_alloc ?_ _)); exact BK214.out⟩, ⟨by (with_reducible repeat (first | refine blk_drewN ?_ _ | refine blk_drew ?_ | refine blk_alloc ?_ _)); refine blk_put (cs := #[.int .i64 t215, .int .i64 0]) ?_ 1 _ rfl; (with_reducible repeat (first | refine blk_drewN ?_ _ | refine blk_drew ?_ | refine blk_alloc ?_ _)); refine blk_put (cs := #[.int .i64 0, .int .i64 0]) ?_ 0 _ rfl; (with_reducible repeat (first | refine blk_drewN ?_ _ | refine blk_drew ?_ | refine blk_alloc ?_ _)); exact BK218.out⟩, ⟨by repeat (first | (with_reducible first | exact HB.out | apply below_alloc | apply pw_below_drewN | apply below_drew1 | refine below_set ?_ GE202.out | refine below_set ?_ GE206.out | refine below_set ?_ GE210.out | refine below_set ?_ GE214.out | refine below_set ?_ GE218.out) | exact HB.out)⟩⟩
                    · rw [if_neg c71] at H
                      have c71b0 : (t212 == (wrap64 (t198 + 1))) = false := beq_eq_false_iff_ne.mpr c71
                      have c71b1 : (t212 != (wrap64 (t198 + 1))) = true := bne_iff_ne.mpr c71
                      have H' := Aside0.mk H
                      clear H
                      have hnb87 := NB210_202.out
                      have hnc87 := NB202_210.out
                      have hnb88 := NB210_206.out
                      have hnc88 := NB206_210.out
                      have hnb89 := NB210_214.out
                      have hnc89 := NB214_210.out
                      have hnb90 := NB210_218.out
                      have hnc90 := NB218_210.out
                      have hcz91_0 : w36.cell? ⟨gb210, 0, none⟩ = some (.int .i64 t207) := (blk_cell BK210.out 0).trans rfl
                      have hcz91_1 : w36.cell? ⟨gb210, 1, none⟩ = some (.int .i64 t208) := (blk_cell BK210.out 1).trans rfl
                      have hfz91_0 := blk_frozen BK210.out 0
                      have hfz91_1 := blk_frozen BK210.out 1
                      have hnb92 := NB202_206.out
                      have hnc92 := NB206_202.out
                      have hnb93 := NB202_214.out
                      have hnc93 := NB214_202.out
                      have hnb94 := NB202_218.out
                      have hnc94 := NB218_202.out
                      have hcz95_0 : w36.cell? ⟨gb202, 0, none⟩ = some (.int .i64 t200) := (blk_cell BK202.out 0).trans rfl
                      have hcz95_1 : w36.cell? ⟨gb202, 1, none⟩ = some (.int .i64 t201) := (blk_cell BK202.out 1).trans rfl
                      have hfz95_0 := blk_frozen BK202.out 0
                      have hfz95_1 := blk_frozen BK202.out 1
                      have hnb96 := NB214_206.out
                      have hnc96 := NB206_214.out
                      have hnb97 := NB214_218.out
                      have hnc97 := NB218_214.out
                      have hcz98_0 : w36.cell? ⟨gb214, 0, none⟩ = some (.int .i64 t211) := (blk_cell BK214.out 0).trans rfl
                      have hcz98_1 : w36.cell? ⟨gb214, 1, none⟩ = some (.int .i64 t212) := (blk_cell BK214.out 1).trans rfl
                      have hfz98_0 := blk_frozen BK214.out 0
                      have hfz98_1 := blk_frozen BK214.out 1
                      have hnb99 := NB218_206.out
                      have hnc99 := NB206_218.out
                      have hcz100_0 : w36.cell? ⟨gb218, 0, none⟩ = some (.int .i64 0) := (blk_cell BK218.out 0).trans rfl
                      have hcz100_1 : w36.cell? ⟨gb218, 1, none⟩ = some (.int .i64 0) := (blk_cell BK218.out 1).trans rfl
                      have hfz100_0 := blk_frozen BK218.out 0
                      have hfz100_1 := blk_frozen BK218.out 1
                      go_wp2
                      go_meet
                      case rel => exact ⟨_, (true), (by first | rfl | (simp; done) | (simp [*]; done)), H', ⟨by first | omega | exact Nat.le_refl _⟩, ⟨by (with_reducible repeat (first | refine blk_drewN ?_ _ | refine blk_drew ?_ | refine blk_alloc ?_ _)); refine blk_far ?_ NB202_218.out _; (with_reducible repeat (first | refine blk_drewN ?_ _ | refine blk_drew ?_ | refine blk_alloc ?_ _)); refine blk_far ?_ NB202_218.out _; (with_reducible repeat (first | refine blk_drewN ?_ _ | refine blk_drew ?_ | refine blk_alloc ?_ _)); exact BK202.out⟩, ⟨by (with_reducible repeat (first | refine blk_drewN ?_ _ | refine blk_drew ?_ | refine blk_alloc ?_ _)); refine blk_far ?_ NB206_218.out _; (with_reducible repeat (first | refine blk_drewN ?_ _ | refine blk_drew ?_ | refine blk_alloc ?_ _)); refine blk_far ?_ NB206_218.out _; (with_reducible repeat (first | refine blk_drewN ?_ _ | refine blk_drew ?_ | refine blk_alloc ?_ _)); exact BK206.out⟩, ⟨by (with_reducible repeat (first | refine blk_drewN ?_ _ | refine blk_drew ?_ | refine blk_alloc ?_ _)); refine blk_far ?_ NB210_218.out _; (with_reducible repeat (first | refine blk_drewN ?_ _ | refine blk_drew ?_ | refine blk_alloc ?_ _)); refine blk_far ?_ NB210_218.out _; (with_reducible repeat (first | refine blk_drewN ?_ _ | refine blk_drew ?_ | refine blk_alloc ?_ _)); exact BK210.out⟩, ⟨by (with_reducible repeat (first | refine blk_drewN ?_ _ | refine blk_drew ?_ | refine blk_alloc ?_ _)); refine blk_far ?_ NB214_218.out _; (with_reducible repeat (first | refine blk_drewN ?_ _ | refine blk_drew ?_ | refine blk_alloc ?_ _)); refine blk_far ?_ NB214_218.out _; (with_reducible repeat (first | refine blk_drewN ?_ _ | refine blk_drew ?_ | refine blk_alloc ?_ _)); exact BK214.out⟩, ⟨by (with_reducible repeat (first | refine blk_drewN ?_ _ | refine blk_drew ?_ | refine blk_alloc ?_ _)); refine blk_put (cs := #[.int .i64 t215, .int .i64 0]) ?_ 1 _ rfl; (with_reducible repeat (first | refine blk_drewN ?_ _ | refine blk_drew ?_ | refine blk_alloc ?_ _)); refine blk_put (cs := #[.int .i64 0, .int .i64 0]) ?_ 0 _ rfl; (with_reducible repeat (first | refine blk_drewN ?_ _ | refine blk_drew ?_ | refine blk_alloc ?_ _)); exact BK218.out⟩, ⟨by repeat (first | (with_reducible first | exact HB.out | apply below_alloc | apply pw_below_drewN | apply below_drew1 | refine below_set ?_ GE202.out | refine below_set ?_ GE206.out | refine below_set ?_ GE210.out | refine below_set ?_ GE214.out | refine below_set ?_ GE218.out) | exact HB.out)⟩⟩
              · rw [if_neg c45] at H
                have c45b0 : (t217 == 0) = false := beq_eq_false_iff_ne.mpr c45
                have c45b1 : (t217 != 0) = true := bne_iff_ne.mpr c45
                have H' := Aside0.mk H
                clear H
                go_wp2
                go_meet
                case rel => exact ⟨_, (true), (by first | rfl | (simp; done) | (simp [*]; done)), H', ⟨by first | omega | exact Nat.le_refl _⟩, ⟨by (with_reducible repeat (first | refine blk_drewN ?_ _ | refine blk_drew ?_ | refine blk_alloc ?_ _)); refine blk_far ?_ NB202_218.out _; (with_reducible repeat (first | refine blk_drewN ?_ _ | refine blk_drew ?_ | refine blk_alloc ?_ _)); refine blk_far ?_ NB202_218.out _; (with_reducible repeat (first | refine blk_drewN ?_ _ | refine blk_drew ?_ | refine blk_alloc ?_ _)); exact BK202.out⟩, ⟨by (with_reducible repeat (first | refine blk_drewN ?_ _ | refine blk_drew ?_ | refine blk_alloc ?_ _)); refine blk_far ?_ NB206_218.out _; (with_reducible repeat (first | refine blk_drewN ?_ _ | refine blk_drew ?_ | refine blk_alloc ?_ _)); refine blk_far ?_ NB206_218.out _; (with_reducible repeat (first | refine blk_drewN ?_ _ | refine blk_drew ?_ | refine blk_alloc ?_ _)); exact BK206.out⟩, ⟨by (with_reducible repeat (first | refine blk_drewN ?_ _ | refine blk_drew ?_ | refine blk_alloc ?_ _)); refine blk_far ?_ NB210_218.out _; (with_reducible repeat (first | refine blk_drewN ?_ _ | refine blk_drew ?_ | refine blk_alloc ?_ _)); refine blk_far ?_ NB210_218.out _; (with_reducible repeat (first | refine blk_drewN ?_ _ | refine blk_drew ?_ | refine blk_alloc ?_ _)); exact BK210.out⟩, ⟨by (with_reducible repeat (first | refine blk_drewN ?_ _ | refine blk_drew ?_ | refine blk_alloc ?_ _)); refine blk_far ?_ NB214_218.out _; (with_reducible repeat (first | refine blk_drewN ?_ _ | refine blk_drew ?_ | refine blk_alloc ?_ _)); refine blk_far ?_ NB214_218.out _; (with_reducible repeat (first | refine blk_drewN ?_ _ | refine blk_drew ?_ | refine blk_alloc ?_ _)); exact BK214.out⟩, ⟨by (with_reducible repeat (first | refine blk_drewN ?_ _ | refine blk_drew ?_ | refine blk_alloc ?_ _)); refine blk_put (cs := #[.int .i64 t215, .int .i64 0]) ?_ 1 _ rfl; (with_reducible repeat (first | refine blk_drewN ?_ _ | refine blk_drew ?_ | refine blk_alloc ?_ _)); refine blk_put (cs := #[.int .i64 0, .int .i64 0]) ?_ 0 _ rfl; (with_reducible repeat (first | refine blk_drewN ?_ _ | refine blk_drew ?_ | refine blk_alloc ?_ _)); exact BK218.out⟩, ⟨by repeat (first | (with_reducible first | exact HB.out | apply below_alloc | apply pw_below_drewN | apply below_drew1 | refine below_set ?_ GE202.out | refine below_set ?_ GE206.out | refine below_set ?_ GE210.out | refine below_set ?_ GE214.out | refine below_set ?_ GE218.out) | exact HB.out)⟩⟩
            · rw [if_neg c44] at H
              have c44b0 : (t213 == 0) = false := beq_eq_false_iff_ne.mpr c44
              have c44b1 : (t213 != 0) = true := bne_iff_ne.mpr c44
              have H' := Aside0.mk H
              clear H
              go_wp2
              go_meet
              case rel => exact ⟨_, (true), (by first | rfl | (simp; done) | (simp [*]; done)), H', ⟨by first | omega | exact Nat.le_refl _⟩, ⟨by (with_reducible repeat (first | refine blk_drewN ?_ _ | refine blk_drew ?_ | refine blk_alloc ?_ _)); refine blk_far ?_ NB202_218.out _; (with_reducible repeat (first | refine blk_drewN ?_ _ | refine blk_drew ?_ | refine blk_alloc ?_ _)); refine blk_far ?_ NB202_218.out _; (with_reducible repeat (first | refine blk_drewN ?_ _ | refine blk_drew ?_ | refine blk_alloc ?_ _)); exact BK202.out⟩, ⟨by (with_reducible repeat (first | refine blk_drewN ?_ _ | refine blk_drew ?_ | refine blk_alloc ?_ _)); refine blk_far ?_ NB206_218.out _; (with_reducible repeat (first | refine blk_drewN ?_ _ | refine blk_drew ?_ | refine blk_alloc ?_ _)); refine blk_far ?_ NB206_218.out _; (with_reducible repeat (first | refine blk_drewN ?_ _ | refine blk_drew ?_ | refine blk_alloc ?_ _)); exact BK206.out⟩, ⟨by (with_reducible repeat (first | refine blk_drewN ?_ _ | refine blk_drew ?_ | refine blk_alloc ?_ _)); refine blk_far ?_ NB210_218.out _; (with_reducible repeat (first | refine blk_drewN ?_ _ | refine blk_drew ?_ | refine blk_alloc ?_ _)); refine blk_far ?_ NB210_218.out _; (with_reducible repeat (first | refine blk_drewN ?_ _ | refine blk_drew ?_ | refine blk_alloc ?_ _)); exact BK210.out⟩, ⟨by (with_reducible repeat (first | refine blk_drewN ?_ _ | refine blk_drew ?_ | refine blk_alloc ?_ _)); refine blk_far ?_ NB214_218.out _; (with_reducible repeat (first | refine blk_drewN ?_ _ | refine blk_drew ?_ | refine blk_alloc ?_ _)); refine blk_far ?_ NB214_218.out _; (with_reducible repeat (first | refine blk_drewN ?_ _ | refine blk_drew ?_ | refine blk_alloc ?_ _)); exact BK214.out⟩, ⟨by (with_reducible repeat (first | refine blk_drewN ?_ _ | refine blk_drew ?_ | refine blk_alloc ?_ _)); refine blk_put (cs := #[.int .i64 t215, .int .i64 0]) ?_ 1 _ rfl; (with_reducible repeat (first | refine blk_drewN ?_ _ | refine blk_drew ?_ | refine blk_alloc ?_ _)); refine blk_put (cs := #[.int .i64 0, .int .i64 0]) ?_ 0 _ rfl; (with_reducible repeat (first | refine blk_drewN ?_ _ | refine blk_drew ?_ | refine blk_alloc ?_ _)); exact BK218.out⟩, ⟨by repeat (first | (with_reducible first | exact HB.out | apply below_alloc | apply pw_below_drewN | apply below_drew1 | refine below_set ?_ GE202.out | refine below_set ?_ GE206.out | refine below_set ?_ GE210.out | refine below_set ?_ GE214.out | refine below_set ?_ GE218.out) | exact HB.out)⟩⟩
          · rw [if_neg c43] at H
            have c43b0 : (t209 == 0) = false := beq_eq_false_iff_ne.mpr c43
            have c43b1 : (t209 != 0) = true := bne_iff_ne.mpr c43
            have H' := Aside0.mk H
            clear H
            go_wp2
            go_meet
            case rel => exact ⟨_, (true), (by first | rfl | (simp; done) | (simp [*]; done)), H', ⟨by first | omega | exact Nat.le_refl _⟩, ⟨by (with_reducible repeat (first | refine blk_drewN ?_ _ | refine blk_drew ?_ | refine blk_alloc ?_ _)); refine blk_far ?_ NB202_218.out _; (with_reducible repeat (first | refine blk_drewN ?_ _ | refine blk_drew ?_ | refine blk_alloc ?_ _)); refine blk_far ?_ NB202_218.out _; (with_reducible repeat (first | refine blk_drewN ?_ _ | refine blk_drew ?_ | refine blk_alloc ?_ _)); exact BK202.out⟩, ⟨by (with_reducible repeat (first | refine blk_drewN ?_ _ | refine blk_drew ?_ | refine blk_alloc ?_ _)); refine blk_far ?_ NB206_218.out _; (with_reducible repeat (first | refine blk_drewN ?_ _ | refine blk_drew ?_ | refine blk_alloc ?_ _)); refine blk_far ?_ NB206_218.out _; (with_reducible repeat (first | refine blk_drewN ?_ _ | refine blk_drew ?_ | refine blk_alloc ?_ _)); exact BK206.out⟩, ⟨by (with_reducible repeat (first | refine blk_drewN ?_ _ | refine blk_drew ?_ | refine blk_alloc ?_ _)); refine blk_far ?_ NB210_218.out _; (with_reducible repeat (first | refine blk_drewN ?_ _ | refine blk_drew ?_ | refine blk_alloc ?_ _)); refine blk_far ?_ NB210_218.out _; (with_reducible repeat (first | refine blk_drewN ?_ _ | refine blk_drew ?_ | refine blk_alloc ?_ _)); exact BK210.out⟩, ⟨by (with_reducible repeat (first | refine blk_drewN ?_ _ | refine blk_drew ?_ | refine blk_alloc ?_ _)); refine blk_far ?_ NB214_218.out _; (with_reducible repeat (first | refine blk_drewN ?_ _ | refine blk_drew ?_ | refine blk_alloc ?_ _)); refine blk_far ?_ NB214_218.out _; (with_reducible repeat (first | refine blk_drewN ?_ _ | refine blk_drew ?_ | refine blk_alloc ?_ _)); exact BK214.out⟩, ⟨by (with_reducible repeat (first | refine blk_drewN ?_ _ | refine blk_drew ?_ | refine blk_alloc ?_ _)); refine blk_put (cs := #[.int .i64 t215, .int .i64 0]) ?_ 1 _ rfl; (with_reducible repeat (first | refine blk_drewN ?_ _ | refine blk_drew ?_ | refine blk_alloc ?_ _)); refine blk_put (cs := #[.int .i64 0, .int .i64 0]) ?_ 0 _ rfl; (with_reducible repeat (first | refine blk_drewN ?_ _ | refine blk_drew ?_ | refine blk_alloc ?_ _)); exact BK218.out⟩, ⟨by repeat (first | (with_reducible first | exact HB.out | apply below_alloc | apply pw_below_drewN | apply below_drew1 | refine below_set ?_ GE202.out | refine below_set ?_ GE206.out | refine below_set ?_ GE210.out | refine below_set ?_ GE214.out | refine below_set ?_ GE218.out) | exact HB.out)⟩⟩
        · rw [if_neg c42] at H
          have c42b0 : (t205 == 0) = false := beq_eq_false_iff_ne.mpr c42
          have c42b1 : (t205 != 0) = true := bne_iff_ne.mpr c42
          (first | rw [c42b0] | (simp only [i64_w, i32_w]; rw [c42b0]) | skip)
          have H' := Aside0.mk H
          clear H
          go_wp2
          go_meet
          case rel => exact ⟨_, (true), (by first | rfl | (simp; done) | (simp [*]; done)), H', ⟨by first | omega | exact Nat.le_refl _⟩, ⟨by (with_reducible repeat (first | refine blk_drewN ?_ _ | refine blk_drew ?_ | refine blk_alloc ?_ _)); refine blk_far ?_ NB202_218.out _; (with_reducible repeat (first | refine blk_drewN ?_ _ | refine blk_drew ?_ | refine blk_alloc ?_ _)); refine blk_far ?_ NB202_218.out _; (with_reducible repeat (first | refine blk_drewN ?_ _ | refine blk_drew ?_ | refine blk_alloc ?_ _)); exact BK202.out⟩, ⟨by (with_reducible repeat (first | refine blk_drewN ?_ _ | refine blk_drew ?_ | refine blk_alloc ?_ _)); refine blk_far ?_ NB206_218.out _; (with_reducible repeat (first | refine blk_drewN ?_ _ | refine blk_drew ?_ | refine blk_alloc ?_ _)); refine blk_far ?_ NB206_218.out _; (with_reducible repeat (first | refine blk_drewN ?_ _ | refine blk_drew ?_ | refine blk_alloc ?_ _)); exact BK206.out⟩, ⟨by (with_reducible repeat (first | refine blk_drewN ?_ _ | refine blk_drew ?_ | refine blk_alloc ?_ _)); refine blk_far ?_ NB210_218.out _; (with_reducible repeat (first | refine blk_drewN ?_ _ | refine blk_drew ?_ | refine blk_alloc ?_ _)); refine blk_far ?_ NB210_218.out _; (with_reducible repeat (first | refine blk_drewN ?_ _ | refine blk_drew ?_ | refine blk_alloc ?_ _)); exact BK210.out⟩, ⟨by (with_reducible repeat (first | refine blk_drewN ?_ _ | refine blk_drew ?_ | refine blk_alloc ?_ _)); refine blk_far ?_ NB214_218.out _; (with_reducible repeat (first | refine blk_drewN ?_ _ | refine blk_drew ?_ | refine blk_alloc ?_ _)); refine blk_far ?_ NB214_218.out _; (with_reducible repeat (first | refine blk_drewN ?_ _ | refine blk_drew ?_ | refine blk_alloc ?_ _)); exact BK214.out⟩, ⟨by (with_reducible repeat (first | refine blk_drewN ?_ _ | refine blk_drew ?_ | refine blk_alloc ?_ _)); refine blk_put (cs := #[.int .i64 t215, .int .i64 0]) ?_ 1 _ rfl; (with_reducible repeat (first | refine blk_drewN ?_ _ | refine blk_drew ?_ | refine blk_alloc ?_ _)); refine blk_put (cs := #[.int .i64 0, .int .i64 0]) ?_ 0 _ rfl; (with_reducible repeat (first | refine blk_drewN ?_ _ | refine blk_drew ?_ | refine blk_alloc ?_ _)); exact BK218.out⟩, ⟨by repeat (first | (with_reducible first | exact HB.out | apply below_alloc | apply pw_below_drewN | apply below_drew1 | refine below_set ?_ GE202.out | refine below_set ?_ GE206.out | refine below_set ?_ GE210.out | refine below_set ?_ GE214.out | refine below_set ?_ GE218.out) | exact HB.out)⟩⟩
      case rest =>
        clear HC14
        try clear c1
        try clear c2
        try clear p2
        try clear c3
        try clear c4
        try clear c5
        try clear c5b0
        try clear c5b1
        try clear c6
        try clear p6
        try clear c7
        try clear c7b0
        try clear c7b1
        try clear c8
        try clear c9
        try clear c13
        try clear c14
        try clear c15
        try clear c16
        try clear c20
        try clear c24
        try clear c25
        try clear c30
        try clear c31
        try clear c32
        try clear c37
        try clear c38
        try clear c39
        try clear c40
        try clear c42
        try clear c42b0
        try clear c42b1
        try clear c43
        try clear c43b0
        try clear c43b1
        try clear c44
        try clear c44b0
        try clear c44b1
        try clear c45
        try clear c45b0
        try clear c45b1
        try clear c46
        try clear c46b0
        try clear c47
        try clear c48
        try clear c49
        try clear c50
        try clear c52
        try clear c53
        try clear c54
        try clear c56
        try clear c56b0
        try clear c57
        try clear c58
        try clear c59
        try clear c60
        try clear c62
        try clear c63
        try clear c64
        try clear p64
        try clear c66
        try clear c67
        try clear c69
        try clear c71
        try clear c71b0
        try clear c71b1
        try clear c72
        try clear c73
        try clear c74
        try clear c75
        try clear c77
        try clear c78
        try clear c79
        try clear c81
        try clear c82
        try clear c84
        try clear c87
        try clear c88
        try clear c89
        try clear c90
        try clear c92
        try clear c93
        try clear c94
        try clear c96
        try clear c97
        try clear c99
        try clear hcz100_0
        try clear hcz100_1
        try clear hcz17_0
        try clear hcz17_1
        try clear hcz21_0
        try clear hcz21_1
        try clear hcz26_0
        try clear hcz26_1
        try clear hcz27_0
        try clear hcz27_1
        try clear hcz33_0
        try clear hcz33_1
        try clear hcz34_0
        try clear hcz34_1
        try clear hcz41_0
        try clear hcz41_1
        try clear hcz51_0
        try clear hcz51_1
        try clear hcz55_0
        try clear hcz55_1
        try clear hcz61_0
        try clear hcz61_1
        try clear hcz65_0
        try clear hcz65_1
        try clear hcz68_0
        try clear hcz68_1
        try clear hcz70_0
        try clear hcz70_1
        try clear hcz76_0
        try clear hcz76_1
        try clear hcz80_0
        try clear hcz80_1
        try clear hcz83_0
        try clear hcz83_1
        try clear hcz85_0
        try clear hcz85_1
        try clear hcz86_0
        try clear hcz86_1
        try clear hcz91_0
        try clear hcz91_1
        try clear hcz95_0
        try clear hcz95_1
        try clear hcz98_0
        try clear hcz98_1
        try clear hfz100_0
        try clear hfz100_1
        try clear hfz17_0
        try clear hfz17_1
        try clear hfz21_0
        try clear hfz21_1
        try clear hfz26_0
        try clear hfz26_1
        try clear hfz27_0
        try clear hfz27_1
        try clear hfz33_0
        try clear hfz33_1
        try clear hfz34_0
        try clear hfz34_1
        try clear hfz41_0
        try clear hfz41_1
        try clear hfz51_0
        try clear hfz51_1
        try clear hfz55_0
        try clear hfz55_1
        try clear hfz61_0
        try clear hfz61_1
        try clear hfz65_0
        try clear hfz65_1
        try clear hfz68_0
        try clear hfz68_1
        try clear hfz70_0
        try clear hfz70_1
        try clear hfz76_0
        try clear hfz76_1
        try clear hfz80_0
        try clear hfz80_1
        try clear hfz83_0
        try clear hfz83_1
        try clear hfz85_0
        try clear hfz85_1
        try clear hfz86_0
        try clear hfz86_1
        try clear hfz91_0
        try clear hfz91_1
        try clear hfz95_0
        try clear hfz95_1
        try clear hfz98_0
        try clear hfz98_1
        obtain ⟨kq, x88_13, rfl, HA, HJ13, BK202, BK206, BK210, BK214, BK218, HB⟩ := hcut
        cases kq with
        | zero => exact absurd HA.out (by simp [headgatelaw08_OrderPairs.j0])
        | succ kj13 =>
          have H := HA.out
          clear HA
          simp only [headgatelaw08_OrderPairs.j0] at H
          by_cases c101 : x88_13 = true
          · subst c101
            have H1 : (some false) = some r := by rw [if_pos rfl] at H; exact H
            clear H
            have H := H1
            clear H1
            obtain rfl := Option.some.inj H
            go_wp2
            go_ret
            exact ⟨by first | rfl | (simp [errW_none, errW_some] <;> rfl) | (simp only [← hji4, ← hji6]; first | rfl | (simp [errW_none, errW_some] <;> rfl)) | (simp [*, errW_none, errW_some] <;> rfl), by repeat (first | (with_reducible first | exact HB.out | apply below_alloc | apply pw_below_drewN | apply below_drew1 | refine below_set ?_ GE202.out | refine below_set ?_ GE206.out | refine below_set ?_ GE210.out | refine below_set ?_ GE214.out | refine below_set ?_ GE218.out) | exact HB.out)⟩
          · replace c101 := Bool.eq_false_iff.mpr c101
            subst c101
            have H1 : (if t203 < t200 then (headgatelaw08_OrderPairs.j1 kj13 t211 t212 t203 t204 t200 t201) else (headgatelaw08_OrderPairs.j1 kj13 t211 t212 t200 t201 t203 t204)) = some r := by rw [if_neg (show ¬ (false = true) by decide)] at H; exact H
            clear H
            have H := H1
            clear H1
            have HC102 := Aside0.mk H
            clear H
            try go_wp2
            have n0_ := Aside0.mk (blk_drew BK202.out)
            have n1_ := Aside0.mk (blk_drew BK206.out)
            have n2_ := Aside0.mk (blk_drew BK210.out)
            have n3_ := Aside0.mk (blk_drew BK214.out)
            have n4_ := Aside0.mk (blk_drew BK218.out)
            have n5_ := Aside0.mk (below_drew1 HB.out)
            clear BK202
            clear BK206
            clear BK210
            clear BK214
            clear BK218
            clear HB
            have BK202 := n0_
            have BK206 := n1_
            have BK210 := n2_
            have BK214 := n3_
            have BK218 := n4_
            have HB := n5_
            clear n0_ n1_ n2_ n3_ n4_ n5_
            refine start_ (n := 6) (S := fun w' => w'.cell? ⟨gb202, 0, none⟩ = some (.int .i64 t200) ∧ w'.cell? ⟨gb202, 1, none⟩ = some (.int .i64 t201) ∧ w'.cell? ⟨gb206, 0, none⟩ = some (.int .i64 t203) ∧ w'.cell? ⟨gb206, 1, none⟩ = some (.int .i64 t204)) (ds := []) #[false, false, false, false, false, false] (by kernel_rfl) rfl rfl ⟨(blk_cell BK202.out 0).trans rfl, (blk_cell BK202.out 1).trans rfl, (blk_cell BK206.out 0).trans rfl, (blk_cell BK206.out 1).trans rfl⟩ (fun hHeld => ?_)
            generalize wc.drew = w103 at BK202 BK206 BK210 BK214 BK218 HB hHeld ⊢
            refine take_ (i := 0) (N := some 89) (v := ?_) (a' := ?_) #[true, false, false, false, false, false] rfl rfl (by kernel_rfl) (fun _ _ _ h => h) (Or.inl ⟨by rfl, ?_⟩) hHeld ?_ ?_
            rotate_left
            · rintro w' ⟨s0, s1, s2, s3⟩
              go_simp
              with_reducible rfl
            rotate_left
            · simp only [Act.put, List.setIfInBounds_toArray, List.set_cons_zero, List.set_cons_succ, i64_w, i32_w]
              rfl
            refine take_ (i := 1) (N := some 90) (v := ?_) (a' := ?_) #[true, true, false, false, false, false] rfl rfl (by kernel_rfl) (fun _ _ _ h => h) (Or.inl ⟨by rfl, ?_⟩) hHeld ?_ ?_
            rotate_left
            · rintro w' ⟨s0, s1, s2, s3⟩
              go_simp
              with_reducible rfl
            rotate_left
            · simp only [Act.put, List.setIfInBounds_toArray, List.set_cons_zero, List.set_cons_succ, i64_w, i32_w]
              rfl
            refine join_ (σ := Nat × Nat) 2 #[true, true, true, true, false, false] (fun s_ => [(16, .pointer (some ⟨s_.1, 0, none⟩)), (17, .pointer (some ⟨s_.2, 0, none⟩))]) (fun s_ w' => (w'.cell? ⟨gb202, 0, none⟩ = some (.int .i64 t200) ∧ w'.cell? ⟨gb202, 1, none⟩ = some (.int .i64 t201) ∧ w'.cell? ⟨gb206, 0, none⟩ = some (.int .i64 t203) ∧ w'.cell? ⟨gb206, 1, none⟩ = some (.int .i64 t204)) ∧ (w'.heap[gb202]? = some (.cells #[.int .i64 t200, .int .i64 t201] 32 (0, 0))) ∧ (w'.heap[gb206]? = some (.cells #[.int .i64 t203, .int .i64 t204] 32 (0, 0))) ∧ (w'.heap[gb210]? = some (.cells #[.int .i64 t207, .int .i64 t208] 32 (0, 0))) ∧ (w'.heap[gb214]? = some (.cells #[.int .i64 t211, .int .i64 t212] 32 (0, 0))) ∧ (w'.heap[gb218]? = some (.cells #[.int .i64 t215, .int .i64 t216] 32 (0, 0))) ∧ (w'.heap[s_.1]? = some (.cells #[.int .i64 0, .int .i64 0] 32 (0, 0))) ∧ (w'.heap[s_.2]? = some (.cells #[.int .i64 0, .int .i64 0] 32 (0, 0))) ∧ (w.heap.size ≤ s_.1) ∧ (w.heap.size ≤ s_.1) ∧ (gb202 ≠ s_.1) ∧ (s_.1 ≠ gb202) ∧ (gb206 ≠ s_.1) ∧ (s_.1 ≠ gb206) ∧ (gb210 ≠ s_.1) ∧ (s_.1 ≠ gb210) ∧ (gb214 ≠ s_.1) ∧ (s_.1 ≠ gb214) ∧ (gb218 ≠ s_.1) ∧ (s_.1 ≠ gb218) ∧ (s_.2 ≠ s_.1) ∧ (s_.1 ≠ s_.2) ∧ (w.heap.size ≤ s_.2) ∧ (w.heap.size ≤ s_.2) ∧ (gb202 ≠ s_.2) ∧ (s_.2 ≠ gb202) ∧ (gb206 ≠ s_.2) ∧ (s_.2 ≠ gb206) ∧ (gb210 ≠ s_.2) ∧ (s_.2 ≠ gb210) ∧ (gb214 ≠ s_.2) ∧ (s_.2 ≠ gb214) ∧ (gb218 ≠ s_.2) ∧ (s_.2 ≠ gb218) ∧ (Below w.heap.size w w')) ?_ ?_
            rotate_left
            · intro hCont
              refine two_ (i := 2) (j := 3) (Ni := some 16) (Nj := some 17) #[true, true, true, false, false, false] #[true, true, false, true, false, false] rfl rfl rfl rfl (by kernel_rfl) (by decide) (by decide) (fun K hK => ?_) (fun K hK => ?_)
              · skip
                refine box_step ?hg (N := 16) ?hd (cs := #[.int .i64 0, .int .i64 0]) (t := 32) ?hr ?_; (case hd => rfl); (case hg => rfl); (case hr => first | (go_simp; done) | (go_simp; rfl))
                intro gb219 hg w104 hbox hb
                have n0_ := Aside0.mk (blk_below (g := gb202) (o := .cells #[.int .i64 t200, .int .i64 t201] 32 (0, 0)) (by (with_reducible repeat (first | refine blk_drewN ?_ _ | refine blk_drew ?_ | refine blk_alloc ?_ _)); exact BK202.out) hb)
                have n1_ := Aside0.mk (blk_below (g := gb206) (o := .cells #[.int .i64 t203, .int .i64 t204] 32 (0, 0)) (by (with_reducible repeat (first | refine blk_drewN ?_ _ | refine blk_drew ?_ | refine blk_alloc ?_ _)); exact BK206.out) hb)
                have n2_ := Aside0.mk (blk_below (g := gb210) (o := .cells #[.int .i64 t207, .int .i64 t208] 32 (0, 0)) (by (with_reducible repeat (first | refine blk_drewN ?_ _ | refine blk_drew ?_ | refine blk_alloc ?_ _)); exact BK210.out) hb)
                have n3_ := Aside0.mk (blk_below (g := gb214) (o := .cells #[.int .i64 t211, .int .i64 t212] 32 (0, 0)) (by (with_reducible repeat (first | refine blk_drewN ?_ _ | refine blk_drew ?_ | refine blk_alloc ?_ _)); exact BK214.out) hb)
                have n4_ := Aside0.mk (blk_below (g := gb218) (o := .cells #[.int .i64 t215, .int .i64 t216] 32 (0, 0)) (by (with_reducible repeat (first | refine blk_drewN ?_ _ | refine blk_drew ?_ | refine blk_alloc ?_ _)); exact BK218.out) hb)
                have n5_ := Aside0.mk (below_step (by repeat (first | (with_reducible first | exact HB.out | apply below_alloc | apply pw_below_drewN | apply below_drew1 | refine below_set ?_ GE202.out | refine below_set ?_ GE206.out | refine below_set ?_ GE210.out | refine below_set ?_ GE214.out | refine below_set ?_ GE218.out) | exact HB.out)) hb)
                have n6_ := Aside0.mk (hbox)
                have n7_ := Aside0.mk ((by rw [hg]; exact (below_size (by repeat (first | (with_reducible first | exact HB.out | apply below_alloc | apply pw_below_drewN | apply below_drew1 | refine below_set ?_ GE202.out | refine below_set ?_ GE206.out | refine below_set ?_ GE210.out | refine below_set ?_ GE214.out | refine below_set ?_ GE218.out) | exact HB.out))) : w.heap.size ≤ gb219))
                have n8_ := Aside0.mk ((by rw [hg]; exact (below_size (by repeat (first | (with_reducible first | exact HB.out | apply below_alloc | apply pw_below_drewN | apply below_drew1 | refine below_set ?_ GE202.out | refine below_set ?_ GE206.out | refine below_set ?_ GE210.out | refine below_set ?_ GE214.out | refine below_set ?_ GE218.out) | exact HB.out))) : w.heap.size ≤ gb219))
                have n9_ := Aside0.mk ((by rw [hg]; exact Nat.ne_of_lt (blk_lt (g := gb202) (o := .cells #[.int .i64 t200, .int .i64 t201] 32 (0, 0)) (by (with_reducible repeat (first | refine blk_drewN ?_ _ | refine blk_drew ?_ | refine blk_alloc ?_ _)); exact BK202.out)) : gb202 ≠ gb219))
                have n10_ := Aside0.mk ((by rw [hg]; exact Nat.ne_of_gt (blk_lt (g := gb202) (o := .cells #[.int .i64 t200, .int .i64 t201] 32 (0, 0)) (by (with_reducible repeat (first | refine blk_drewN ?_ _ | refine blk_drew ?_ | refine blk_alloc ?_ _)); exact BK202.out)) : gb219 ≠ gb202))
                have n11_ := Aside0.mk ((by rw [hg]; exact Nat.ne_of_lt (blk_lt (g := gb206) (o := .cells #[.int .i64 t203, .int .i64 t204] 32 (0, 0)) (by (with_reducible repeat (first | refine blk_drewN ?_ _ | refine blk_drew ?_ | refine blk_alloc ?_ _)); exact BK206.out)) : gb206 ≠ gb219))
                have n12_ := Aside0.mk ((by rw [hg]; exact Nat.ne_of_gt (blk_lt (g := gb206) (o := .cells #[.int .i64 t203, .int .i64 t204] 32 (0, 0)) (by (with_reducible repeat (first | refine blk_drewN ?_ _ | refine blk_drew ?_ | refine blk_alloc ?_ _)); exact BK206.out)) : gb219 ≠ gb206))
                have n13_ := Aside0.mk ((by rw [hg]; exact Nat.ne_of_lt (blk_lt (g := gb210) (o := .cells #[.int .i64 t207, .int .i64 t208] 32 (0, 0)) (by (with_reducible repeat (first | refine blk_drewN ?_ _ | refine blk_drew ?_ | refine blk_alloc ?_ _)); exact BK210.out)) : gb210 ≠ gb219))
                have n14_ := Aside0.mk ((by rw [hg]; exact Nat.ne_of_gt (blk_lt (g := gb210) (o := .cells #[.int .i64 t207, .int .i64 t208] 32 (0, 0)) (by (with_reducible repeat (first | refine blk_drewN ?_ _ | refine blk_drew ?_ | refine blk_alloc ?_ _)); exact BK210.out)) : gb219 ≠ gb210))
                have n15_ := Aside0.mk ((by rw [hg]; exact Nat.ne_of_lt (blk_lt (g := gb214) (o := .cells #[.int .i64 t211, .int .i64 t212] 32 (0, 0)) (by (with_reducible repeat (first | refine blk_drewN ?_ _ | refine blk_drew ?_ | refine blk_alloc ?_ _)); exact BK214.out)) : gb214 ≠ gb219))
                have n16_ := Aside0.mk ((by rw [hg]; exact Nat.ne_of_gt (blk_lt (g := gb214) (o := .cells #[.int .i64 t211, .int .i64 t212] 32 (0, 0)) (by (with_reducible repeat (first | refine blk_drewN ?_ _ | refine blk_drew ?_ | refine blk_alloc ?_ _)); exact BK214.out)) : gb219 ≠ gb214))
                have n17_ := Aside0.mk ((by rw [hg]; exact Nat.ne_of_lt (blk_lt (g := gb218) (o := .cells #[.int .i64 t215, .int .i64 t216] 32 (0, 0)) (by (with_reducible repeat (first | refine blk_drewN ?_ _ | refine blk_drew ?_ | refine blk_alloc ?_ _)); exact BK218.out)) : gb218 ≠ gb219))
                have n18_ := Aside0.mk ((by rw [hg]; exact Nat.ne_of_gt (blk_lt (g := gb218) (o := .cells #[.int .i64 t215, .int .i64 t216] 32 (0, 0)) (by (with_reducible repeat (first | refine blk_drewN ?_ _ | refine blk_drew ?_ | refine blk_alloc ?_ _)); exact BK218.out)) : gb219 ≠ gb218))
                clear BK202
                clear BK206
                clear BK210
                clear BK214
                clear BK218
                clear HB
                have BK202 := n0_
                have BK206 := n1_
                have BK210 := n2_
                have BK214 := n3_
                have BK218 := n4_
                have HB := n5_
                have BK219 := n6_
                have GW219 := n7_
                have GE219 := n8_
                have NB202_219 := n9_
                have NB219_202 := n10_
                have NB206_219 := n11_
                have NB219_206 := n12_
                have NB210_219 := n13_
                have NB219_210 := n14_
                have NB214_219 := n15_
                have NB219_214 := n16_
                have NB218_219 := n17_
                have NB219_218 := n18_
                clear n0_ n1_ n2_ n3_ n4_ n5_ n6_ n7_ n8_ n9_ n10_ n11_ n12_ n13_ n14_ n15_ n16_ n17_ n18_
                clear hb hbox hg
                refine hK.out _ _ ⟨(blk_cell BK202.out 0).trans rfl, (blk_cell BK202.out 1).trans rfl, (blk_cell BK206.out 0).trans rfl, (blk_cell BK206.out 1).trans rfl⟩ (fun hHeld => ?_)
                clear hK K
                refine norm_ (a' := ?_) ?_ ?_
                rotate_left
                · show Act.put _ (some 16) _ = _
                  simp only [Act.put, List.setIfInBounds_toArray, List.set_cons_zero, List.set_cons_succ, i64_w, i32_w]
                  rfl
                refine one_ (i := 3) (N := some 17) #[true, true, true, true, false, false] rfl rfl (by kernel_rfl) (by decide) (fun K hK => ?_)
                refine box_step ?hg (N := 17) ?hd (cs := #[.int .i64 0, .int .i64 0]) (t := 32) ?hr ?_; (case hd => rfl); (case hg => rfl); (case hr => first | (go_simp; done) | (go_simp; rfl))
                intro gb220 hg w105 hbox hb
                have n0_ := Aside0.mk (blk_below (g := gb202) (o := .cells #[.int .i64 t200, .int .i64 t201] 32 (0, 0)) (by (with_reducible repeat (first | refine blk_drewN ?_ _ | refine blk_drew ?_ | refine blk_alloc ?_ _)); exact BK202.out) hb)
                have n1_ := Aside0.mk (blk_below (g := gb206) (o := .cells #[.int .i64 t203, .int .i64 t204] 32 (0, 0)) (by (with_reducible repeat (first | refine blk_drewN ?_ _ | refine blk_drew ?_ | refine blk_alloc ?_ _)); exact BK206.out) hb)
                have n2_ := Aside0.mk (blk_below (g := gb210) (o := .cells #[.int .i64 t207, .int .i64 t208] 32 (0, 0)) (by (with_reducible repeat (first | refine blk_drewN ?_ _ | refine blk_drew ?_ | refine blk_alloc ?_ _)); exact BK210.out) hb)
                have n3_ := Aside0.mk (blk_below (g := gb214) (o := .cells #[.int .i64 t211, .int .i64 t212] 32 (0, 0)) (by (with_reducible repeat (first | refine blk_drewN ?_ _ | refine blk_drew ?_ | refine blk_alloc ?_ _)); exact BK214.out) hb)
                have n4_ := Aside0.mk (blk_below (g := gb218) (o := .cells #[.int .i64 t215, .int .i64 t216] 32 (0, 0)) (by (with_reducible repeat (first | refine blk_drewN ?_ _ | refine blk_drew ?_ | refine blk_alloc ?_ _)); exact BK218.out) hb)
                have n5_ := Aside0.mk (blk_below (g := gb219) (o := .cells #[.int .i64 0, .int .i64 0] 32 (0, 0)) (by (with_reducible repeat (first | refine blk_drewN ?_ _ | refine blk_drew ?_ | refine blk_alloc ?_ _)); exact BK219.out) hb)
                have n6_ := Aside0.mk (below_step (by repeat (first | (with_reducible first | exact HB.out | apply below_alloc | apply pw_below_drewN | apply below_drew1 | refine below_set ?_ GE202.out | refine below_set ?_ GE206.out | refine below_set ?_ GE210.out | refine below_set ?_ GE214.out | refine below_set ?_ GE218.out | refine below_set ?_ GE219.out) | exact HB.out)) hb)
                have n7_ := Aside0.mk (hbox)
                have n8_ := Aside0.mk ((by rw [hg]; exact (below_size (by repeat (first | (with_reducible first | exact HB.out | apply below_alloc | apply pw_below_drewN | apply below_drew1 | refine below_set ?_ GE202.out | refine below_set ?_ GE206.out | refine below_set ?_ GE210.out | refine below_set ?_ GE214.out | refine below_set ?_ GE218.out | refine below_set ?_ GE219.out) | exact HB.out))) : w.heap.size ≤ gb220))
                have n9_ := Aside0.mk ((by rw [hg]; exact (below_size (by repeat (first | (with_reducible first | exact HB.out | apply below_alloc | apply pw_below_drewN | apply below_drew1 | refine below_set ?_ GE202.out | refine below_set ?_ GE206.out | refine below_set ?_ GE210.out | refine below_set ?_ GE214.out | refine below_set ?_ GE218.out | refine below_set ?_ GE219.out) | exact HB.out))) : w.heap.size ≤ gb220))
                have n10_ := Aside0.mk ((by rw [hg]; exact Nat.ne_of_lt (blk_lt (g := gb202) (o := .cells #[.int .i64 t200, .int .i64 t201] 32 (0, 0)) (by (with_reducible repeat (first | refine blk_drewN ?_ _ | refine blk_drew ?_ | refine blk_alloc ?_ _)); exact BK202.out)) : gb202 ≠ gb220))
                have n11_ := Aside0.mk ((by rw [hg]; exact Nat.ne_of_gt (blk_lt (g := gb202) (o := .cells #[.int .i64 t200, .int .i64 t201] 32 (0, 0)) (by (with_reducible repeat (first | refine blk_drewN ?_ _ | refine blk_drew ?_ | refine blk_alloc ?_ _)); exact BK202.out)) : gb220 ≠ gb202))
                have n12_ := Aside0.mk ((by rw [hg]; exact Nat.ne_of_lt (blk_lt (g := gb206) (o := .cells #[.int .i64 t203, .int .i64 t204] 32 (0, 0)) (by (with_reducible repeat (first | refine blk_drewN ?_ _ | refine blk_drew ?_ | refine blk_alloc ?_ _)); exact BK206.out)) : gb206 ≠ gb220))
                have n13_ := Aside0.mk ((by rw [hg]; exact Nat.ne_of_gt (blk_lt (g := gb206) (o := .cells #[.int .i64 t203, .int .i64 t204] 32 (0, 0)) (by (with_reducible repeat (first | refine blk_drewN ?_ _ | refine blk_drew ?_ | refine blk_alloc ?_ _)); exact BK206.out)) : gb220 ≠ gb206))
                have n14_ := Aside0.mk ((by rw [hg]; exact Nat.ne_of_lt (blk_lt (g := gb210) (o := .cells #[.int .i64 t207, .int .i64 t208] 32 (0, 0)) (by (with_reducible repeat (first | refine blk_drewN ?_ _ | refine blk_drew ?_ | refine blk_alloc ?_ _)); exact BK210.out)) : gb210 ≠ gb220))
                have n15_ := Aside0.mk ((by rw [hg]; exact Nat.ne_of_gt (blk_lt (g := gb210) (o := .cells #[.int .i64 t207, .int .i64 t208] 32 (0, 0)) (by (with_reducible repeat (first | refine blk_drewN ?_ _ | refine blk_drew ?_ | refine blk_alloc ?_ _)); exact BK210.out)) : gb220 ≠ gb210))
                have n16_ := Aside0.mk ((by rw [hg]; exact Nat.ne_of_lt (blk_lt (g := gb214) (o := .cells #[.int .i64 t211, .int .i64 t212] 32 (0, 0)) (by (with_reducible repeat (first | refine blk_drewN ?_ _ | refine blk_drew ?_ | refine blk_alloc ?_ _)); exact BK214.out)) : gb214 ≠ gb220))
                have n17_ := Aside0.mk ((by rw [hg]; exact Nat.ne_of_gt (blk_lt (g := gb214) (o := .cells #[.int .i64 t211, .int .i64 t212] 32 (0, 0)) (by (with_reducible repeat (first | refine blk_drewN ?_ _ | refine blk_drew ?_ | refine blk_alloc ?_ _)); exact BK214.out)) : gb220 ≠ gb214))
                have n18_ := Aside0.mk ((by rw [hg]; exact Nat.ne_of_lt (blk_lt (g := gb218) (o := .cells #[.int .i64 t215, .int .i64 t216] 32 (0, 0)) (by (with_reducible repeat (first | refine blk_drewN ?_ _ | refine blk_drew ?_ | refine blk_alloc ?_ _)); exact BK218.out)) : gb218 ≠ gb220))
                have n19_ := Aside0.mk ((by rw [hg]; exact Nat.ne_of_gt (blk_lt (g := gb218) (o := .cells #[.int .i64 t215, .int .i64 t216] 32 (0, 0)) (by (with_reducible repeat (first | refine blk_drewN ?_ _ | refine blk_drew ?_ | refine blk_alloc ?_ _)); exact BK218.out)) : gb220 ≠ gb218))
                have n20_ := Aside0.mk ((by rw [hg]; exact Nat.ne_of_lt (blk_lt (g := gb219) (o := .cells #[.int .i64 0, .int .i64 0] 32 (0, 0)) (by (with_reducible repeat (first | refine blk_drewN ?_ _ | refine blk_drew ?_ | refine blk_alloc ?_ _)); exact BK219.out)) : gb219 ≠ gb220))
                have n21_ := Aside0.mk ((by rw [hg]; exact Nat.ne_of_gt (blk_lt (g := gb219) (o := .cells #[.int .i64 0, .int .i64 0] 32 (0, 0)) (by (with_reducible repeat (first | refine blk_drewN ?_ _ | refine blk_drew ?_ | refine blk_alloc ?_ _)); exact BK219.out)) : gb220 ≠ gb219))
                clear BK202
                clear BK206
                clear BK210
                clear BK214
                clear BK218
                clear BK219
                clear HB
                have BK202 := n0_
                have BK206 := n1_
                have BK210 := n2_
                have BK214 := n3_
                have BK218 := n4_
                have BK219 := n5_
                have HB := n6_
                have BK220 := n7_
                have GW220 := n8_
                have GE220 := n9_
                have NB202_220 := n10_
                have NB220_202 := n11_
                have NB206_220 := n12_
                have NB220_206 := n13_
                have NB210_220 := n14_
                have NB220_210 := n15_
                have NB214_220 := n16_
                have NB220_214 := n17_
                have NB218_220 := n18_
                have NB220_218 := n19_
                have NB219_220 := n20_
                have NB220_219 := n21_
                clear n0_ n1_ n2_ n3_ n4_ n5_ n6_ n7_ n8_ n9_ n10_ n11_ n12_ n13_ n14_ n15_ n16_ n17_ n18_ n19_ n20_ n21_
                clear hb hbox hg
                refine hK.out _ _ ⟨(blk_cell BK202.out 0).trans rfl, (blk_cell BK202.out 1).trans rfl, (blk_cell BK206.out 0).trans rfl, (blk_cell BK206.out 1).trans rfl⟩ (fun hHeld => ?_)
                clear hK K
                refine norm_ (a' := ?_) ?_ ?_
                rotate_left
                · show Act.put _ (some 17) _ = _
                  simp only [Act.put, List.setIfInBounds_toArray, List.set_cons_zero, List.set_cons_succ, i64_w, i32_w]
                  rfl
                exact norm_ (by simp only [putAll, Act.put, List.setIfInBounds_toArray, List.set_cons_zero, List.set_cons_succ]) (hCont (gb219, gb220) _ ⟨hHeld, (by (with_reducible repeat (first | refine blk_drewN ?_ _ | refine blk_drew ?_ | refine blk_alloc ?_ _)); exact BK202.out), (by (with_reducible repeat (first | refine blk_drewN ?_ _ | refine blk_drew ?_ | refine blk_alloc ?_ _)); exact BK206.out), (by (with_reducible repeat (first | refine blk_drewN ?_ _ | refine blk_drew ?_ | refine blk_alloc ?_ _)); exact BK210.out), (by (with_reducible repeat (first | refine blk_drewN ?_ _ | refine blk_drew ?_ | refine blk_alloc ?_ _)); exact BK214.out), (by (with_reducible repeat (first | refine blk_drewN ?_ _ | refine blk_drew ?_ | refine blk_alloc ?_ _)); exact BK218.out), (by (with_reducible repeat (first | refine blk_drewN ?_ _ | refine blk_drew ?_ | refine blk_alloc ?_ _)); exact BK219.out), (by (with_reducible repeat (first | refine blk_drewN ?_ _ | refine blk_drew ?_ | refine blk_alloc ?_ _)); exact BK220.out), GW219.out, GE219.out, NB202_219.out, NB219_202.out, NB206_219.out, NB219_206.out, NB210_219.out, NB219_210.out, NB214_219.out, NB219_214.out, NB218_219.out, NB219_218.out, NB220_219.out, NB219_220.out, GW220.out, GE220.out, NB202_220.out, NB220_202.out, NB206_220.out, NB220_206.out, NB210_220.out, NB220_210.out, NB214_220.out, NB220_214.out, NB218_220.out, NB220_218.out, (by repeat (first | (with_reducible first | exact HB.out | apply below_alloc | apply pw_below_drewN | apply below_drew1 | refine below_set ?_ GE202.out | refine below_set ?_ GE206.out | refine below_set ?_ GE210.out | refine below_set ?_ GE214.out | refine below_set ?_ GE218.out | refine below_set ?_ GE219.out | refine below_set ?_ GE220.out) | exact HB.out))⟩)
              · skip
                refine box_step ?hg (N := 17) ?hd (cs := #[.int .i64 0, .int .i64 0]) (t := 32) ?hr ?_; (case hd => rfl); (case hg => rfl); (case hr => first | (go_simp; done) | (go_simp; rfl))
                intro gb220 hg w104 hbox hb
                have n0_ := Aside0.mk (blk_below (g := gb202) (o := .cells #[.int .i64 t200, .int .i64 t201] 32 (0, 0)) (by (with_reducible repeat (first | refine blk_drewN ?_ _ | refine blk_drew ?_ | refine blk_alloc ?_ _)); exact BK202.out) hb)
                have n1_ := Aside0.mk (blk_below (g := gb206) (o := .cells #[.int .i64 t203, .int .i64 t204] 32 (0, 0)) (by (with_reducible repeat (first | refine blk_drewN ?_ _ | refine blk_drew ?_ | refine blk_alloc ?_ _)); exact BK206.out) hb)
                have n2_ := Aside0.mk (blk_below (g := gb210) (o := .cells #[.int .i64 t207, .int .i64 t208] 32 (0, 0)) (by (with_reducible repeat (first | refine blk_drewN ?_ _ | refine blk_drew ?_ | refine blk_alloc ?_ _)); exact BK210.out) hb)
                have n3_ := Aside0.mk (blk_below (g := gb214) (o := .cells #[.int .i64 t211, .int .i64 t212] 32 (0, 0)) (by (with_reducible repeat (first | refine blk_drewN ?_ _ | refine blk_drew ?_ | refine blk_alloc ?_ _)); exact BK214.out) hb)
                have n4_ := Aside0.mk (blk_below (g := gb218) (o := .cells #[.int .i64 t215, .int .i64 t216] 32 (0, 0)) (by (with_reducible repeat (first | refine blk_drewN ?_ _ | refine blk_drew ?_ | refine blk_alloc ?_ _)); exact BK218.out) hb)
                have n5_ := Aside0.mk (below_step (by repeat (first | (with_reducible first | exact HB.out | apply below_alloc | apply pw_below_drewN | apply below_drew1 | refine below_set ?_ GE202.out | refine below_set ?_ GE206.out | refine below_set ?_ GE210.out | refine below_set ?_ GE214.out | refine below_set ?_ GE218.out) | exact HB.out)) hb)
                have n6_ := Aside0.mk (hbox)
                have n7_ := Aside0.mk ((by rw [hg]; exact (below_size (by repeat (first | (with_reducible first | exact HB.out | apply below_alloc | apply pw_below_drewN | apply below_drew1 | refine below_set ?_ GE202.out | refine below_set ?_ GE206.out | refine below_set ?_ GE210.out | refine below_set ?_ GE214.out | refine below_set ?_ GE218.out) | exact HB.out))) : w.heap.size ≤ gb220))
                have n8_ := Aside0.mk ((by rw [hg]; exact (below_size (by repeat (first | (with_reducible first | exact HB.out | apply below_alloc | apply pw_below_drewN | apply below_drew1 | refine below_set ?_ GE202.out | refine below_set ?_ GE206.out | refine below_set ?_ GE210.out | refine below_set ?_ GE214.out | refine below_set ?_ GE218.out) | exact HB.out))) : w.heap.size ≤ gb220))
                have n9_ := Aside0.mk ((by rw [hg]; exact Nat.ne_of_lt (blk_lt (g := gb202) (o := .cells #[.int .i64 t200, .int .i64 t201] 32 (0, 0)) (by (with_reducible repeat (first | refine blk_drewN ?_ _ | refine blk_drew ?_ | refine blk_alloc ?_ _)); exact BK202.out)) : gb202 ≠ gb220))
                have n10_ := Aside0.mk ((by rw [hg]; exact Nat.ne_of_gt (blk_lt (g := gb202) (o := .cells #[.int .i64 t200, .int .i64 t201] 32 (0, 0)) (by (with_reducible repeat (first | refine blk_drewN ?_ _ | refine blk_drew ?_ | refine blk_alloc ?_ _)); exact BK202.out)) : gb220 ≠ gb202))
                have n11_ := Aside0.mk ((by rw [hg]; exact Nat.ne_of_lt (blk_lt (g := gb206) (o := .cells #[.int .i64 t203, .int .i64 t204] 32 (0, 0)) (by (with_reducible repeat (first | refine blk_drewN ?_ _ | refine blk_drew ?_ | refine blk_alloc ?_ _)); exact BK206.out)) : gb206 ≠ gb220))
                have n12_ := Aside0.mk ((by rw [hg]; exact Nat.ne_of_gt (blk_lt (g := gb206) (o := .cells #[.int .i64 t203, .int .i64 t204] 32 (0, 0)) (by (with_reducible repeat (first | refine blk_drewN ?_ _ | refine blk_drew ?_ | refine blk_alloc ?_ _)); exact BK206.out)) : gb220 ≠ gb206))
                have n13_ := Aside0.mk ((by rw [hg]; exact Nat.ne_of_lt (blk_lt (g := gb210) (o := .cells #[.int .i64 t207, .int .i64 t208] 32 (0, 0)) (by (with_reducible repeat (first | refine blk_drewN ?_ _ | refine blk_drew ?_ | refine blk_alloc ?_ _)); exact BK210.out)) : gb210 ≠ gb220))
                have n14_ := Aside0.mk ((by rw [hg]; exact Nat.ne_of_gt (blk_lt (g := gb210) (o := .cells #[.int .i64 t207, .int .i64 t208] 32 (0, 0)) (by (with_reducible repeat (first | refine blk_drewN ?_ _ | refine blk_drew ?_ | refine blk_alloc ?_ _)); exact BK210.out)) : gb220 ≠ gb210))
                have n15_ := Aside0.mk ((by rw [hg]; exact Nat.ne_of_lt (blk_lt (g := gb214) (o := .cells #[.int .i64 t211, .int .i64 t212] 32 (0, 0)) (by (with_reducible repeat (first | refine blk_drewN ?_ _ | refine blk_drew ?_ | refine blk_alloc ?_ _)); exact BK214.out)) : gb214 ≠ gb220))
                have n16_ := Aside0.mk ((by rw [hg]; exact Nat.ne_of_gt (blk_lt (g := gb214) (o := .cells #[.int .i64 t211, .int .i64 t212] 32 (0, 0)) (by (with_reducible repeat (first | refine blk_drewN ?_ _ | refine blk_drew ?_ | refine blk_alloc ?_ _)); exact BK214.out)) : gb220 ≠ gb214))
                have n17_ := Aside0.mk ((by rw [hg]; exact Nat.ne_of_lt (blk_lt (g := gb218) (o := .cells #[.int .i64 t215, .int .i64 t216] 32 (0, 0)) (by (with_reducible repeat (first | refine blk_drewN ?_ _ | refine blk_drew ?_ | refine blk_alloc ?_ _)); exact BK218.out)) : gb218 ≠ gb220))
                have n18_ := Aside0.mk ((by rw [hg]; exact Nat.ne_of_gt (blk_lt (g := gb218) (o := .cells #[.int .i64 t215, .int .i64 t216] 32 (0, 0)) (by (with_reducible repeat (first | refine blk_drewN ?_ _ | refine blk_drew ?_ | refine blk_alloc ?_ _)); exact BK218.out)) : gb220 ≠ gb218))
                clear BK202
                clear BK206
                clear BK210
                clear BK214
                clear BK218
                clear HB
                have BK202 := n0_
                have BK206 := n1_
                have BK210 := n2_
                have BK214 := n3_
                have BK218 := n4_
                have HB := n5_
                have BK220 := n6_
                have GW220 := n7_
                have GE220 := n8_
                have NB202_220 := n9_
                have NB220_202 := n10_
                have NB206_220 := n11_
                have NB220_206 := n12_
                have NB210_220 := n13_
                have NB220_210 := n14_
                have NB214_220 := n15_
                have NB220_214 := n16_
                have NB218_220 := n17_
                have NB220_218 := n18_
                clear n0_ n1_ n2_ n3_ n4_ n5_ n6_ n7_ n8_ n9_ n10_ n11_ n12_ n13_ n14_ n15_ n16_ n17_ n18_
                clear hb hbox hg
                refine hK.out _ _ ⟨(blk_cell BK202.out 0).trans rfl, (blk_cell BK202.out 1).trans rfl, (blk_cell BK206.out 0).trans rfl, (blk_cell BK206.out 1).trans rfl⟩ (fun hHeld => ?_)
                clear hK K
                refine norm_ (a' := ?_) ?_ ?_
                rotate_left
                · show Act.put _ (some 17) _ = _
                  simp only [Act.put, List.setIfInBounds_toArray, List.set_cons_zero, List.set_cons_succ, i64_w, i32_w]
                  rfl
                refine one_ (i := 2) (N := some 16) #[true, true, true, true, false, false] rfl rfl (by kernel_rfl) (by decide) (fun K hK => ?_)
                refine box_step ?hg (N := 16) ?hd (cs := #[.int .i64 0, .int .i64 0]) (t := 32) ?hr ?_; (case hd => rfl); (case hg => rfl); (case hr => first | (go_simp; done) | (go_simp; rfl))
                intro gb219 hg w105 hbox hb
                have n0_ := Aside0.mk (blk_below (g := gb202) (o := .cells #[.int .i64 t200, .int .i64 t201] 32 (0, 0)) (by (with_reducible repeat (first | refine blk_drewN ?_ _ | refine blk_drew ?_ | refine blk_alloc ?_ _)); exact BK202.out) hb)
                have n1_ := Aside0.mk (blk_below (g := gb206) (o := .cells #[.int .i64 t203, .int .i64 t204] 32 (0, 0)) (by (with_reducible repeat (first | refine blk_drewN ?_ _ | refine blk_drew ?_ | refine blk_alloc ?_ _)); exact BK206.out) hb)
                have n2_ := Aside0.mk (blk_below (g := gb210) (o := .cells #[.int .i64 t207, .int .i64 t208] 32 (0, 0)) (by (with_reducible repeat (first | refine blk_drewN ?_ _ | refine blk_drew ?_ | refine blk_alloc ?_ _)); exact BK210.out) hb)
                have n3_ := Aside0.mk (blk_below (g := gb214) (o := .cells #[.int .i64 t211, .int .i64 t212] 32 (0, 0)) (by (with_reducible repeat (first | refine blk_drewN ?_ _ | refine blk_drew ?_ | refine blk_alloc ?_ _)); exact BK214.out) hb)
                have n4_ := Aside0.mk (blk_below (g := gb218) (o := .cells #[.int .i64 t215, .int .i64 t216] 32 (0, 0)) (by (with_reducible repeat (first | refine blk_drewN ?_ _ | refine blk_drew ?_ | refine blk_alloc ?_ _)); exact BK218.out) hb)
                have n5_ := Aside0.mk (blk_below (g := gb220) (o := .cells #[.int .i64 0, .int .i64 0] 32 (0, 0)) (by (with_reducible repeat (first | refine blk_drewN ?_ _ | refine blk_drew ?_ | refine blk_alloc ?_ _)); exact BK220.out) hb)
                have n6_ := Aside0.mk (below_step (by repeat (first | (with_reducible first | exact HB.out | apply below_alloc | apply pw_below_drewN | apply below_drew1 | refine below_set ?_ GE202.out | refine below_set ?_ GE206.out | refine below_set ?_ GE210.out | refine below_set ?_ GE214.out | refine below_set ?_ GE218.out | refine below_set ?_ GE220.out) | exact HB.out)) hb)
                have n7_ := Aside0.mk (hbox)
                have n8_ := Aside0.mk ((by rw [hg]; exact (below_size (by repeat (first | (with_reducible first | exact HB.out | apply below_alloc | apply pw_below_drewN | apply below_drew1 | refine below_set ?_ GE202.out | refine below_set ?_ GE206.out | refine below_set ?_ GE210.out | refine below_set ?_ GE214.out | refine below_set ?_ GE218.out | refine below_set ?_ GE220.out) | exact HB.out))) : w.heap.size ≤ gb219))
                have n9_ := Aside0.mk ((by rw [hg]; exact (below_size (by repeat (first | (with_reducible first | exact HB.out | apply below_alloc | apply pw_below_drewN | apply below_drew1 | refine below_set ?_ GE202.out | refine below_set ?_ GE206.out | refine below_set ?_ GE210.out | refine below_set ?_ GE214.out | refine below_set ?_ GE218.out | refine below_set ?_ GE220.out) | exact HB.out))) : w.heap.size ≤ gb219))
                have n10_ := Aside0.mk ((by rw [hg]; exact Nat.ne_of_lt (blk_lt (g := gb202) (o := .cells #[.int .i64 t200, .int .i64 t201] 32 (0, 0)) (by (with_reducible repeat (first | refine blk_drewN ?_ _ | refine blk_drew ?_ | refine blk_alloc ?_ _)); exact BK202.out)) : gb202 ≠ gb219))
                have n11_ := Aside0.mk ((by rw [hg]; exact Nat.ne_of_gt (blk_lt (g := gb202) (o := .cells #[.int .i64 t200, .int .i64 t201] 32 (0, 0)) (by (with_reducible repeat (first | refine blk_drewN ?_ _ | refine blk_drew ?_ | refine blk_alloc ?_ _)); exact BK202.out)) : gb219 ≠ gb202))
                have n12_ := Aside0.mk ((by rw [hg]; exact Nat.ne_of_lt (blk_lt (g := gb206) (o := .cells #[.int .i64 t203, .int .i64 t204] 32 (0, 0)) (by (with_reducible repeat (first | refine blk_drewN ?_ _ | refine blk_drew ?_ | refine blk_alloc ?_ _)); exact BK206.out)) : gb206 ≠ gb219))
                have n13_ := Aside0.mk ((by rw [hg]; exact Nat.ne_of_gt (blk_lt (g := gb206) (o := .cells #[.int .i64 t203, .int .i64 t204] 32 (0, 0)) (by (with_reducible repeat (first | refine blk_drewN ?_ _ | refine blk_drew ?_ | refine blk_alloc ?_ _)); exact BK206.out)) : gb219 ≠ gb206))
                have n14_ := Aside0.mk ((by rw [hg]; exact Nat.ne_of_lt (blk_lt (g := gb210) (o := .cells #[.int .i64 t207, .int .i64 t208] 32 (0, 0)) (by (with_reducible repeat (first | refine blk_drewN ?_ _ | refine blk_drew ?_ | refine blk_alloc ?_ _)); exact BK210.out)) : gb210 ≠ gb219))
                have n15_ := Aside0.mk ((by rw [hg]; exact Nat.ne_of_gt (blk_lt (g := gb210) (o := .cells #[.int .i64 t207, .int .i64 t208] 32 (0, 0)) (by (with_reducible repeat (first | refine blk_drewN ?_ _ | refine blk_drew ?_ | refine blk_alloc ?_ _)); exact BK210.out)) : gb219 ≠ gb210))
                have n16_ := Aside0.mk ((by rw [hg]; exact Nat.ne_of_lt (blk_lt (g := gb214) (o := .cells #[.int .i64 t211, .int .i64 t212] 32 (0, 0)) (by (with_reducible repeat (first | refine blk_drewN ?_ _ | refine blk_drew ?_ | refine blk_alloc ?_ _)); exact BK214.out)) : gb214 ≠ gb219))
                have n17_ := Aside0.mk ((by rw [hg]; exact Nat.ne_of_gt (blk_lt (g := gb214) (o := .cells #[.int .i64 t211, .int .i64 t212] 32 (0, 0)) (by (with_reducible repeat (first | refine blk_drewN ?_ _ | refine blk_drew ?_ | refine blk_alloc ?_ _)); exact BK214.out)) : gb219 ≠ gb214))
                have n18_ := Aside0.mk ((by rw [hg]; exact Nat.ne_of_lt (blk_lt (g := gb218) (o := .cells #[.int .i64 t215, .int .i64 t216] 32 (0, 0)) (by (with_reducible repeat (first | refine blk_drewN ?_ _ | refine blk_drew ?_ | refine blk_alloc ?_ _)); exact BK218.out)) : gb218 ≠ gb219))
                have n19_ := Aside0.mk ((by rw [hg]; exact Nat.ne_of_gt (blk_lt (g := gb218) (o := .cells #[.int .i64 t215, .int .i64 t216] 32 (0, 0)) (by (with_reducible repeat (first | refine blk_drewN ?_ _ | refine blk_drew ?_ | refine blk_alloc ?_ _)); exact BK218.out)) : gb219 ≠ gb218))
                have n20_ := Aside0.mk ((by rw [hg]; exact Nat.ne_of_lt (blk_lt (g := gb220) (o := .cells #[.int .i64 0, .int .i64 0] 32 (0, 0)) (by (with_reducible repeat (first | refine blk_drewN ?_ _ | refine blk_drew ?_ | refine blk_alloc ?_ _)); exact BK220.out)) : gb220 ≠ gb219))
                have n21_ := Aside0.mk ((by rw [hg]; exact Nat.ne_of_gt (blk_lt (g := gb220) (o := .cells #[.int .i64 0, .int .i64 0] 32 (0, 0)) (by (with_reducible repeat (first | refine blk_drewN ?_ _ | refine blk_drew ?_ | refine blk_alloc ?_ _)); exact BK220.out)) : gb219 ≠ gb220))
                clear BK202
                clear BK206
                clear BK210
                clear BK214
                clear BK218
                clear BK220
                clear HB
                have BK202 := n0_
                have BK206 := n1_
                have BK210 := n2_
                have BK214 := n3_
                have BK218 := n4_
                have BK220 := n5_
                have HB := n6_
                have BK219 := n7_
                have GW219 := n8_
                have GE219 := n9_
                have NB202_219 := n10_
                have NB219_202 := n11_
                have NB206_219 := n12_
                have NB219_206 := n13_
                have NB210_219 := n14_
                have NB219_210 := n15_
                have NB214_219 := n16_
                have NB219_214 := n17_
                have NB218_219 := n18_
                have NB219_218 := n19_
                have NB220_219 := n20_
                have NB219_220 := n21_
                clear n0_ n1_ n2_ n3_ n4_ n5_ n6_ n7_ n8_ n9_ n10_ n11_ n12_ n13_ n14_ n15_ n16_ n17_ n18_ n19_ n20_ n21_
                clear hb hbox hg
                refine hK.out _ _ ⟨(blk_cell BK202.out 0).trans rfl, (blk_cell BK202.out 1).trans rfl, (blk_cell BK206.out 0).trans rfl, (blk_cell BK206.out 1).trans rfl⟩ (fun hHeld => ?_)
                clear hK K
                refine norm_ (a' := ?_) ?_ ?_
                rotate_left
                · show Act.put _ (some 16) _ = _
                  simp only [Act.put, List.setIfInBounds_toArray, List.set_cons_zero, List.set_cons_succ, i64_w, i32_w]
                  rfl
                exact norm_ (by simp only [putAll, Act.put, List.setIfInBounds_toArray, List.set_cons_zero, List.set_cons_succ]) (hCont (gb219, gb220) _ ⟨hHeld, (by (with_reducible repeat (first | refine blk_drewN ?_ _ | refine blk_drew ?_ | refine blk_alloc ?_ _)); exact BK202.out), (by (with_reducible repeat (first | refine blk_drewN ?_ _ | refine blk_drew ?_ | refine blk_alloc ?_ _)); exact BK206.out), (by (with_reducible repeat (first | refine blk_drewN ?_ _ | refine blk_drew ?_ | refine blk_alloc ?_ _)); exact BK210.out), (by (with_reducible repeat (first | refine blk_drewN ?_ _ | refine blk_drew ?_ | refine blk_alloc ?_ _)); exact BK214.out), (by (with_reducible repeat (first | refine blk_drewN ?_ _ | refine blk_drew ?_ | refine blk_alloc ?_ _)); exact BK218.out), (by (with_reducible repeat (first | refine blk_drewN ?_ _ | refine blk_drew ?_ | refine blk_alloc ?_ _)); exact BK219.out), (by (with_reducible repeat (first | refine blk_drewN ?_ _ | refine blk_drew ?_ | refine blk_alloc ?_ _)); exact BK220.out), GW219.out, GE219.out, NB202_219.out, NB219_202.out, NB206_219.out, NB219_206.out, NB210_219.out, NB219_210.out, NB214_219.out, NB219_214.out, NB218_219.out, NB219_218.out, NB220_219.out, NB219_220.out, GW220.out, GE220.out, NB202_220.out, NB220_202.out, NB206_220.out, NB220_206.out, NB210_220.out, NB220_210.out, NB214_220.out, NB220_214.out, NB218_220.out, NB220_218.out, (by repeat (first | (with_reducible first | exact HB.out | apply below_alloc | apply pw_below_drewN | apply below_drew1 | refine below_set ?_ GE202.out | refine below_set ?_ GE206.out | refine below_set ?_ GE210.out | refine below_set ?_ GE214.out | refine below_set ?_ GE218.out | refine below_set ?_ GE220.out | refine below_set ?_ GE219.out) | exact HB.out))⟩)
            rintro ⟨gb219, gb220⟩ w106 ⟨hS_, h0_, h1_, h2_, h3_, h4_, h5_, h6_, h7_, h8_, h9_, h10_, h11_, h12_, h13_, h14_, h15_, h16_, h17_, h18_, h19_, h20_, h21_, h22_, h23_, h24_, h25_, h26_, h27_, h28_, h29_, h30_, h31_, h32_, h33_⟩
            have n0_ : Aside0 (w106.heap[gb202]? = some (.cells #[.int .i64 t200, .int .i64 t201] 32 (0, 0))) := ⟨h0_⟩
            have n1_ : Aside0 (w106.heap[gb206]? = some (.cells #[.int .i64 t203, .int .i64 t204] 32 (0, 0))) := ⟨h1_⟩
            have n2_ : Aside0 (w106.heap[gb210]? = some (.cells #[.int .i64 t207, .int .i64 t208] 32 (0, 0))) := ⟨h2_⟩
            have n3_ : Aside0 (w106.heap[gb214]? = some (.cells #[.int .i64 t211, .int .i64 t212] 32 (0, 0))) := ⟨h3_⟩
            have n4_ : Aside0 (w106.heap[gb218]? = some (.cells #[.int .i64 t215, .int .i64 t216] 32 (0, 0))) := ⟨h4_⟩
            have n5_ : Aside0 (w106.heap[gb219]? = some (.cells #[.int .i64 0, .int .i64 0] 32 (0, 0))) := ⟨h5_⟩
            have n6_ : Aside0 (w106.heap[gb220]? = some (.cells #[.int .i64 0, .int .i64 0] 32 (0, 0))) := ⟨h6_⟩
            have n7_ : Aside0 (w.heap.size ≤ gb219) := ⟨h7_⟩
            have n8_ : Aside0 (w.heap.size ≤ gb219) := ⟨h8_⟩
            have n9_ : Aside0 (gb202 ≠ gb219) := ⟨h9_⟩
            have n10_ : Aside0 (gb219 ≠ gb202) := ⟨h10_⟩
            have n11_ : Aside0 (gb206 ≠ gb219) := ⟨h11_⟩
            have n12_ : Aside0 (gb219 ≠ gb206) := ⟨h12_⟩
            have n13_ : Aside0 (gb210 ≠ gb219) := ⟨h13_⟩
            have n14_ : Aside0 (gb219 ≠ gb210) := ⟨h14_⟩
            have n15_ : Aside0 (gb214 ≠ gb219) := ⟨h15_⟩
            have n16_ : Aside0 (gb219 ≠ gb214) := ⟨h16_⟩
            have n17_ : Aside0 (gb218 ≠ gb219) := ⟨h17_⟩
            have n18_ : Aside0 (gb219 ≠ gb218) := ⟨h18_⟩
            have n19_ : Aside0 (gb220 ≠ gb219) := ⟨h19_⟩
            have n20_ : Aside0 (gb219 ≠ gb220) := ⟨h20_⟩
            have n21_ : Aside0 (w.heap.size ≤ gb220) := ⟨h21_⟩
            have n22_ : Aside0 (w.heap.size ≤ gb220) := ⟨h22_⟩
            have n23_ : Aside0 (gb202 ≠ gb220) := ⟨h23_⟩
            have n24_ : Aside0 (gb220 ≠ gb202) := ⟨h24_⟩
            have n25_ : Aside0 (gb206 ≠ gb220) := ⟨h25_⟩
            have n26_ : Aside0 (gb220 ≠ gb206) := ⟨h26_⟩
            have n27_ : Aside0 (gb210 ≠ gb220) := ⟨h27_⟩
            have n28_ : Aside0 (gb220 ≠ gb210) := ⟨h28_⟩
            have n29_ : Aside0 (gb214 ≠ gb220) := ⟨h29_⟩
            have n30_ : Aside0 (gb220 ≠ gb214) := ⟨h30_⟩
            have n31_ : Aside0 (gb218 ≠ gb220) := ⟨h31_⟩
            have n32_ : Aside0 (gb220 ≠ gb218) := ⟨h32_⟩
            have n33_ : Aside0 (Below w.heap.size w w106) := ⟨h33_⟩
            clear BK202
            clear BK206
            clear BK210
            clear BK214
            clear BK218
            clear HB
            clear h0_ h1_ h2_ h3_ h4_ h5_ h6_ h7_ h8_ h9_ h10_ h11_ h12_ h13_ h14_ h15_ h16_ h17_ h18_ h19_ h20_ h21_ h22_ h23_ h24_ h25_ h26_ h27_ h28_ h29_ h30_ h31_ h32_ h33_
            have BK202 := n0_
            have BK206 := n1_
            have BK210 := n2_
            have BK214 := n3_
            have BK218 := n4_
            have BK219 := n5_
            have BK220 := n6_
            have GW219 := n7_
            have GE219 := n8_
            have NB202_219 := n9_
            have NB219_202 := n10_
            have NB206_219 := n11_
            have NB219_206 := n12_
            have NB210_219 := n13_
            have NB219_210 := n14_
            have NB214_219 := n15_
            have NB219_214 := n16_
            have NB218_219 := n17_
            have NB219_218 := n18_
            have NB220_219 := n19_
            have NB219_220 := n20_
            have GW220 := n21_
            have GE220 := n22_
            have NB202_220 := n23_
            have NB220_202 := n24_
            have NB206_220 := n25_
            have NB220_206 := n26_
            have NB210_220 := n27_
            have NB220_210 := n28_
            have NB214_220 := n29_
            have NB220_214 := n30_
            have NB218_220 := n31_
            have NB220_218 := n32_
            have HB := n33_
            clear n0_ n1_ n2_ n3_ n4_ n5_ n6_ n7_ n8_ n9_ n10_ n11_ n12_ n13_ n14_ n15_ n16_ n17_ n18_ n19_ n20_ n21_ n22_ n23_ n24_ n25_ n26_ n27_ n28_ n29_ n30_ n31_ n32_ n33_
            have hHeld : w106.cell? ⟨gb202, 0, none⟩ = some (.int .i64 t200) ∧ w106.cell? ⟨gb202, 1, none⟩ = some (.int .i64 t201) ∧ w106.cell? ⟨gb206, 0, none⟩ = some (.int .i64 t203) ∧ w106.cell? ⟨gb206, 1, none⟩ = some (.int .i64 t204) := hS_
            refine norm_ (a' := ?_) ?_ ?_
            rotate_left
            · simp only [putAll, Act.put, List.setIfInBounds_toArray, List.set_cons_zero, List.set_cons_succ]
              rfl
            refine one_ (i := 4) (N := none) #[true, true, true, true, true, false] rfl rfl (by kernel_rfl) (by decide) (fun K hK => ?_)
            have hs107 : w106.cell? ⟨gb219, 0, none⟩ = some (.int .i64 0) := (blk_cell BK219.out 0).trans rfl
            have hfs107 := blk_frozen BK219.out 0
            have hns107_0 := NB202_219.out
            have hns107_1 := NB206_219.out
            have hns107_2 := NB210_219.out
            have hns107_3 := NB214_219.out
            have hns107_4 := NB218_219.out
            have hns107_6 := NB220_219.out
            have hms107_0 := NB219_202.out
            have hms107_1 := NB219_206.out
            have hms107_2 := NB219_210.out
            have hms107_3 := NB219_214.out
            have hms107_4 := NB219_218.out
            have hms107_6 := NB219_220.out
            have hs108 : w106.cell? ⟨gb219, 1, none⟩ = some (.int .i64 0) := (blk_cell BK219.out 1).trans rfl
            have hfs108 := blk_frozen BK219.out 1
            have hns108_0 := NB202_219.out
            have hns108_1 := NB206_219.out
            have hns108_2 := NB210_219.out
            have hns108_3 := NB214_219.out
            have hns108_4 := NB218_219.out
            have hns108_6 := NB220_219.out
            have hms108_0 := NB219_202.out
            have hms108_1 := NB219_206.out
            have hms108_2 := NB219_210.out
            have hms108_3 := NB219_214.out
            have hms108_4 := NB219_218.out
            have hms108_6 := NB219_220.out
            refine skip_ (w1 := ?_) (by rfl) rfl ?_ ?_
            rotate_left
            · go_simp
              rfl
            refine hK.out _ _ ⟨((cell_far (p := ⟨gb219, _, none⟩) NB202_219.out _).trans (((cell_far (p := ⟨gb219, _, none⟩) NB202_219.out _).trans (hHeld.1)))), ((cell_far (p := ⟨gb219, _, none⟩) NB202_219.out _).trans (((cell_far (p := ⟨gb219, _, none⟩) NB202_219.out _).trans (hHeld.2.1)))), ((cell_far (p := ⟨gb219, _, none⟩) NB206_219.out _).trans (((cell_far (p := ⟨gb219, _, none⟩) NB206_219.out _).trans (hHeld.2.2.1)))), ((cell_far (p := ⟨gb219, _, none⟩) NB206_219.out _).trans (((cell_far (p := ⟨gb219, _, none⟩) NB206_219.out _).trans (hHeld.2.2.2))))⟩ (fun hHeld => ?_)
            clear hK K
            refine one_ (i := 5) (N := none) #[true, true, true, true, true, true] rfl rfl (by kernel_rfl) (by decide) (fun K hK => ?_)
            have hs109 : w106.cell? ⟨gb220, 0, none⟩ = some (.int .i64 0) := (blk_cell BK220.out 0).trans rfl
            have hfs109 := blk_frozen BK220.out 0
            have hns109_0 := NB202_220.out
            have hns109_1 := NB206_220.out
            have hns109_2 := NB210_220.out
            have hns109_3 := NB214_220.out
            have hns109_4 := NB218_220.out
            have hns109_5 := NB219_220.out
            have hms109_0 := NB220_202.out
            have hms109_1 := NB220_206.out
            have hms109_2 := NB220_210.out
            have hms109_3 := NB220_214.out
            have hms109_4 := NB220_218.out
            have hms109_5 := NB220_219.out
            have hs110 : w106.cell? ⟨gb220, 1, none⟩ = some (.int .i64 0) := (blk_cell BK220.out 1).trans rfl
            have hfs110 := blk_frozen BK220.out 1
            have hns110_0 := NB202_220.out
            have hns110_1 := NB206_220.out
            have hns110_2 := NB210_220.out
            have hns110_3 := NB214_220.out
            have hns110_4 := NB218_220.out
            have hns110_5 := NB219_220.out
            have hms110_0 := NB220_202.out
            have hms110_1 := NB220_206.out
            have hms110_2 := NB220_210.out
            have hms110_3 := NB220_214.out
            have hms110_4 := NB220_218.out
            have hms110_5 := NB220_219.out
            refine skip_ (w1 := ?_) (by rfl) rfl ?_ ?_
            rotate_left
            · go_simp
              rfl
            refine hK.out _ _ ⟨((cell_far (p := ⟨gb220, _, none⟩) NB202_220.out _).trans (((cell_far (p := ⟨gb220, _, none⟩) NB202_220.out _).trans (hHeld.1)))), ((cell_far (p := ⟨gb220, _, none⟩) NB202_220.out _).trans (((cell_far (p := ⟨gb220, _, none⟩) NB202_220.out _).trans (hHeld.2.1)))), ((cell_far (p := ⟨gb220, _, none⟩) NB206_220.out _).trans (((cell_far (p := ⟨gb220, _, none⟩) NB206_220.out _).trans (hHeld.2.2.1)))), ((cell_far (p := ⟨gb220, _, none⟩) NB206_220.out _).trans (((cell_far (p := ⟨gb220, _, none⟩) NB206_220.out _).trans (hHeld.2.2.2))))⟩ (fun hHeld => ?_)
            clear hK K
            refine done_ (by kernel_rfl) ?_
            have hnb111 := NB206_202.out
            have hnc111 := NB202_206.out
            have hnb112 := NB206_210.out
            have hnc112 := NB210_206.out
            have hnb113 := NB206_214.out
            have hnc113 := NB214_206.out
            have hnb114 := NB206_218.out
            have hnc114 := NB218_206.out
            have hnb115 := NB206_219.out
            have hnc115 := NB219_206.out
            have hnb116 := NB206_220.out
            have hnc116 := NB220_206.out
            have hcz117_0 : w106.cell? ⟨gb206, 0, none⟩ = some (.int .i64 t203) := (blk_cell BK206.out 0).trans rfl
            have hcz117_1 : w106.cell? ⟨gb206, 1, none⟩ = some (.int .i64 t204) := (blk_cell BK206.out 1).trans rfl
            have hfz117_0 := blk_frozen BK206.out 0
            have hfz117_1 := blk_frozen BK206.out 1
            have hnb118 := NB202_210.out
            have hnc118 := NB210_202.out
            have hnb119 := NB202_214.out
            have hnc119 := NB214_202.out
            have hnb120 := NB202_218.out
            have hnc120 := NB218_202.out
            have hnb121 := NB202_219.out
            have hnc121 := NB219_202.out
            have hnb122 := NB202_220.out
            have hnc122 := NB220_202.out
            have hcz123_0 : w106.cell? ⟨gb202, 0, none⟩ = some (.int .i64 t200) := (blk_cell BK202.out 0).trans rfl
            have hcz123_1 : w106.cell? ⟨gb202, 1, none⟩ = some (.int .i64 t201) := (blk_cell BK202.out 1).trans rfl
            have hfz123_0 := blk_frozen BK202.out 0
            have hfz123_1 := blk_frozen BK202.out 1
            go_upto_if 95 with (fail)
            go_cut [] (fun wc => ∃ (kq : Nat) (x220000_101 : Int) (x220001_101 : Int) (x221000_101 : Int) (x221001_101 : Int), Aside0 (headgatelaw08_OrderPairs.j1 kq t211 t212 x220000_101 x220001_101 x221000_101 x221001_101 = some r) ∧ Aside0 (kq ≤ kj13) ∧ Aside0 (wc.heap[gb202]? = some (.cells #[.int .i64 t200, .int .i64 t201] 32 (0, 0))) ∧ Aside0 (wc.heap[gb206]? = some (.cells #[.int .i64 t203, .int .i64 t204] 32 (0, 0))) ∧ Aside0 (wc.heap[gb210]? = some (.cells #[.int .i64 t207, .int .i64 t208] 32 (0, 0))) ∧ Aside0 (wc.heap[gb214]? = some (.cells #[.int .i64 t211, .int .i64 t212] 32 (0, 0))) ∧ Aside0 (wc.heap[gb218]? = some (.cells #[.int .i64 t215, .int .i64 t216] 32 (0, 0))) ∧ Aside0 (wc.heap[gb219]? = some (.cells #[.int .i64 x220000_101, .int .i64 x220001_101] 32 (0, 0))) ∧ Aside0 (wc.heap[gb220]? = some (.cells #[.int .i64 x221000_101, .int .i64 x221001_101] 32 (0, 0))) ∧ Aside0 (Below w.heap.size w wc))
            case first =>
              have H := HC102.out
              clear HC102
              by_cases c124 : t203 < t200
              · rw [if_pos c124] at H
                have c124b0 : decide (t203 < t200) = true := decide_eq_true c124
                clear c124
                (first | rw [c124b0] | (simp only [i64_w, i32_w]; rw [c124b0]) | skip)
                have H' := Aside0.mk H
                clear H
                try go_wp2
                have n0_ : Aside0 (((((w106.setCell ⟨gb219, 0, none⟩ (.int .i64 t200)).setCell ⟨gb219, 1, none⟩ (.int .i64 t201)).setCell ⟨gb220, 0, none⟩ (.int .i64 t203)).setCell ⟨gb220, 1, none⟩ (.int .i64 t204)).heap[gb202]? = some (.cells #[.int .i64 t200, .int .i64 t201] 32 (0, 0))) := ⟨by (with_reducible repeat (first | refine blk_drewN ?_ _ | refine blk_drew ?_ | refine blk_alloc ?_ _)); refine blk_far ?_ NB202_220.out _; (with_reducible repeat (first | refine blk_drewN ?_ _ | refine blk_drew ?_ | refine blk_alloc ?_ _)); refine blk_far ?_ NB202_220.out _; (with_reducible repeat (first | refine blk_drewN ?_ _ | refine blk_drew ?_ | refine blk_alloc ?_ _)); refine blk_far ?_ NB202_219.out _; (with_reducible repeat (first | refine blk_drewN ?_ _ | refine blk_drew ?_ | refine blk_alloc ?_ _)); refine blk_far ?_ NB202_219.out _; (with_reducible repeat (first | refine blk_drewN ?_ _ | refine blk_drew ?_ | refine blk_alloc ?_ _)); exact BK202.out⟩
                have n1_ : Aside0 (((((w106.setCell ⟨gb219, 0, none⟩ (.int .i64 t200)).setCell ⟨gb219, 1, none⟩ (.int .i64 t201)).setCell ⟨gb220, 0, none⟩ (.int .i64 t203)).setCell ⟨gb220, 1, none⟩ (.int .i64 t204)).heap[gb206]? = some (.cells #[.int .i64 t203, .int .i64 t204] 32 (0, 0))) := ⟨by (with_reducible repeat (first | refine blk_drewN ?_ _ | refine blk_drew ?_ | refine blk_alloc ?_ _)); refine blk_far ?_ NB206_220.out _; (with_reducible repeat (first | refine blk_drewN ?_ _ | refine blk_drew ?_ | refine blk_alloc ?_ _)); refine blk_far ?_ NB206_220.out _; (with_reducible repeat (first | refine blk_drewN ?_ _ | refine blk_drew ?_ | refine blk_alloc ?_ _)); refine blk_far ?_ NB206_219.out _; (with_reducible repeat (first | refine blk_drewN ?_ _ | refine blk_drew ?_ | refine blk_alloc ?_ _)); refine blk_far ?_ NB206_219.out _; (with_reducible repeat (first | refine blk_drewN ?_ _ | refine blk_drew ?_ | refine blk_alloc ?_ _)); exact BK206.out⟩
                have n2_ : Aside0 (((((w106.setCell ⟨gb219, 0, none⟩ (.int .i64 t200)).setCell ⟨gb219, 1, none⟩ (.int .i64 t201)).setCell ⟨gb220, 0, none⟩ (.int .i64 t203)).setCell ⟨gb220, 1, none⟩ (.int .i64 t204)).heap[gb210]? = some (.cells #[.int .i64 t207, .int .i64 t208] 32 (0, 0))) := ⟨by (with_reducible repeat (first | refine blk_drewN ?_ _ | refine blk_drew ?_ | refine blk_alloc ?_ _)); refine blk_far ?_ NB210_220.out _; (with_reducible repeat (first | refine blk_drewN ?_ _ | refine blk_drew ?_ | refine blk_alloc ?_ _)); refine blk_far ?_ NB210_220.out _; (with_reducible repeat (first | refine blk_drewN ?_ _ | refine blk_drew ?_ | refine blk_alloc ?_ _)); refine blk_far ?_ NB210_219.out _; (with_reducible repeat (first | refine blk_drewN ?_ _ | refine blk_drew ?_ | refine blk_alloc ?_ _)); refine blk_far ?_ NB210_219.out _; (with_reducible repeat (first | refine blk_drewN ?_ _ | refine blk_drew ?_ | refine blk_alloc ?_ _)); exact BK210.out⟩
                have n3_ : Aside0 (((((w106.setCell ⟨gb219, 0, none⟩ (.int .i64 t200)).setCell ⟨gb219, 1, none⟩ (.int .i64 t201)).setCell ⟨gb220, 0, none⟩ (.int .i64 t203)).setCell ⟨gb220, 1, none⟩ (.int .i64 t204)).heap[gb214]? = some (.cells #[.int .i64 t211, .int .i64 t212] 32 (0, 0))) := ⟨by (with_reducible repeat (first | refine blk_drewN ?_ _ | refine blk_drew ?_ | refine blk_alloc ?_ _)); refine blk_far ?_ NB214_220.out _; (with_reducible repeat (first | refine blk_drewN ?_ _ | refine blk_drew ?_ | refine blk_alloc ?_ _)); refine blk_far ?_ NB214_220.out _; (with_reducible repeat (first | refine blk_drewN ?_ _ | refine blk_drew ?_ | refine blk_alloc ?_ _)); refine blk_far ?_ NB214_219.out _; (with_reducible repeat (first | refine blk_drewN ?_ _ | refine blk_drew ?_ | refine blk_alloc ?_ _)); refine blk_far ?_ NB214_219.out _; (with_reducible repeat (first | refine blk_drewN ?_ _ | refine blk_drew ?_ | refine blk_alloc ?_ _)); exact BK214.out⟩
                have n4_ : Aside0 (((((w106.setCell ⟨gb219, 0, none⟩ (.int .i64 t200)).setCell ⟨gb219, 1, none⟩ (.int .i64 t201)).setCell ⟨gb220, 0, none⟩ (.int .i64 t203)).setCell ⟨gb220, 1, none⟩ (.int .i64 t204)).heap[gb218]? = some (.cells #[.int .i64 t215, .int .i64 t216] 32 (0, 0))) := ⟨by (with_reducible repeat (first | refine blk_drewN ?_ _ | refine blk_drew ?_ | refine blk_alloc ?_ _)); refine blk_far ?_ NB218_220.out _; (with_reducible repeat (first | refine blk_drewN ?_ _ | refine blk_drew ?_ | refine blk_alloc ?_ _)); refine blk_far ?_ NB218_220.out _; (with_reducible repeat (first | refine blk_drewN ?_ _ | refine blk_drew ?_ | refine blk_alloc ?_ _)); refine blk_far ?_ NB218_219.out _; (with_reducible repeat (first | refine blk_drewN ?_ _ | refine blk_drew ?_ | refine blk_alloc ?_ _)); refine blk_far ?_ NB218_219.out _; (with_reducible repeat (first | refine blk_drewN ?_ _ | refine blk_drew ?_ | refine blk_alloc ?_ _)); exact BK218.out⟩
                have n5_ : Aside0 (((((w106.setCell ⟨gb219, 0, none⟩ (.int .i64 t200)).setCell ⟨gb219, 1, none⟩ (.int .i64 t201)).setCell ⟨gb220, 0, none⟩ (.int .i64 t203)).setCell ⟨gb220, 1, none⟩ (.int .i64 t204)).heap[gb219]? = some (.cells #[.int .i64 t200, .int .i64 t201] 32 (0, 0))) := ⟨by (with_reducible repeat (first | refine blk_drewN ?_ _ | refine blk_drew ?_ | refine blk_alloc ?_ _)); refine blk_far ?_ NB219_220.out _; (with_reducible repeat (first | refine blk_drewN ?_ _ | refine blk_drew ?_ | refine blk_alloc ?_ _)); refine blk_far ?_ NB219_220.out _; (with_reducible repeat (first | refine blk_drewN ?_ _ | refine blk_drew ?_ | refine blk_alloc ?_ _)); refine blk_put (cs := #[.int .i64 t200, .int .i64 0]) ?_ 1 _ rfl; (with_reducible repeat (first | refine blk_drewN ?_ _ | refine blk_drew ?_ | refine blk_alloc ?_ _)); refine blk_put (cs := #[.int .i64 0, .int .i64 0]) ?_ 0 _ rfl; (with_reducible repeat (first | refine blk_drewN ?_ _ | refine blk_drew ?_ | refine blk_alloc ?_ _)); exact BK219.out⟩
                have n6_ : Aside0 (((((w106.setCell ⟨gb219, 0, none⟩ (.int .i64 t200)).setCell ⟨gb219, 1, none⟩ (.int .i64 t201)).setCell ⟨gb220, 0, none⟩ (.int .i64 t203)).setCell ⟨gb220, 1, none⟩ (.int .i64 t204)).heap[gb220]? = some (.cells #[.int .i64 t203, .int .i64 t204] 32 (0, 0))) := ⟨by (with_reducible repeat (first | refine blk_drewN ?_ _ | refine blk_drew ?_ | refine blk_alloc ?_ _)); refine blk_put (cs := #[.int .i64 t203, .int .i64 0]) ?_ 1 _ rfl; (with_reducible repeat (first | refine blk_drewN ?_ _ | refine blk_drew ?_ | refine blk_alloc ?_ _)); refine blk_put (cs := #[.int .i64 0, .int .i64 0]) ?_ 0 _ rfl; (with_reducible repeat (first | refine blk_drewN ?_ _ | refine blk_drew ?_ | refine blk_alloc ?_ _)); refine blk_far ?_ NB220_219.out _; (with_reducible repeat (first | refine blk_drewN ?_ _ | refine blk_drew ?_ | refine blk_alloc ?_ _)); refine blk_far ?_ NB220_219.out _; (with_reducible repeat (first | refine blk_drewN ?_ _ | refine blk_drew ?_ | refine blk_alloc ?_ _)); exact BK220.out⟩
                have n7_ : Aside0 (Below w.heap.size w ((((w106.setCell ⟨gb219, 0, none⟩ (.int .i64 t200)).setCell ⟨gb219, 1, none⟩ (.int .i64 t201)).setCell ⟨gb220, 0, none⟩ (.int .i64 t203)).setCell ⟨gb220, 1, none⟩ (.int .i64 t204))) := ⟨by repeat (first | (with_reducible first | exact HB.out | apply below_alloc | apply pw_below_drewN | apply below_drew1 | refine below_set ?_ GE202.out | refine below_set ?_ GE206.out | refine below_set ?_ GE210.out | refine below_set ?_ GE214.out | refine below_set ?_ GE218.out | refine below_set ?_ GE219.out | refine below_set ?_ GE220.out) | exact HB.out)⟩
                (try clear BK202)
                (try clear BK206)
                (try clear BK210)
                (try clear BK214)
                (try clear BK218)
                (try clear BK219)
                (try clear BK220)
                (try clear HB)
                generalize ((((w106.setCell ⟨gb219, 0, none⟩ (.int .i64 t200)).setCell ⟨gb219, 1, none⟩ (.int .i64 t201)).setCell ⟨gb220, 0, none⟩ (.int .i64 t203)).setCell ⟨gb220, 1, none⟩ (.int .i64 t204)) = w125 at n0_ n1_ n2_ n3_ n4_ n5_ n6_ n7_ ⊢
                have BK202 := n0_
                have BK206 := n1_
                have BK210 := n2_
                have BK214 := n3_
                have BK218 := n4_
                have BK219 := n5_
                have BK220 := n6_
                have HB := n7_
                clear n0_ n1_ n2_ n3_ n4_ n5_ n6_ n7_
                have n0_ := Aside0.mk (blk_drew BK202.out)
                have n1_ := Aside0.mk (blk_drew BK206.out)
                have n2_ := Aside0.mk (blk_drew BK210.out)
                have n3_ := Aside0.mk (blk_drew BK214.out)
                have n4_ := Aside0.mk (blk_drew BK218.out)
                have n5_ := Aside0.mk (blk_drew BK219.out)
                have n6_ := Aside0.mk (blk_drew BK220.out)
                have n7_ := Aside0.mk (below_drew1 HB.out)
                clear BK202
                clear BK206
                clear BK210
                clear BK214
                clear BK218
                clear BK219
                clear BK220
                clear HB
                have BK202 := n0_
                have BK206 := n1_
                have BK210 := n2_
                have BK214 := n3_
                have BK218 := n4_
                have BK219 := n5_
                have BK220 := n6_
                have HB := n7_
                clear n0_ n1_ n2_ n3_ n4_ n5_ n6_ n7_
                refine start_ (n := 4) (S := fun w' => w'.cell? ⟨gb206, 0, none⟩ = some (.int .i64 t203) ∧ w'.cell? ⟨gb206, 1, none⟩ = some (.int .i64 t204) ∧ w'.cell? ⟨gb202, 0, none⟩ = some (.int .i64 t200) ∧ w'.cell? ⟨gb202, 1, none⟩ = some (.int .i64 t201)) (ds := []) #[false, false, false, false] (by kernel_rfl) rfl rfl ⟨(blk_cell BK206.out 0).trans rfl, (blk_cell BK206.out 1).trans rfl, (blk_cell BK202.out 0).trans rfl, (blk_cell BK202.out 1).trans rfl⟩ (fun hHeld => ?_)
                generalize w125.drew = w126 at BK202 BK206 BK210 BK214 BK218 BK219 BK220 HB hHeld ⊢
                refine take_ (i := 0) (N := some 96) (v := ?_) (a' := ?_) #[true, false, false, false] rfl rfl (by kernel_rfl) (fun _ _ _ h => h) (Or.inl ⟨by rfl, ?_⟩) hHeld ?_ ?_
                rotate_left
                · rintro w' ⟨s0, s1, s2, s3⟩
                  go_simp
                  with_reducible rfl
                rotate_left
                · simp only [Act.put, List.setIfInBounds_toArray, List.set_cons_zero, List.set_cons_succ, i64_w, i32_w]
                  rfl
                refine take_ (i := 1) (N := some 97) (v := ?_) (a' := ?_) #[true, true, false, false] rfl rfl (by kernel_rfl) (fun _ _ _ h => h) (Or.inl ⟨by rfl, ?_⟩) hHeld ?_ ?_
                rotate_left
                · rintro w' ⟨s0, s1, s2, s3⟩
                  go_simp
                  with_reducible rfl
                rotate_left
                · simp only [Act.put, List.setIfInBounds_toArray, List.set_cons_zero, List.set_cons_succ, i64_w, i32_w]
                  rfl
                refine one_ (i := 2) (N := none) #[true, true, true, false] rfl rfl (by kernel_rfl) (by decide) (fun K hK => ?_)
                have hs127 : w126.cell? ⟨gb219, 0, none⟩ = some (.int .i64 t200) := (blk_cell BK219.out 0).trans rfl
                have hfs127 := blk_frozen BK219.out 0
                have hns127_0 := NB202_219.out
                have hns127_1 := NB206_219.out
                have hns127_2 := NB210_219.out
                have hns127_3 := NB214_219.out
                have hns127_4 := NB218_219.out
                have hns127_6 := NB220_219.out
                have hms127_0 := NB219_202.out
                have hms127_1 := NB219_206.out
                have hms127_2 := NB219_210.out
                have hms127_3 := NB219_214.out
                have hms127_4 := NB219_218.out
                have hms127_6 := NB219_220.out
                have hs128 : w126.cell? ⟨gb219, 1, none⟩ = some (.int .i64 t201) := (blk_cell BK219.out 1).trans rfl
                have hfs128 := blk_frozen BK219.out 1
                have hns128_0 := NB202_219.out
                have hns128_1 := NB206_219.out
                have hns128_2 := NB210_219.out
                have hns128_3 := NB214_219.out
                have hns128_4 := NB218_219.out
                have hns128_6 := NB220_219.out
                have hms128_0 := NB219_202.out
                have hms128_1 := NB219_206.out
                have hms128_2 := NB219_210.out
                have hms128_3 := NB219_214.out
                have hms128_4 := NB219_218.out
                have hms128_6 := NB219_220.out
                refine skip_ (w1 := ?_) (by rfl) rfl ?_ ?_
                rotate_left
                · go_simp
                  rfl
                refine hK.out _ _ ⟨((cell_far (p := ⟨gb219, _, none⟩) NB206_219.out _).trans (((cell_far (p := ⟨gb219, _, none⟩) NB206_219.out _).trans (hHeld.1)))), ((cell_far (p := ⟨gb219, _, none⟩) NB206_219.out _).trans (((cell_far (p := ⟨gb219, _, none⟩) NB206_219.out _).trans (hHeld.2.1)))), ((cell_far (p := ⟨gb219, _, none⟩) NB202_219.out _).trans (((cell_far (p := ⟨gb219, _, none⟩) NB202_219.out _).trans (hHeld.2.2.1)))), ((cell_far (p := ⟨gb219, _, none⟩) NB202_219.out _).trans (((cell_far (p := ⟨gb219, _, none⟩) NB202_219.out _).trans (hHeld.2.2.2))))⟩ (fun hHeld => ?_)
                clear hK K
                refine one_ (i := 3) (N := none) #[true, true, true, true] rfl rfl (by kernel_rfl) (by decide) (fun K hK => ?_)
                have hs129 : w126.cell? ⟨gb220, 0, none⟩ = some (.int .i64 t203) := (blk_cell BK220.out 0).trans rfl
                have hfs129 := blk_frozen BK220.out 0
                have hns129_0 := NB202_220.out
                have hns129_1 := NB206_220.out
                have hns129_2 := NB210_220.out
                have hns129_3 := NB214_220.out
                have hns129_4 := NB218_220.out
                have hns129_5 := NB219_220.out
                have hms129_0 := NB220_202.out
                have hms129_1 := NB220_206.out
                have hms129_2 := NB220_210.out
                have hms129_3 := NB220_214.out
                have hms129_4 := NB220_218.out
                have hms129_5 := NB220_219.out
                have hs130 : w126.cell? ⟨gb220, 1, none⟩ = some (.int .i64 t204) := (blk_cell BK220.out 1).trans rfl
                have hfs130 := blk_frozen BK220.out 1
                have hns130_0 := NB202_220.out
                have hns130_1 := NB206_220.out
                have hns130_2 := NB210_220.out
                have hns130_3 := NB214_220.out
                have hns130_4 := NB218_220.out
                have hns130_5 := NB219_220.out
                have hms130_0 := NB220_202.out
                have hms130_1 := NB220_206.out
                have hms130_2 := NB220_210.out
                have hms130_3 := NB220_214.out
                have hms130_4 := NB220_218.out
                have hms130_5 := NB220_219.out
                refine skip_ (w1 := ?_) (by rfl) rfl ?_ ?_
                rotate_left
                · go_simp
                  rfl
                refine hK.out _ _ ⟨((cell_far (p := ⟨gb220, _, none⟩) NB206_220.out _).trans (((cell_far (p := ⟨gb220, _, none⟩) NB206_220.out _).trans (hHeld.1)))), ((cell_far (p := ⟨gb220, _, none⟩) NB206_220.out _).trans (((cell_far (p := ⟨gb220, _, none⟩) NB206_220.out _).trans (hHeld.2.1)))), ((cell_far (p := ⟨gb220, _, none⟩) NB202_220.out _).trans (((cell_far (p := ⟨gb220, _, none⟩) NB202_220.out _).trans (hHeld.2.2.1)))), ((cell_far (p := ⟨gb220, _, none⟩) NB202_220.out _).trans (((cell_far (p := ⟨gb220, _, none⟩) NB202_220.out _).trans (hHeld.2.2.2))))⟩ (fun hHeld => ?_)
                clear hK K
                refine done_ (by kernel_rfl) ?_
                try go_wp2
                go_meet
                case rel => exact ⟨_, (t203), (t204), (t200), (t201), H', ⟨by have := HJ13.out; first | omega | exact Nat.le_refl _⟩, ⟨by (with_reducible repeat (first | refine blk_drewN ?_ _ | refine blk_drew ?_ | refine blk_alloc ?_ _)); refine blk_far ?_ NB202_220.out _; (with_reducible repeat (first | refine blk_drewN ?_ _ | refine blk_drew ?_ | refine blk_alloc ?_ _)); refine blk_far ?_ NB202_220.out _; (with_reducible repeat (first | refine blk_drewN ?_ _ | refine blk_drew ?_ | refine blk_alloc ?_ _)); refine blk_far ?_ NB202_219.out _; (with_reducible repeat (first | refine blk_drewN ?_ _ | refine blk_drew ?_ | refine blk_alloc ?_ _)); refine blk_far ?_ NB202_219.out _; (with_reducible repeat (first | refine blk_drewN ?_ _ | refine blk_drew ?_ | refine blk_alloc ?_ _)); exact BK202.out⟩, ⟨by (with_reducible repeat (first | refine blk_drewN ?_ _ | refine blk_drew ?_ | refine blk_alloc ?_ _)); refine blk_far ?_ NB206_220.out _; (with_reducible repeat (first | refine blk_drewN ?_ _ | refine blk_drew ?_ | refine blk_alloc ?_ _)); refine blk_far ?_ NB206_220.out _; (with_reducible repeat (first | refine blk_drewN ?_ _ | refine blk_drew ?_ | refine blk_alloc ?_ _)); refine blk_far ?_ NB206_219.out _; (with_reducible repeat (first | refine blk_drewN ?_ _ | refine blk_drew ?_ | refine blk_alloc ?_ _)); refine blk_far ?_ NB206_219.out _; (with_reducible repeat (first | refine blk_drewN ?_ _ | refine blk_drew ?_ | refine blk_alloc ?_ _)); exact BK206.out⟩, ⟨by (with_reducible repeat (first | refine blk_drewN ?_ _ | refine blk_drew ?_ | refine blk_alloc ?_ _)); refine blk_far ?_ NB210_220.out _; (with_reducible repeat (first | refine blk_drewN ?_ _ | refine blk_drew ?_ | refine blk_alloc ?_ _)); refine blk_far ?_ NB210_220.out _; (with_reducible repeat (first | refine blk_drewN ?_ _ | refine blk_drew ?_ | refine blk_alloc ?_ _)); refine blk_far ?_ NB210_219.out _; (with_reducible repeat (first | refine blk_drewN ?_ _ | refine blk_drew ?_ | refine blk_alloc ?_ _)); refine blk_far ?_ NB210_219.out _; (with_reducible repeat (first | refine blk_drewN ?_ _ | refine blk_drew ?_ | refine blk_alloc ?_ _)); exact BK210.out⟩, ⟨by (with_reducible repeat (first | refine blk_drewN ?_ _ | refine blk_drew ?_ | refine blk_alloc ?_ _)); refine blk_far ?_ NB214_220.out _; (with_reducible repeat (first | refine blk_drewN ?_ _ | refine blk_drew ?_ | refine blk_alloc ?_ _)); refine blk_far ?_ NB214_220.out _; (with_reducible repeat (first | refine blk_drewN ?_ _ | refine blk_drew ?_ | refine blk_alloc ?_ _)); refine blk_far ?_ NB214_219.out _; (with_reducible repeat (first | refine blk_drewN ?_ _ | refine blk_drew ?_ | refine blk_alloc ?_ _)); refine blk_far ?_ NB214_219.out _; (with_reducible repeat (first | refine blk_drewN ?_ _ | refine blk_drew ?_ | refine blk_alloc ?_ _)); exact BK214.out⟩, ⟨by (with_reducible repeat (first | refine blk_drewN ?_ _ | refine blk_drew ?_ | refine blk_alloc ?_ _)); refine blk_far ?_ NB218_220.out _; (with_reducible repeat (first | refine blk_drewN ?_ _ | refine blk_drew ?_ | refine blk_alloc ?_ _)); refine blk_far ?_ NB218_220.out _; (with_reducible repeat (first | refine blk_drewN ?_ _ | refine blk_drew ?_ | refine blk_alloc ?_ _)); refine blk_far ?_ NB218_219.out _; (with_reducible repeat (first | refine blk_drewN ?_ _ | refine blk_drew ?_ | refine blk_alloc ?_ _)); refine blk_far ?_ NB218_219.out _; (with_reducible repeat (first | refine blk_drewN ?_ _ | refine blk_drew ?_ | refine blk_alloc ?_ _)); exact BK218.out⟩, ⟨by (with_reducible repeat (first | refine blk_drewN ?_ _ | refine blk_drew ?_ | refine blk_alloc ?_ _)); refine blk_far ?_ NB219_220.out _; (with_reducible repeat (first | refine blk_drewN ?_ _ | refine blk_drew ?_ | refine blk_alloc ?_ _)); refine blk_far ?_ NB219_220.out _; (with_reducible repeat (first | refine blk_drewN ?_ _ | refine blk_drew ?_ | refine blk_alloc ?_ _)); refine blk_put (cs := #[.int .i64 t203, .int .i64 t201]) ?_ 1 _ rfl; (with_reducible repeat (first | refine blk_drewN ?_ _ | refine blk_drew ?_ | refine blk_alloc ?_ _)); refine blk_put (cs := #[.int .i64 t200, .int .i64 t201]) ?_ 0 _ rfl; (with_reducible repeat (first | refine blk_drewN ?_ _ | refine blk_drew ?_ | refine blk_alloc ?_ _)); exact BK219.out⟩, ⟨by (with_reducible repeat (first | refine blk_drewN ?_ _ | refine blk_drew ?_ | refine blk_alloc ?_ _)); refine blk_put (cs := #[.int .i64 t200, .int .i64 t204]) ?_ 1 _ rfl; (with_reducible repeat (first | refine blk_drewN ?_ _ | refine blk_drew ?_ | refine blk_alloc ?_ _)); refine blk_put (cs := #[.int .i64 t203, .int .i64 t204]) ?_ 0 _ rfl; (with_reducible repeat (first | refine blk_drewN ?_ _ | refine blk_drew ?_ | refine blk_alloc ?_ _)); refine blk_far ?_ NB220_219.out _; (with_reducible repeat (first | refine blk_drewN ?_ _ | refine blk_drew ?_ | refine blk_alloc ?_ _)); refine blk_far ?_ NB220_219.out _; (with_reducible repeat (first | refine blk_drewN ?_ _ | refine blk_drew ?_ | refine blk_alloc ?_ _)); exact BK220.out⟩, ⟨by repeat (first | (with_reducible first | exact HB.out | apply below_alloc | apply pw_below_drewN | apply below_drew1 | refine below_set ?_ GE202.out | refine below_set ?_ GE206.out | refine below_set ?_ GE210.out | refine below_set ?_ GE214.out | refine below_set ?_ GE218.out | refine below_set ?_ GE219.out | refine below_set ?_ GE220.out) | exact HB.out)⟩⟩
              · rw [if_neg c124] at H
                have c124b0 : decide (t203 < t200) = false := decide_eq_false c124
                clear c124
                (first | rw [c124b0] | (simp only [i64_w, i32_w]; rw [c124b0]) | skip)
                have H' := Aside0.mk H
                clear H
                go_wp2
                go_meet
                case rel => exact ⟨_, (t200), (t201), (t203), (t204), H', ⟨by have := HJ13.out; first | omega | exact Nat.le_refl _⟩, ⟨by (with_reducible repeat (first | refine blk_drewN ?_ _ | refine blk_drew ?_ | refine blk_alloc ?_ _)); refine blk_far ?_ NB202_220.out _; (with_reducible repeat (first | refine blk_drewN ?_ _ | refine blk_drew ?_ | refine blk_alloc ?_ _)); refine blk_far ?_ NB202_220.out _; (with_reducible repeat (first | refine blk_drewN ?_ _ | refine blk_drew ?_ | refine blk_alloc ?_ _)); refine blk_far ?_ NB202_219.out _; (with_reducible repeat (first | refine blk_drewN ?_ _ | refine blk_drew ?_ | refine blk_alloc ?_ _)); refine blk_far ?_ NB202_219.out _; (with_reducible repeat (first | refine blk_drewN ?_ _ | refine blk_drew ?_ | refine blk_alloc ?_ _)); exact BK202.out⟩, ⟨by (with_reducible repeat (first | refine blk_drewN ?_ _ | refine blk_drew ?_ | refine blk_alloc ?_ _)); refine blk_far ?_ NB206_220.out _; (with_reducible repeat (first | refine blk_drewN ?_ _ | refine blk_drew ?_ | refine blk_alloc ?_ _)); refine blk_far ?_ NB206_220.out _; (with_reducible repeat (first | refine blk_drewN ?_ _ | refine blk_drew ?_ | refine blk_alloc ?_ _)); refine blk_far ?_ NB206_219.out _; (with_reducible repeat (first | refine blk_drewN ?_ _ | refine blk_drew ?_ | refine blk_alloc ?_ _)); refine blk_far ?_ NB206_219.out _; (with_reducible repeat (first | refine blk_drewN ?_ _ | refine blk_drew ?_ | refine blk_alloc ?_ _)); exact BK206.out⟩, ⟨by (with_reducible repeat (first | refine blk_drewN ?_ _ | refine blk_drew ?_ | refine blk_alloc ?_ _)); refine blk_far ?_ NB210_220.out _; (with_reducible repeat (first | refine blk_drewN ?_ _ | refine blk_drew ?_ | refine blk_alloc ?_ _)); refine blk_far ?_ NB210_220.out _; (with_reducible repeat (first | refine blk_drewN ?_ _ | refine blk_drew ?_ | refine blk_alloc ?_ _)); refine blk_far ?_ NB210_219.out _; (with_reducible repeat (first | refine blk_drewN ?_ _ | refine blk_drew ?_ | refine blk_alloc ?_ _)); refine blk_far ?_ NB210_219.out _; (with_reducible repeat (first | refine blk_drewN ?_ _ | refine blk_drew ?_ | refine blk_alloc ?_ _)); exact BK210.out⟩, ⟨by (with_reducible repeat (first | refine blk_drewN ?_ _ | refine blk_drew ?_ | refine blk_alloc ?_ _)); refine blk_far ?_ NB214_220.out _; (with_reducible repeat (first | refine blk_drewN ?_ _ | refine blk_drew ?_ | refine blk_alloc ?_ _)); refine blk_far ?_ NB214_220.out _; (with_reducible repeat (first | refine blk_drewN ?_ _ | refine blk_drew ?_ | refine blk_alloc ?_ _)); refine blk_far ?_ NB214_219.out _; (with_reducible repeat (first | refine blk_drewN ?_ _ | refine blk_drew ?_ | refine blk_alloc ?_ _)); refine blk_far ?_ NB214_219.out _; (with_reducible repeat (first | refine blk_drewN ?_ _ | refine blk_drew ?_ | refine blk_alloc ?_ _)); exact BK214.out⟩, ⟨by (with_reducible repeat (first | refine blk_drewN ?_ _ | refine blk_drew ?_ | refine blk_alloc ?_ _)); refine blk_far ?_ NB218_220.out _; (with_reducible repeat (first | refine blk_drewN ?_ _ | refine blk_drew ?_ | refine blk_alloc ?_ _)); refine blk_far ?_ NB218_220.out _; (with_reducible repeat (first | refine blk_drewN ?_ _ | refine blk_drew ?_ | refine blk_alloc ?_ _)); refine blk_far ?_ NB218_219.out _; (with_reducible repeat (first | refine blk_drewN ?_ _ | refine blk_drew ?_ | refine blk_alloc ?_ _)); refine blk_far ?_ NB218_219.out _; (with_reducible repeat (first | refine blk_drewN ?_ _ | refine blk_drew ?_ | refine blk_alloc ?_ _)); exact BK218.out⟩, ⟨by (with_reducible repeat (first | refine blk_drewN ?_ _ | refine blk_drew ?_ | refine blk_alloc ?_ _)); refine blk_far ?_ NB219_220.out _; (with_reducible repeat (first | refine blk_drewN ?_ _ | refine blk_drew ?_ | refine blk_alloc ?_ _)); refine blk_far ?_ NB219_220.out _; (with_reducible repeat (first | refine blk_drewN ?_ _ | refine blk_drew ?_ | refine blk_alloc ?_ _)); refine blk_put (cs := #[.int .i64 t200, .int .i64 0]) ?_ 1 _ rfl; (with_reducible repeat (first | refine blk_drewN ?_ _ | refine blk_drew ?_ | refine blk_alloc ?_ _)); refine blk_put (cs := #[.int .i64 0, .int .i64 0]) ?_ 0 _ rfl; (with_reducible repeat (first | refine blk_drewN ?_ _ | refine blk_drew ?_ | refine blk_alloc ?_ _)); exact BK219.out⟩, ⟨by (with_reducible repeat (first | refine blk_drewN ?_ _ | refine blk_drew ?_ | refine blk_alloc ?_ _)); refine blk_put (cs := #[.int .i64 t203, .int .i64 0]) ?_ 1 _ rfl; (with_reducible repeat (first | refine blk_drewN ?_ _ | refine blk_drew ?_ | refine blk_alloc ?_ _)); refine blk_put (cs := #[.int .i64 0, .int .i64 0]) ?_ 0 _ rfl; (with_reducible repeat (first | refine blk_drewN ?_ _ | refine blk_drew ?_ | refine blk_alloc ?_ _)); refine blk_far ?_ NB220_219.out _; (with_reducible repeat (first | refine blk_drewN ?_ _ | refine blk_drew ?_ | refine blk_alloc ?_ _)); refine blk_far ?_ NB220_219.out _; (with_reducible repeat (first | refine blk_drewN ?_ _ | refine blk_drew ?_ | refine blk_alloc ?_ _)); exact BK220.out⟩, ⟨by repeat (first | (with_reducible first | exact HB.out | apply below_alloc | apply pw_below_drewN | apply below_drew1 | refine below_set ?_ GE202.out | refine below_set ?_ GE206.out | refine below_set ?_ GE210.out | refine below_set ?_ GE214.out | refine below_set ?_ GE218.out | refine below_set ?_ GE219.out | refine below_set ?_ GE220.out) | exact HB.out)⟩⟩
            case rest =>
              clear HC102
              try clear c1
              try clear p2
              try clear c11
              try clear c12
              try clear c111
              try clear c112
              try clear c113
              try clear c114
              try clear c115
              try clear c116
              try clear c118
              try clear c119
              try clear c120
              try clear c121
              try clear c122
              try clear c124
              try clear c124b0
              try clear hcz117_0
              try clear hcz117_1
              try clear hcz123_0
              try clear hcz123_1
              try clear hfz117_0
              try clear hfz117_1
              try clear hfz123_0
              try clear hfz123_1
              obtain ⟨kq, x220000_101, x220001_101, x221000_101, x221001_101, HA, HJ101, BK202, BK206, BK210, BK214, BK218, BK219, BK220, HB⟩ := hcut
              cases kq with
              | zero => exact absurd HA.out (by simp [headgatelaw08_OrderPairs.j1])
              | succ kj101 =>
                have H := HA.out
                clear HA
                simp only [headgatelaw08_OrderPairs.j1] at H
                obtain ⟨y221, hy221⟩ : ∃ y_ : List (S32), y_ = (([(⟨x220000_101, x220001_101⟩ : S32), (⟨x221000_101, x221001_101⟩ : S32)] : List (S32))) := ⟨_, rfl⟩
                replace H : ((order_Frames.f kj101 y221).bind fun bt224 => ((order_Frames.f kj101 (([(⟨t211, t212⟩ : S32)] : List (S32)))).bind fun bt231 => (if bt224.2 = 0 then (if bt231.2 = 0 then ((headgatekit_SameInts.f kj101 bt224.1 bt231.1).bind fun t235 => (if t235 = true then ((headgatelaw08_awake.f kj101).bind fun t236 => (some t236)) else (some false))) else (some false)) else (some false)))) = some r := by first | (rw [hy221]; with_reducible exact H) | (have H2_ := (Option.bind_some _ _).symm.trans H; rw [hy221]; with_reducible exact H2_) | (have H2_ := (Option.bind_some _ _).symm.trans H; with_reducible exact H2_) | with_reducible exact H | (rw [hy221]; exact H) | exact H
                have Ny221 := Aside0.mk hy221
                clear hy221
                replace H := Option.bind_eq_some_iff.mp H
                obtain ⟨⟨t224, t225⟩, A1310, H⟩ := H
                replace H : ((order_Frames.f kj101 (([(⟨t211, t212⟩ : S32)] : List (S32)))).bind fun bt231 => (if t225 = 0 then (if bt231.2 = 0 then ((headgatekit_SameInts.f kj101 t224 bt231.1).bind fun t235 => (if t235 = true then ((headgatelaw08_awake.f kj101).bind fun t236 => (some t236)) else (some false))) else (some false)) else (some false))) = some r := H
                have A131 := Aside0.mk A1310
                clear A1310
                obtain ⟨y228, hy228⟩ : ∃ y_ : List (S32), y_ = (([(⟨t211, t212⟩ : S32)] : List (S32))) := ⟨_, rfl⟩
                replace H : ((order_Frames.f kj101 y228).bind fun bt231 => (if t225 = 0 then (if bt231.2 = 0 then ((headgatekit_SameInts.f kj101 t224 bt231.1).bind fun t235 => (if t235 = true then ((headgatelaw08_awake.f kj101).bind fun t236 => (some t236)) else (some false))) else (some false)) else (some false))) = some r := by first | (rw [hy228]; with_reducible exact H) | (have H2_ := (Option.bind_some _ _).symm.trans H; rw [hy228]; with_reducible exact H2_) | (have H2_ := (Option.bind_some _ _).symm.trans H; with_reducible exact H2_) | with_reducible exact H | (rw [hy228]; exact H) | exact H
                have Ny228 := Aside0.mk hy228
                clear hy228
                replace H := Option.bind_eq_some_iff.mp H
                obtain ⟨⟨t231, t232⟩, A1320, H⟩ := H
                replace H : (if t225 = 0 then (if t232 = 0 then ((headgatekit_SameInts.f kj101 t224 t231).bind fun t235 => (if t235 = true then ((headgatelaw08_awake.f kj101).bind fun t236 => (some t236)) else (some false))) else (some false)) else (some false)) = some r := H
                have A132 := Aside0.mk A1320
                clear A1320
                by_cases c133 : t225 = 0
                · rw [if_pos c133] at H
                  have c133b0 : (t225 == 0) = true := beq_iff_eq.mpr c133
                  have c133b1 : (t225 != 0) = false := bne_eq_false_iff_eq.mpr c133
                  clear c133
                  by_cases c134 : t232 = 0
                  · rw [if_pos c134] at H
                    have c134b0 : (t232 == 0) = true := beq_iff_eq.mpr c134
                    have c134b1 : (t232 != 0) = false := bne_eq_false_iff_eq.mpr c134
                    clear c134
                    replace H := Option.bind_eq_some_iff.mp H
                    obtain ⟨t235, A1350, H⟩ := H
                    replace H : (if t235 = true then ((headgatelaw08_awake.f kj101).bind fun t236 => (some t236)) else (some false)) = some r := H
                    have A135 := Aside0.mk A1350
                    clear A1350
                    by_cases c136 : t235 = true
                    · subst c136
                      have H1 : ((headgatelaw08_awake.f kj101).bind fun t236 => (some t236)) = some r := by rw [if_pos rfl] at H; exact H
                      clear H
                      have H := H1
                      clear H1
                      replace H := Option.bind_eq_some_iff.mp H
                      obtain ⟨t236, A1370, H⟩ := H
                      replace H : (some t236) = some r := H
                      have A137 := Aside0.mk A1370
                      clear A1370
                      obtain rfl := Option.some.inj H
                      have hnb138 := NB219_202.out
                      have hnc138 := NB202_219.out
                      have hnb139 := NB219_206.out
                      have hnc139 := NB206_219.out
                      have hnb140 := NB219_210.out
                      have hnc140 := NB210_219.out
                      have hnb141 := NB219_214.out
                      have hnc141 := NB214_219.out
                      have hnb142 := NB219_218.out
                      have hnc142 := NB218_219.out
                      have hnb143 := NB219_220.out
                      have hnc143 := NB220_219.out
                      have hcz144_0 : wc.cell? ⟨gb219, 0, none⟩ = some (.int .i64 x220000_101) := (blk_cell BK219.out 0).trans rfl
                      have hcz144_1 : wc.cell? ⟨gb219, 1, none⟩ = some (.int .i64 x220001_101) := (blk_cell BK219.out 1).trans rfl
                      have hfz144_0 := blk_frozen BK219.out 0
                      have hfz144_1 := blk_frozen BK219.out 1
                      have hnb145 := NB220_202.out
                      have hnc145 := NB202_220.out
                      have hnb146 := NB220_206.out
                      have hnc146 := NB206_220.out
                      have hnb147 := NB220_210.out
                      have hnc147 := NB210_220.out
                      have hnb148 := NB220_214.out
                      have hnc148 := NB214_220.out
                      have hnb149 := NB220_218.out
                      have hnc149 := NB218_220.out
                      have hcz150_0 : wc.cell? ⟨gb220, 0, none⟩ = some (.int .i64 x221000_101) := (blk_cell BK220.out 0).trans rfl
                      have hcz150_1 : wc.cell? ⟨gb220, 1, none⟩ = some (.int .i64 x221001_101) := (blk_cell BK220.out 1).trans rfl
                      have hfz150_0 := blk_frozen BK220.out 0
                      have hfz150_1 := blk_frozen BK220.out 1
                      go_wp2_with (first | ((with_reducible refine gate_dst (N := 101) rfl ?_); refine Kd.R_lit k32 _ 32 ?hg (N := 101) ?hd (xs := ([(⟨x220000_101, x220001_101⟩ : S32), (⟨x221000_101, x221001_101⟩ : S32)] : List (S32))) (inner := [.int .i64 x220000_101, .int .i64 x220001_101, .int .i64 x221000_101, .int .i64 x221001_101]) (ok := fun _ => True) (okp := fun _ => True) ?hr ?hp (fun _ hk => hk) trivial (Below.refl _ _) (Nat.le_refl _) (by simp) ?_; (case hd => rfl); (case hg => rfl); (case hr => first | (go_simp; done) | (go_simp; rfl)); (case hp => exact (Reps.c2 (show Kd.M k32 _ _ _ (⟨x220000_101, x220001_101⟩ : S32) [.int .i64 x220000_101, .int .i64 x220001_101] from (k32_mkM _ _ _ (⟨x220000_101, x220001_101⟩ : S32) )) (Reps.c2 (show Kd.M k32 _ _ _ (⟨x221000_101, x221001_101⟩ : S32) [.int .i64 x221000_101, .int .i64 x221001_101] from (k32_mkM _ _ _ (⟨x221000_101, x221001_101⟩ : S32) )) (Reps.none _ _)))); intro v222 w151 ho152 hb hg_ hnew_; clear hg_ hnew_; (first | rw [← Ny221.out] at ho152 | (simp only [Int.reduceToNat] at ho152; rw [← Ny221.out] at ho152)); have n0_ := Aside0.mk (Kd.R_lower (Kd.R_newB (Kd.R_newB (Kd.R_newB (Kd.R_newB (Kd.R_newB (Kd.R_newB (Kd.R_newB ho152 (g := gb202) (o := .cells #[.int .i64 t200, .int .i64 t201] 32 (0, 0)) (by (with_reducible repeat (first | refine blk_drewN ?_ _ | refine blk_drew ?_ | refine blk_alloc ?_ _)); exact BK202.out)) (g := gb206) (o := .cells #[.int .i64 t203, .int .i64 t204] 32 (0, 0)) (by (with_reducible repeat (first | refine blk_drewN ?_ _ | refine blk_drew ?_ | refine blk_alloc ?_ _)); exact BK206.out)) (g := gb210) (o := .cells #[.int .i64 t207, .int .i64 t208] 32 (0, 0)) (by (with_reducible repeat (first | refine blk_drewN ?_ _ | refine blk_drew ?_ | refine blk_alloc ?_ _)); exact BK210.out)) (g := gb214) (o := .cells #[.int .i64 t211, .int .i64 t212] 32 (0, 0)) (by (with_reducible repeat (first | refine blk_drewN ?_ _ | refine blk_drew ?_ | refine blk_alloc ?_ _)); exact BK214.out)) (g := gb218) (o := .cells #[.int .i64 t215, .int .i64 t216] 32 (0, 0)) (by (with_reducible repeat (first | refine blk_drewN ?_ _ | refine blk_drew ?_ | refine blk_alloc ?_ _)); exact BK218.out)) (g := gb219) (o := .cells #[.int .i64 x220000_101, .int .i64 x220001_101] 32 (0, 0)) (by (with_reducible repeat (first | refine blk_drewN ?_ _ | refine blk_drew ?_ | refine blk_alloc ?_ _)); exact BK219.out)) (g := gb220) (o := .cells #[.int .i64 x221000_101, .int .i64 x221001_101] 32 (0, 0)) (by (with_reducible repeat (first | refine blk_drewN ?_ _ | refine blk_drew ?_ | refine blk_alloc ?_ _)); exact BK220.out)) (below_size (by repeat (first | (with_reducible first | exact HB.out | apply below_alloc | apply pw_below_drewN | apply below_drew1 | refine below_set ?_ GE202.out | refine below_set ?_ GE206.out | refine below_set ?_ GE210.out | refine below_set ?_ GE214.out | refine below_set ?_ GE218.out | refine below_set ?_ GE219.out | refine below_set ?_ GE220.out) | exact HB.out)))); have n1_ := Aside0.mk (blk_below (g := gb202) (o := .cells #[.int .i64 t200, .int .i64 t201] 32 (0, 0)) (by (with_reducible repeat (first | refine blk_drewN ?_ _ | refine blk_drew ?_ | refine blk_alloc ?_ _)); exact BK202.out) hb); have n2_ := Aside0.mk (blk_below (g := gb206) (o := .cells #[.int .i64 t203, .int .i64 t204] 32 (0, 0)) (by (with_reducible repeat (first | refine blk_drewN ?_ _ | refine blk_drew ?_ | refine blk_alloc ?_ _)); exact BK206.out) hb); have n3_ := Aside0.mk (blk_below (g := gb210) (o := .cells #[.int .i64 t207, .int .i64 t208] 32 (0, 0)) (by (with_reducible repeat (first | refine blk_drewN ?_ _ | refine blk_drew ?_ | refine blk_alloc ?_ _)); exact BK210.out) hb); have n4_ := Aside0.mk (blk_below (g := gb214) (o := .cells #[.int .i64 t211, .int .i64 t212] 32 (0, 0)) (by (with_reducible repeat (first | refine blk_drewN ?_ _ | refine blk_drew ?_ | refine blk_alloc ?_ _)); exact BK214.out) hb); have n5_ := Aside0.mk (blk_below (g := gb218) (o := .cells #[.int .i64 t215, .int .i64 t216] 32 (0, 0)) (by (with_reducible repeat (first | refine blk_drewN ?_ _ | refine blk_drew ?_ | refine blk_alloc ?_ _)); exact BK218.out) hb); have n6_ := Aside0.mk (blk_below (g := gb219) (o := .cells #[.int .i64 x220000_101, .int .i64 x220001_101] 32 (0, 0)) (by (with_reducible repeat (first | refine blk_drewN ?_ _ | refine blk_drew ?_ | refine blk_alloc ?_ _)); exact BK219.out) hb); have n7_ := Aside0.mk (blk_below (g := gb220) (o := .cells #[.int .i64 x221000_101, .int .i64 x221001_101] 32 (0, 0)) (by (with_reducible repeat (first | refine blk_drewN ?_ _ | refine blk_drew ?_ | refine blk_alloc ?_ _)); exact BK220.out) hb); have n8_ := Aside0.mk (below_step (by repeat (first | (with_reducible first | exact HB.out | apply below_alloc | apply pw_below_drewN | apply below_drew1 | refine below_set ?_ GE202.out | refine below_set ?_ GE206.out | refine below_set ?_ GE210.out | refine below_set ?_ GE214.out | refine below_set ?_ GE218.out | refine below_set ?_ GE219.out | refine below_set ?_ GE220.out) | exact HB.out)) hb); clear BK202; clear BK206; clear BK210; clear BK214; clear BK218; clear BK219; clear BK220; clear HB; have HO223 := n0_; have BK202 := n1_; have BK206 := n2_; have BK210 := n3_; have BK214 := n4_; have BK218 := n5_; have BK219 := n6_; have BK220 := n7_; have HB := n8_; clear n0_ n1_ n2_ n3_ n4_ n5_ n6_ n7_ n8_; clear hb ho152; obtain ⟨Ao153, co153, eo153⟩ := Kd.R_slice HO223.out; subst eo153) | ((with_reducible refine gate_callee (f := 17) rfl ?_); refine goesL_ (some 102) rfl rfl Try.func17 (by kernel_rfl) rfl #[.slice Ao153 y221.length co153] rfl (by (try simp only [List.map_toArray, List.map_cons, List.map_nil]); first | done | rfl | (simp only [List.length_drop, List.length_take]; rfl)) ?_; (with_reducible refine (order_Frames.calls kj101 _ _ y221 t224 t225 _ ?side1 ?side2 A131.out).mono ?_); (case side1 => repeat (first | exact (Kd.R_reads' HO223.out).2.2 | (with_reducible refine Kd.C_alloc ?_ _) | (with_reducible refine Kd.C_drewN ?_ _) | (with_reducible refine Kd.C_drew ?_))); (case side2 => exact (Kd.R_reads' HO223.out).2.1); rintro e w154 ⟨v226, rfl, ho0, hb⟩; refine ⟨_, rfl, ?_⟩; have n0_ := Aside0.mk (Kd.R_below (by (with_reducible repeat (first | apply Kd.R_alloc | apply Kd.R_drewN | apply Kd.R_drew)); exact HO223.out) hb); have n1_ := Aside0.mk (Kd.R_lower ho0 (below_size (by repeat (first | (with_reducible first | exact HB.out | apply below_alloc | apply pw_below_drewN | apply below_drew1 | refine below_set ?_ GE202.out | refine below_set ?_ GE206.out | refine below_set ?_ GE210.out | refine below_set ?_ GE214.out | refine below_set ?_ GE218.out | refine below_set ?_ GE219.out | refine below_set ?_ GE220.out) | exact HB.out)))); have n2_ := Aside0.mk (blk_below (g := gb202) (o := .cells #[.int .i64 t200, .int .i64 t201] 32 (0, 0)) (by (with_reducible repeat (first | refine blk_drewN ?_ _ | refine blk_drew ?_ | refine blk_alloc ?_ _)); exact BK202.out) hb); have n3_ := Aside0.mk (blk_below (g := gb206) (o := .cells #[.int .i64 t203, .int .i64 t204] 32 (0, 0)) (by (with_reducible repeat (first | refine blk_drewN ?_ _ | refine blk_drew ?_ | refine blk_alloc ?_ _)); exact BK206.out) hb); have n4_ := Aside0.mk (blk_below (g := gb210) (o := .cells #[.int .i64 t207, .int .i64 t208] 32 (0, 0)) (by (with_reducible repeat (first | refine blk_drewN ?_ _ | refine blk_drew ?_ | refine blk_alloc ?_ _)); exact BK210.out) hb); have n5_ := Aside0.mk (blk_below (g := gb214) (o := .cells #[.int .i64 t211, .int .i64 t212] 32 (0, 0)) (by (with_reducible repeat (first | refine blk_drewN ?_ _ | refine blk_drew ?_ | refine blk_alloc ?_ _)); exact BK214.out) hb); have n6_ := Aside0.mk (blk_below (g := gb218) (o := .cells #[.int .i64 t215, .int .i64 t216] 32 (0, 0)) (by (with_reducible repeat (first | refine blk_drewN ?_ _ | refine blk_drew ?_ | refine blk_alloc ?_ _)); exact BK218.out) hb); have n7_ := Aside0.mk (blk_below (g := gb219) (o := .cells #[.int .i64 x220000_101, .int .i64 x220001_101] 32 (0, 0)) (by (with_reducible repeat (first | refine blk_drewN ?_ _ | refine blk_drew ?_ | refine blk_alloc ?_ _)); exact BK219.out) hb); have n8_ := Aside0.mk (blk_below (g := gb220) (o := .cells #[.int .i64 x221000_101, .int .i64 x221001_101] 32 (0, 0)) (by (with_reducible repeat (first | refine blk_drewN ?_ _ | refine blk_drew ?_ | refine blk_alloc ?_ _)); exact BK220.out) hb); have n9_ := Aside0.mk (below_step (by repeat (first | (with_reducible first | exact HB.out | apply below_alloc | apply pw_below_drewN | apply below_drew1 | refine below_set ?_ GE202.out | refine below_set ?_ GE206.out | refine below_set ?_ GE210.out | refine below_set ?_ GE214.out | refine below_set ?_ GE218.out | refine below_set ?_ GE219.out | refine below_set ?_ GE220.out) | exact HB.out)) hb); clear HO223; clear BK202; clear BK206; clear BK210; clear BK214; clear BK218; clear BK219; clear BK220; clear HB; have HO223 := n0_; have HO227 := n1_; have BK202 := n2_; have BK206 := n3_; have BK210 := n4_; have BK214 := n5_; have BK218 := n6_; have BK219 := n7_; have BK220 := n8_; have HB := n9_; clear n0_ n1_ n2_ n3_ n4_ n5_ n6_ n7_ n8_ n9_; (try clear hb); (try clear hb2); (try clear hk); (try clear hi); (try clear ho0); have hnb155 := NB214_202.out; have hnc155 := NB202_214.out; have hnb156 := NB214_206.out; have hnc156 := NB206_214.out; have hnb157 := NB214_210.out; have hnc157 := NB210_214.out; have hnb158 := NB214_218.out; have hnc158 := NB218_214.out; have hcz159_0 : w154.cell? ⟨gb214, 0, none⟩ = some (.int .i64 t211) := (blk_cell BK214.out 0).trans rfl; have hcz159_1 : w154.cell? ⟨gb214, 1, none⟩ = some (.int .i64 t212) := (blk_cell BK214.out 1).trans rfl; have hfz159_0 := blk_frozen BK214.out 0; have hfz159_1 := blk_frozen BK214.out 1) | ((with_reducible refine gate_dst (N := 107) rfl ?_); refine Kd.R_lit k32 _ 32 ?hg (N := 107) ?hd (xs := ([(⟨t211, t212⟩ : S32)] : List (S32))) (inner := [.int .i64 t211, .int .i64 t212]) (ok := fun _ => True) (okp := fun _ => True) ?hr ?hp (fun _ hk => hk) trivial (Below.refl _ _) (Nat.le_refl _) (by simp) ?_; (case hd => rfl); (case hg => rfl); (case hr => first | (go_simp; done) | (go_simp; rfl)); (case hp => exact (Reps.c2 (show Kd.M k32 _ _ _ (⟨t211, t212⟩ : S32) [.int .i64 t211, .int .i64 t212] from (k32_mkM _ _ _ (⟨t211, t212⟩ : S32) )) (Reps.none _ _))); intro v229 w160 ho161 hb hg_ hnew_; clear hg_ hnew_; (first | rw [← Ny228.out] at ho161 | (simp only [Int.reduceToNat] at ho161; rw [← Ny228.out] at ho161)); have n0_ := Aside0.mk (Kd.R_elder' (by (with_reducible repeat (first | apply Kd.R_alloc | apply Kd.R_drewN | apply Kd.R_drew)); exact HO223.out) (Kd.R_base ho161) hb); have n1_ := Aside0.mk (Kd.R_below (by (with_reducible repeat (first | apply Kd.R_alloc | apply Kd.R_drewN | apply Kd.R_drew)); exact HO227.out) hb); have n2_ := Aside0.mk (Kd.R_lower (Kd.R_newB (Kd.R_newB (Kd.R_newB (Kd.R_newB (Kd.R_newB (Kd.R_newB (Kd.R_newB (Kd.R_new' ho161 (Kd.R_lt (by (with_reducible repeat (first | apply Kd.R_alloc | apply Kd.R_drewN | apply Kd.R_drew)); exact HO223.out))) (g := gb202) (o := .cells #[.int .i64 t200, .int .i64 t201] 32 (0, 0)) (by (with_reducible repeat (first | refine blk_drewN ?_ _ | refine blk_drew ?_ | refine blk_alloc ?_ _)); exact BK202.out)) (g := gb206) (o := .cells #[.int .i64 t203, .int .i64 t204] 32 (0, 0)) (by (with_reducible repeat (first | refine blk_drewN ?_ _ | refine blk_drew ?_ | refine blk_alloc ?_ _)); exact BK206.out)) (g := gb210) (o := .cells #[.int .i64 t207, .int .i64 t208] 32 (0, 0)) (by (with_reducible repeat (first | refine blk_drewN ?_ _ | refine blk_drew ?_ | refine blk_alloc ?_ _)); exact BK210.out)) (g := gb214) (o := .cells #[.int .i64 t211, .int .i64 t212] 32 (0, 0)) (by (with_reducible repeat (first | refine blk_drewN ?_ _ | refine blk_drew ?_ | refine blk_alloc ?_ _)); exact BK214.out)) (g := gb218) (o := .cells #[.int .i64 t215, .int .i64 t216] 32 (0, 0)) (by (with_reducible repeat (first | refine blk_drewN ?_ _ | refine blk_drew ?_ | refine blk_alloc ?_ _)); exact BK218.out)) (g := gb219) (o := .cells #[.int .i64 x220000_101, .int .i64 x220001_101] 32 (0, 0)) (by (with_reducible repeat (first | refine blk_drewN ?_ _ | refine blk_drew ?_ | refine blk_alloc ?_ _)); exact BK219.out)) (g := gb220) (o := .cells #[.int .i64 x221000_101, .int .i64 x221001_101] 32 (0, 0)) (by (with_reducible repeat (first | refine blk_drewN ?_ _ | refine blk_drew ?_ | refine blk_alloc ?_ _)); exact BK220.out)) (below_size (by repeat (first | (with_reducible first | exact HB.out | apply below_alloc | apply pw_below_drewN | apply below_drew1 | refine below_set ?_ GE202.out | refine below_set ?_ GE206.out | refine below_set ?_ GE210.out | refine below_set ?_ GE214.out | refine below_set ?_ GE218.out | refine below_set ?_ GE219.out | refine below_set ?_ GE220.out) | exact HB.out)))); have n3_ := Aside0.mk (blk_below (g := gb202) (o := .cells #[.int .i64 t200, .int .i64 t201] 32 (0, 0)) (by (with_reducible repeat (first | refine blk_drewN ?_ _ | refine blk_drew ?_ | refine blk_alloc ?_ _)); exact BK202.out) hb); have n4_ := Aside0.mk (blk_below (g := gb206) (o := .cells #[.int .i64 t203, .int .i64 t204] 32 (0, 0)) (by (with_reducible repeat (first | refine blk_drewN ?_ _ | refine blk_drew ?_ | refine blk_alloc ?_ _)); exact BK206.out) hb); have n5_ := Aside0.mk (blk_below (g := gb210) (o := .cells #[.int .i64 t207, .int .i64 t208] 32 (0, 0)) (by (with_reducible repeat (first | refine blk_drewN ?_ _ | refine blk_drew ?_ | refine blk_alloc ?_ _)); exact BK210.out) hb); have n6_ := Aside0.mk (blk_below (g := gb214) (o := .cells #[.int .i64 t211, .int .i64 t212] 32 (0, 0)) (by (with_reducible repeat (first | refine blk_drewN ?_ _ | refine blk_drew ?_ | refine blk_alloc ?_ _)); exact BK214.out) hb); have n7_ := Aside0.mk (blk_below (g := gb218) (o := .cells #[.int .i64 t215, .int .i64 t216] 32 (0, 0)) (by (with_reducible repeat (first | refine blk_drewN ?_ _ | refine blk_drew ?_ | refine blk_alloc ?_ _)); exact BK218.out) hb); have n8_ := Aside0.mk (blk_below (g := gb219) (o := .cells #[.int .i64 x220000_101, .int .i64 x220001_101] 32 (0, 0)) (by (with_reducible repeat (first | refine blk_drewN ?_ _ | refine blk_drew ?_ | refine blk_alloc ?_ _)); exact BK219.out) hb); have n9_ := Aside0.mk (blk_below (g := gb220) (o := .cells #[.int .i64 x221000_101, .int .i64 x221001_101] 32 (0, 0)) (by (with_reducible repeat (first | refine blk_drewN ?_ _ | refine blk_drew ?_ | refine blk_alloc ?_ _)); exact BK220.out) hb); have n10_ := Aside0.mk (below_step (by repeat (first | (with_reducible first | exact HB.out | apply below_alloc | apply pw_below_drewN | apply below_drew1 | refine below_set ?_ GE202.out | refine below_set ?_ GE206.out | refine below_set ?_ GE210.out | refine below_set ?_ GE214.out | refine below_set ?_ GE218.out | refine below_set ?_ GE219.out | refine below_set ?_ GE220.out) | exact HB.out)) hb); clear HO223; clear HO227; clear BK202; clear BK206; clear BK210; clear BK214; clear BK218; clear BK219; clear BK220; clear HB; have HO223 := n0_; have HO227 := n1_; have HO230 := n2_; have BK202 := n3_; have BK206 := n4_; have BK210 := n5_; have BK214 := n6_; have BK218 := n7_; have BK219 := n8_; have BK220 := n9_; have HB := n10_; clear n0_ n1_ n2_ n3_ n4_ n5_ n6_ n7_ n8_ n9_ n10_; clear hb ho161; obtain ⟨Ao162, co162, eo162⟩ := Kd.R_slice HO230.out; subst eo162) | ((with_reducible refine gate_callee (f := 17) rfl ?_); refine goesL_ (some 108) rfl rfl Try.func17 (by kernel_rfl) rfl #[.slice Ao162 y228.length co162] rfl (by (try simp only [List.map_toArray, List.map_cons, List.map_nil]); first | done | rfl | (simp only [List.length_drop, List.length_take]; rfl)) ?_; (with_reducible refine (order_Frames.calls kj101 _ _ y228 t231 t232 _ ?side1 ?side2 A132.out).mono ?_); (case side1 => repeat (first | exact (Kd.R_reads' HO230.out).2.2 | (with_reducible refine Kd.C_alloc ?_ _) | (with_reducible refine Kd.C_drewN ?_ _) | (with_reducible refine Kd.C_drew ?_))); (case side2 => exact (Kd.R_reads' HO230.out).2.1); rintro e w163 ⟨v233, rfl, ho0, hb⟩; refine ⟨_, rfl, ?_⟩; have n0_ := Aside0.mk (Kd.R_below (by (with_reducible repeat (first | apply Kd.R_alloc | apply Kd.R_drewN | apply Kd.R_drew)); exact HO223.out) hb); have n1_ := Aside0.mk (Kd.R_elder' (by (with_reducible repeat (first | apply Kd.R_alloc | apply Kd.R_drewN | apply Kd.R_drew)); exact HO227.out) (Kd.R_base ho0) hb); have n2_ := Aside0.mk (Kd.R_below (by (with_reducible repeat (first | apply Kd.R_alloc | apply Kd.R_drewN | apply Kd.R_drew)); exact HO230.out) hb); have n3_ := Aside0.mk (Kd.R_lower (Kd.R_new' ho0 (Kd.R_lt (by (with_reducible repeat (first | apply Kd.R_alloc | apply Kd.R_drewN | apply Kd.R_drew)); exact HO227.out))) (below_size (by repeat (first | (with_reducible first | exact HB.out | apply below_alloc | apply pw_below_drewN | apply below_drew1 | refine below_set ?_ GE202.out | refine below_set ?_ GE206.out | refine below_set ?_ GE210.out | refine below_set ?_ GE214.out | refine below_set ?_ GE218.out | refine below_set ?_ GE219.out | refine below_set ?_ GE220.out) | exact HB.out)))); have n4_ := Aside0.mk (blk_below (g := gb202) (o := .cells #[.int .i64 t200, .int .i64 t201] 32 (0, 0)) (by (with_reducible repeat (first | refine blk_drewN ?_ _ | refine blk_drew ?_ | refine blk_alloc ?_ _)); exact BK202.out) hb); have n5_ := Aside0.mk (blk_below (g := gb206) (o := .cells #[.int .i64 t203, .int .i64 t204] 32 (0, 0)) (by (with_reducible repeat (first | refine blk_drewN ?_ _ | refine blk_drew ?_ | refine blk_alloc ?_ _)); exact BK206.out) hb); have n6_ := Aside0.mk (blk_below (g := gb210) (o := .cells #[.int .i64 t207, .int .i64 t208] 32 (0, 0)) (by (with_reducible repeat (first | refine blk_drewN ?_ _ | refine blk_drew ?_ | refine blk_alloc ?_ _)); exact BK210.out) hb); have n7_ := Aside0.mk (blk_below (g := gb214) (o := .cells #[.int .i64 t211, .int .i64 t212] 32 (0, 0)) (by (with_reducible repeat (first | refine blk_drewN ?_ _ | refine blk_drew ?_ | refine blk_alloc ?_ _)); exact BK214.out) hb); have n8_ := Aside0.mk (blk_below (g := gb218) (o := .cells #[.int .i64 t215, .int .i64 t216] 32 (0, 0)) (by (with_reducible repeat (first | refine blk_drewN ?_ _ | refine blk_drew ?_ | refine blk_alloc ?_ _)); exact BK218.out) hb); have n9_ := Aside0.mk (blk_below (g := gb219) (o := .cells #[.int .i64 x220000_101, .int .i64 x220001_101] 32 (0, 0)) (by (with_reducible repeat (first | refine blk_drewN ?_ _ | refine blk_drew ?_ | refine blk_alloc ?_ _)); exact BK219.out) hb); have n10_ := Aside0.mk (blk_below (g := gb220) (o := .cells #[.int .i64 x221000_101, .int .i64 x221001_101] 32 (0, 0)) (by (with_reducible repeat (first | refine blk_drewN ?_ _ | refine blk_drew ?_ | refine blk_alloc ?_ _)); exact BK220.out) hb); have n11_ := Aside0.mk (below_step (by repeat (first | (with_reducible first | exact HB.out | apply below_alloc | apply pw_below_drewN | apply below_drew1 | refine below_set ?_ GE202.out | refine below_set ?_ GE206.out | refine below_set ?_ GE210.out | refine below_set ?_ GE214.out | refine below_set ?_ GE218.out | refine below_set ?_ GE219.out | refine below_set ?_ GE220.out) | exact HB.out)) hb); clear HO223; clear HO227; clear HO230; clear BK202; clear BK206; clear BK210; clear BK214; clear BK218; clear BK219; clear BK220; clear HB; have HO223 := n0_; have HO227 := n1_; have HO230 := n2_; have HO234 := n3_; have BK202 := n4_; have BK206 := n5_; have BK210 := n6_; have BK214 := n7_; have BK218 := n8_; have BK219 := n9_; have BK220 := n10_; have HB := n11_; clear n0_ n1_ n2_ n3_ n4_ n5_ n6_ n7_ n8_ n9_ n10_ n11_; (try clear hb); (try clear hb2); (try clear hk); (try clear hi); (try clear ho0); obtain ⟨Ao164, co164, eo164⟩ := Kd.R_slice HO227.out; subst eo164; obtain ⟨Ao165, co165, eo165⟩ := Kd.R_slice HO234.out; subst eo165) | (go_at_call 18; (with_reducible refine (headgatekit_SameInts.calls kj101 _ _ t224 _ _ t231 true _ ?side1 ?side2 ?side3 ?side4 A135.out).mono ?_); (case side1 => repeat (first | exact (Kd.R_reads' HO227.out).2.2 | (with_reducible refine Kd.C_alloc ?_ _) | (with_reducible refine Kd.C_drewN ?_ _) | (with_reducible refine Kd.C_drew ?_))); (case side2 => exact (Kd.R_reads' HO227.out).2.1); (case side3 => repeat (first | exact (Kd.R_reads' HO234.out).2.2 | (with_reducible refine Kd.C_alloc ?_ _) | (with_reducible refine Kd.C_drewN ?_ _) | (with_reducible refine Kd.C_drew ?_))); (case side4 => exact (Kd.R_reads' HO234.out).2.1); rintro e w' ⟨rfl, ⟨nd, rfl⟩⟩) | (go_at_call 12; (with_reducible refine (headgatelaw08_awake.calls kj101  t236 _ A137.out).mono ?_); rintro e w166 ⟨rfl, hb⟩; have n0_ := Aside0.mk (Kd.R_below (by (with_reducible repeat (first | apply Kd.R_alloc | apply Kd.R_drewN | apply Kd.R_drew)); exact HO223.out) hb); have n1_ := Aside0.mk (Kd.R_below (by (with_reducible repeat (first | apply Kd.R_alloc | apply Kd.R_drewN | apply Kd.R_drew)); exact HO227.out) hb); have n2_ := Aside0.mk (Kd.R_below (by (with_reducible repeat (first | apply Kd.R_alloc | apply Kd.R_drewN | apply Kd.R_drew)); exact HO230.out) hb); have n3_ := Aside0.mk (Kd.R_below (by (with_reducible repeat (first | apply Kd.R_alloc | apply Kd.R_drewN | apply Kd.R_drew)); exact HO234.out) hb); have n4_ := Aside0.mk (blk_below (g := gb202) (o := .cells #[.int .i64 t200, .int .i64 t201] 32 (0, 0)) (by (with_reducible repeat (first | refine blk_drewN ?_ _ | refine blk_drew ?_ | refine blk_alloc ?_ _)); exact BK202.out) hb); have n5_ := Aside0.mk (blk_below (g := gb206) (o := .cells #[.int .i64 t203, .int .i64 t204] 32 (0, 0)) (by (with_reducible repeat (first | refine blk_drewN ?_ _ | refine blk_drew ?_ | refine blk_alloc ?_ _)); exact BK206.out) hb); have n6_ := Aside0.mk (blk_below (g := gb210) (o := .cells #[.int .i64 t207, .int .i64 t208] 32 (0, 0)) (by (with_reducible repeat (first | refine blk_drewN ?_ _ | refine blk_drew ?_ | refine blk_alloc ?_ _)); exact BK210.out) hb); have n7_ := Aside0.mk (blk_below (g := gb214) (o := .cells #[.int .i64 t211, .int .i64 t212] 32 (0, 0)) (by (with_reducible repeat (first | refine blk_drewN ?_ _ | refine blk_drew ?_ | refine blk_alloc ?_ _)); exact BK214.out) hb); have n8_ := Aside0.mk (blk_below (g := gb218) (o := .cells #[.int .i64 t215, .int .i64 t216] 32 (0, 0)) (by (with_reducible repeat (first | refine blk_drewN ?_ _ | refine blk_drew ?_ | refine blk_alloc ?_ _)); exact BK218.out) hb); have n9_ := Aside0.mk (blk_below (g := gb219) (o := .cells #[.int .i64 x220000_101, .int .i64 x220001_101] 32 (0, 0)) (by (with_reducible repeat (first | refine blk_drewN ?_ _ | refine blk_drew ?_ | refine blk_alloc ?_ _)); exact BK219.out) hb); have n10_ := Aside0.mk (blk_below (g := gb220) (o := .cells #[.int .i64 x221000_101, .int .i64 x221001_101] 32 (0, 0)) (by (with_reducible repeat (first | refine blk_drewN ?_ _ | refine blk_drew ?_ | refine blk_alloc ?_ _)); exact BK220.out) hb); have n11_ := Aside0.mk (below_step (by repeat (first | (with_reducible first | exact HB.out | apply below_alloc | apply pw_below_drewN | apply below_drew1 | refine below_set ?_ GE202.out | refine below_set ?_ GE206.out | refine below_set ?_ GE210.out | refine below_set ?_ GE214.out | refine below_set ?_ GE218.out | refine below_set ?_ GE219.out | refine below_set ?_ GE220.out) | exact HB.out)) hb); clear HO223; clear HO227; clear HO230; clear HO234; clear BK202; clear BK206; clear BK210; clear BK214; clear BK218; clear BK219; clear BK220; clear HB; have HO223 := n0_; have HO227 := n1_; have HO230 := n2_; have HO234 := n3_; have BK202 := n4_; have BK206 := n5_; have BK210 := n6_; have BK214 := n7_; have BK218 := n8_; have BK219 := n9_; have BK220 := n10_; have HB := n11_; clear n0_ n1_ n2_ n3_ n4_ n5_ n6_ n7_ n8_ n9_ n10_ n11_; (try clear hb); (try clear hb2); (try clear hk); (try clear hi)))
                      go_ret
                      exact ⟨by first | rfl | (simp [errW_none, errW_some] <;> rfl) | (simp only [← hji4, ← hji6]; first | rfl | (simp [errW_none, errW_some] <;> rfl)) | (simp [*, errW_none, errW_some] <;> rfl), by repeat (first | (with_reducible first | exact HB.out | apply below_alloc | apply pw_below_drewN | apply below_drew1 | refine below_set ?_ GE202.out | refine below_set ?_ GE206.out | refine below_set ?_ GE210.out | refine below_set ?_ GE214.out | refine below_set ?_ GE218.out | refine below_set ?_ GE219.out | refine below_set ?_ GE220.out) | exact HB.out)⟩
                    · replace c136 := Bool.eq_false_iff.mpr c136
                      subst c136
                      have H1 : (some false) = some r := by rw [if_neg (show ¬ (false = true) by decide)] at H; exact H
                      clear H
                      have H := H1
                      clear H1
                      obtain rfl := Option.some.inj H
                      have hnb167 := NB219_202.out
                      have hnc167 := NB202_219.out
                      have hnb168 := NB219_206.out
                      have hnc168 := NB206_219.out
                      have hnb169 := NB219_210.out
                      have hnc169 := NB210_219.out
                      have hnb170 := NB219_214.out
                      have hnc170 := NB214_219.out
                      have hnb171 := NB219_218.out
                      have hnc171 := NB218_219.out
                      have hnb172 := NB219_220.out
                      have hnc172 := NB220_219.out
                      have hcz173_0 : wc.cell? ⟨gb219, 0, none⟩ = some (.int .i64 x220000_101) := (blk_cell BK219.out 0).trans rfl
                      have hcz173_1 : wc.cell? ⟨gb219, 1, none⟩ = some (.int .i64 x220001_101) := (blk_cell BK219.out 1).trans rfl
                      have hfz173_0 := blk_frozen BK219.out 0
                      have hfz173_1 := blk_frozen BK219.out 1
                      have hnb174 := NB220_202.out
                      have hnc174 := NB202_220.out
                      have hnb175 := NB220_206.out
                      have hnc175 := NB206_220.out
                      have hnb176 := NB220_210.out
                      have hnc176 := NB210_220.out
                      have hnb177 := NB220_214.out
                      have hnc177 := NB214_220.out
                      have hnb178 := NB220_218.out
                      have hnc178 := NB218_220.out
                      have hcz179_0 : wc.cell? ⟨gb220, 0, none⟩ = some (.int .i64 x221000_101) := (blk_cell BK220.out 0).trans rfl
                      have hcz179_1 : wc.cell? ⟨gb220, 1, none⟩ = some (.int .i64 x221001_101) := (blk_cell BK220.out 1).trans rfl
                      have hfz179_0 := blk_frozen BK220.out 0
                      have hfz179_1 := blk_frozen BK220.out 1
                      go_wp2_with (first | ((with_reducible refine gate_dst (N := 101) rfl ?_); refine Kd.R_lit k32 _ 32 ?hg (N := 101) ?hd (xs := ([(⟨x220000_101, x220001_101⟩ : S32), (⟨x221000_101, x221001_101⟩ : S32)] : List (S32))) (inner := [.int .i64 x220000_101, .int .i64 x220001_101, .int .i64 x221000_101, .int .i64 x221001_101]) (ok := fun _ => True) (okp := fun _ => True) ?hr ?hp (fun _ hk => hk) trivial (Below.refl _ _) (Nat.le_refl _) (by simp) ?_; (case hd => rfl); (case hg => rfl); (case hr => first | (go_simp; done) | (go_simp; rfl)); (case hp => exact (Reps.c2 (show Kd.M k32 _ _ _ (⟨x220000_101, x220001_101⟩ : S32) [.int .i64 x220000_101, .int .i64 x220001_101] from (k32_mkM _ _ _ (⟨x220000_101, x220001_101⟩ : S32) )) (Reps.c2 (show Kd.M k32 _ _ _ (⟨x221000_101, x221001_101⟩ : S32) [.int .i64 x221000_101, .int .i64 x221001_101] from (k32_mkM _ _ _ (⟨x221000_101, x221001_101⟩ : S32) )) (Reps.none _ _)))); intro v222 w180 ho181 hb hg_ hnew_; clear hg_ hnew_; (first | rw [← Ny221.out] at ho181 | (simp only [Int.reduceToNat] at ho181; rw [← Ny221.out] at ho181)); have n0_ := Aside0.mk (Kd.R_lower (Kd.R_newB (Kd.R_newB (Kd.R_newB (Kd.R_newB (Kd.R_newB (Kd.R_newB (Kd.R_newB ho181 (g := gb202) (o := .cells #[.int .i64 t200, .int .i64 t201] 32 (0, 0)) (by (with_reducible repeat (first | refine blk_drewN ?_ _ | refine blk_drew ?_ | refine blk_alloc ?_ _)); exact BK202.out)) (g := gb206) (o := .cells #[.int .i64 t203, .int .i64 t204] 32 (0, 0)) (by (with_reducible repeat (first | refine blk_drewN ?_ _ | refine blk_drew ?_ | refine blk_alloc ?_ _)); exact BK206.out)) (g := gb210) (o := .cells #[.int .i64 t207, .int .i64 t208] 32 (0, 0)) (by (with_reducible repeat (first | refine blk_drewN ?_ _ | refine blk_drew ?_ | refine blk_alloc ?_ _)); exact BK210.out)) (g := gb214) (o := .cells #[.int .i64 t211, .int .i64 t212] 32 (0, 0)) (by (with_reducible repeat (first | refine blk_drewN ?_ _ | refine blk_drew ?_ | refine blk_alloc ?_ _)); exact BK214.out)) (g := gb218) (o := .cells #[.int .i64 t215, .int .i64 t216] 32 (0, 0)) (by (with_reducible repeat (first | refine blk_drewN ?_ _ | refine blk_drew ?_ | refine blk_alloc ?_ _)); exact BK218.out)) (g := gb219) (o := .cells #[.int .i64 x220000_101, .int .i64 x220001_101] 32 (0, 0)) (by (with_reducible repeat (first | refine blk_drewN ?_ _ | refine blk_drew ?_ | refine blk_alloc ?_ _)); exact BK219.out)) (g := gb220) (o := .cells #[.int .i64 x221000_101, .int .i64 x221001_101] 32 (0, 0)) (by (with_reducible repeat (first | refine blk_drewN ?_ _ | refine blk_drew ?_ | refine blk_alloc ?_ _)); exact BK220.out)) (below_size (by repeat (first | (with_reducible first | exact HB.out | apply below_alloc | apply pw_below_drewN | apply below_drew1 | refine below_set ?_ GE202.out | refine below_set ?_ GE206.out | refine below_set ?_ GE210.out | refine below_set ?_ GE214.out | refine below_set ?_ GE218.out | refine below_set ?_ GE219.out | refine below_set ?_ GE220.out) | exact HB.out)))); have n1_ := Aside0.mk (blk_below (g := gb202) (o := .cells #[.int .i64 t200, .int .i64 t201] 32 (0, 0)) (by (with_reducible repeat (first | refine blk_drewN ?_ _ | refine blk_drew ?_ | refine blk_alloc ?_ _)); exact BK202.out) hb); have n2_ := Aside0.mk (blk_below (g := gb206) (o := .cells #[.int .i64 t203, .int .i64 t204] 32 (0, 0)) (by (with_reducible repeat (first | refine blk_drewN ?_ _ | refine blk_drew ?_ | refine blk_alloc ?_ _)); exact BK206.out) hb); have n3_ := Aside0.mk (blk_below (g := gb210) (o := .cells #[.int .i64 t207, .int .i64 t208] 32 (0, 0)) (by (with_reducible repeat (first | refine blk_drewN ?_ _ | refine blk_drew ?_ | refine blk_alloc ?_ _)); exact BK210.out) hb); have n4_ := Aside0.mk (blk_below (g := gb214) (o := .cells #[.int .i64 t211, .int .i64 t212] 32 (0, 0)) (by (with_reducible repeat (first | refine blk_drewN ?_ _ | refine blk_drew ?_ | refine blk_alloc ?_ _)); exact BK214.out) hb); have n5_ := Aside0.mk (blk_below (g := gb218) (o := .cells #[.int .i64 t215, .int .i64 t216] 32 (0, 0)) (by (with_reducible repeat (first | refine blk_drewN ?_ _ | refine blk_drew ?_ | refine blk_alloc ?_ _)); exact BK218.out) hb); have n6_ := Aside0.mk (blk_below (g := gb219) (o := .cells #[.int .i64 x220000_101, .int .i64 x220001_101] 32 (0, 0)) (by (with_reducible repeat (first | refine blk_drewN ?_ _ | refine blk_drew ?_ | refine blk_alloc ?_ _)); exact BK219.out) hb); have n7_ := Aside0.mk (blk_below (g := gb220) (o := .cells #[.int .i64 x221000_101, .int .i64 x221001_101] 32 (0, 0)) (by (with_reducible repeat (first | refine blk_drewN ?_ _ | refine blk_drew ?_ | refine blk_alloc ?_ _)); exact BK220.out) hb); have n8_ := Aside0.mk (below_step (by repeat (first | (with_reducible first | exact HB.out | apply below_alloc | apply pw_below_drewN | apply below_drew1 | refine below_set ?_ GE202.out | refine below_set ?_ GE206.out | refine below_set ?_ GE210.out | refine below_set ?_ GE214.out | refine below_set ?_ GE218.out | refine below_set ?_ GE219.out | refine below_set ?_ GE220.out) | exact HB.out)) hb); clear BK202; clear BK206; clear BK210; clear BK214; clear BK218; clear BK219; clear BK220; clear HB; have HO223 := n0_; have BK202 := n1_; have BK206 := n2_; have BK210 := n3_; have BK214 := n4_; have BK218 := n5_; have BK219 := n6_; have BK220 := n7_; have HB := n8_; clear n0_ n1_ n2_ n3_ n4_ n5_ n6_ n7_ n8_; clear hb ho181; obtain ⟨Ao182, co182, eo182⟩ := Kd.R_slice HO223.out; subst eo182) | ((with_reducible refine gate_callee (f := 17) rfl ?_); refine goesL_ (some 102) rfl rfl Try.func17 (by kernel_rfl) rfl #[.slice Ao182 y221.length co182] rfl (by (try simp only [List.map_toArray, List.map_cons, List.map_nil]); first | done | rfl | (simp only [List.length_drop, List.length_take]; rfl)) ?_; (with_reducible refine (order_Frames.calls kj101 _ _ y221 t224 t225 _ ?side1 ?side2 A131.out).mono ?_); (case side1 => repeat (first | exact (Kd.R_reads' HO223.out).2.2 | (with_reducible refine Kd.C_alloc ?_ _) | (with_reducible refine Kd.C_drewN ?_ _) | (with_reducible refine Kd.C_drew ?_))); (case side2 => exact (Kd.R_reads' HO223.out).2.1); rintro e w183 ⟨v226, rfl, ho0, hb⟩; refine ⟨_, rfl, ?_⟩; have n0_ := Aside0.mk (Kd.R_below (by (with_reducible repeat (first | apply Kd.R_alloc | apply Kd.R_drewN | apply Kd.R_drew)); exact HO223.out) hb); have n1_ := Aside0.mk (Kd.R_lower ho0 (below_size (by repeat (first | (with_reducible first | exact HB.out | apply below_alloc | apply pw_below_drewN | apply below_drew1 | refine below_set ?_ GE202.out | refine below_set ?_ GE206.out | refine below_set ?_ GE210.out | refine below_set ?_ GE214.out | refine below_set ?_ GE218.out | refine below_set ?_ GE219.out | refine below_set ?_ GE220.out) | exact HB.out)))); have n2_ := Aside0.mk (blk_below (g := gb202) (o := .cells #[.int .i64 t200, .int .i64 t201] 32 (0, 0)) (by (with_reducible repeat (first | refine blk_drewN ?_ _ | refine blk_drew ?_ | refine blk_alloc ?_ _)); exact BK202.out) hb); have n3_ := Aside0.mk (blk_below (g := gb206) (o := .cells #[.int .i64 t203, .int .i64 t204] 32 (0, 0)) (by (with_reducible repeat (first | refine blk_drewN ?_ _ | refine blk_drew ?_ | refine blk_alloc ?_ _)); exact BK206.out) hb); have n4_ := Aside0.mk (blk_below (g := gb210) (o := .cells #[.int .i64 t207, .int .i64 t208] 32 (0, 0)) (by (with_reducible repeat (first | refine blk_drewN ?_ _ | refine blk_drew ?_ | refine blk_alloc ?_ _)); exact BK210.out) hb); have n5_ := Aside0.mk (blk_below (g := gb214) (o := .cells #[.int .i64 t211, .int .i64 t212] 32 (0, 0)) (by (with_reducible repeat (first | refine blk_drewN ?_ _ | refine blk_drew ?_ | refine blk_alloc ?_ _)); exact BK214.out) hb); have n6_ := Aside0.mk (blk_below (g := gb218) (o := .cells #[.int .i64 t215, .int .i64 t216] 32 (0, 0)) (by (with_reducible repeat (first | refine blk_drewN ?_ _ | refine blk_drew ?_ | refine blk_alloc ?_ _)); exact BK218.out) hb); have n7_ := Aside0.mk (blk_below (g := gb219) (o := .cells #[.int .i64 x220000_101, .int .i64 x220001_101] 32 (0, 0)) (by (with_reducible repeat (first | refine blk_drewN ?_ _ | refine blk_drew ?_ | refine blk_alloc ?_ _)); exact BK219.out) hb); have n8_ := Aside0.mk (blk_below (g := gb220) (o := .cells #[.int .i64 x221000_101, .int .i64 x221001_101] 32 (0, 0)) (by (with_reducible repeat (first | refine blk_drewN ?_ _ | refine blk_drew ?_ | refine blk_alloc ?_ _)); exact BK220.out) hb); have n9_ := Aside0.mk (below_step (by repeat (first | (with_reducible first | exact HB.out | apply below_alloc | apply pw_below_drewN | apply below_drew1 | refine below_set ?_ GE202.out | refine below_set ?_ GE206.out | refine below_set ?_ GE210.out | refine below_set ?_ GE214.out | refine below_set ?_ GE218.out | refine below_set ?_ GE219.out | refine below_set ?_ GE220.out) | exact HB.out)) hb); clear HO223; clear BK202; clear BK206; clear BK210; clear BK214; clear BK218; clear BK219; clear BK220; clear HB; have HO223 := n0_; have HO227 := n1_; have BK202 := n2_; have BK206 := n3_; have BK210 := n4_; have BK214 := n5_; have BK218 := n6_; have BK219 := n7_; have BK220 := n8_; have HB := n9_; clear n0_ n1_ n2_ n3_ n4_ n5_ n6_ n7_ n8_ n9_; (try clear hb); (try clear hb2); (try clear hk); (try clear hi); (try clear ho0); have hnb184 := NB214_202.out; have hnc184 := NB202_214.out; have hnb185 := NB214_206.out; have hnc185 := NB206_214.out; have hnb186 := NB214_210.out; have hnc186 := NB210_214.out; have hnb187 := NB214_218.out; have hnc187 := NB218_214.out; have hcz188_0 : w183.cell? ⟨gb214, 0, none⟩ = some (.int .i64 t211) := (blk_cell BK214.out 0).trans rfl; have hcz188_1 : w183.cell? ⟨gb214, 1, none⟩ = some (.int .i64 t212) := (blk_cell BK214.out 1).trans rfl; have hfz188_0 := blk_frozen BK214.out 0; have hfz188_1 := blk_frozen BK214.out 1) | ((with_reducible refine gate_dst (N := 107) rfl ?_); refine Kd.R_lit k32 _ 32 ?hg (N := 107) ?hd (xs := ([(⟨t211, t212⟩ : S32)] : List (S32))) (inner := [.int .i64 t211, .int .i64 t212]) (ok := fun _ => True) (okp := fun _ => True) ?hr ?hp (fun _ hk => hk) trivial (Below.refl _ _) (Nat.le_refl _) (by simp) ?_; (case hd => rfl); (case hg => rfl); (case hr => first | (go_simp; done) | (go_simp; rfl)); (case hp => exact (Reps.c2 (show Kd.M k32 _ _ _ (⟨t211, t212⟩ : S32) [.int .i64 t211, .int .i64 t212] from (k32_mkM _ _ _ (⟨t211, t212⟩ : S32) )) (Reps.none _ _))); intro v229 w189 ho190 hb hg_ hnew_; clear hg_ hnew_; (first | rw [← Ny228.out] at ho190 | (simp only [Int.reduceToNat] at ho190; rw [← Ny228.out] at ho190)); have n0_ := Aside0.mk (Kd.R_elder' (by (with_reducible repeat (first | apply Kd.R_alloc | apply Kd.R_drewN | apply Kd.R_drew)); exact HO223.out) (Kd.R_base ho190) hb); have n1_ := Aside0.mk (Kd.R_below (by (with_reducible repeat (first | apply Kd.R_alloc | apply Kd.R_drewN | apply Kd.R_drew)); exact HO227.out) hb); have n2_ := Aside0.mk (Kd.R_lower (Kd.R_newB (Kd.R_newB (Kd.R_newB (Kd.R_newB (Kd.R_newB (Kd.R_newB (Kd.R_newB (Kd.R_new' ho190 (Kd.R_lt (by (with_reducible repeat (first | apply Kd.R_alloc | apply Kd.R_drewN | apply Kd.R_drew)); exact HO223.out))) (g := gb202) (o := .cells #[.int .i64 t200, .int .i64 t201] 32 (0, 0)) (by (with_reducible repeat (first | refine blk_drewN ?_ _ | refine blk_drew ?_ | refine blk_alloc ?_ _)); exact BK202.out)) (g := gb206) (o := .cells #[.int .i64 t203, .int .i64 t204] 32 (0, 0)) (by (with_reducible repeat (first | refine blk_drewN ?_ _ | refine blk_drew ?_ | refine blk_alloc ?_ _)); exact BK206.out)) (g := gb210) (o := .cells #[.int .i64 t207, .int .i64 t208] 32 (0, 0)) (by (with_reducible repeat (first | refine blk_drewN ?_ _ | refine blk_drew ?_ | refine blk_alloc ?_ _)); exact BK210.out)) (g := gb214) (o := .cells #[.int .i64 t211, .int .i64 t212] 32 (0, 0)) (by (with_reducible repeat (first | refine blk_drewN ?_ _ | refine blk_drew ?_ | refine blk_alloc ?_ _)); exact BK214.out)) (g := gb218) (o := .cells #[.int .i64 t215, .int .i64 t216] 32 (0, 0)) (by (with_reducible repeat (first | refine blk_drewN ?_ _ | refine blk_drew ?_ | refine blk_alloc ?_ _)); exact BK218.out)) (g := gb219) (o := .cells #[.int .i64 x220000_101, .int .i64 x220001_101] 32 (0, 0)) (by (with_reducible repeat (first | refine blk_drewN ?_ _ | refine blk_drew ?_ | refine blk_alloc ?_ _)); exact BK219.out)) (g := gb220) (o := .cells #[.int .i64 x221000_101, .int .i64 x221001_101] 32 (0, 0)) (by (with_reducible repeat (first | refine blk_drewN ?_ _ | refine blk_drew ?_ | refine blk_alloc ?_ _)); exact BK220.out)) (below_size (by repeat (first | (with_reducible first | exact HB.out | apply below_alloc | apply pw_below_drewN | apply below_drew1 | refine below_set ?_ GE202.out | refine below_set ?_ GE206.out | refine below_set ?_ GE210.out | refine below_set ?_ GE214.out | refine below_set ?_ GE218.out | refine below_set ?_ GE219.out | refine below_set ?_ GE220.out) | exact HB.out)))); have n3_ := Aside0.mk (blk_below (g := gb202) (o := .cells #[.int .i64 t200, .int .i64 t201] 32 (0, 0)) (by (with_reducible repeat (first | refine blk_drewN ?_ _ | refine blk_drew ?_ | refine blk_alloc ?_ _)); exact BK202.out) hb); have n4_ := Aside0.mk (blk_below (g := gb206) (o := .cells #[.int .i64 t203, .int .i64 t204] 32 (0, 0)) (by (with_reducible repeat (first | refine blk_drewN ?_ _ | refine blk_drew ?_ | refine blk_alloc ?_ _)); exact BK206.out) hb); have n5_ := Aside0.mk (blk_below (g := gb210) (o := .cells #[.int .i64 t207, .int .i64 t208] 32 (0, 0)) (by (with_reducible repeat (first | refine blk_drewN ?_ _ | refine blk_drew ?_ | refine blk_alloc ?_ _)); exact BK210.out) hb); have n6_ := Aside0.mk (blk_below (g := gb214) (o := .cells #[.int .i64 t211, .int .i64 t212] 32 (0, 0)) (by (with_reducible repeat (first | refine blk_drewN ?_ _ | refine blk_drew ?_ | refine blk_alloc ?_ _)); exact BK214.out) hb); have n7_ := Aside0.mk (blk_below (g := gb218) (o := .cells #[.int .i64 t215, .int .i64 t216] 32 (0, 0)) (by (with_reducible repeat (first | refine blk_drewN ?_ _ | refine blk_drew ?_ | refine blk_alloc ?_ _)); exact BK218.out) hb); have n8_ := Aside0.mk (blk_below (g := gb219) (o := .cells #[.int .i64 x220000_101, .int .i64 x220001_101] 32 (0, 0)) (by (with_reducible repeat (first | refine blk_drewN ?_ _ | refine blk_drew ?_ | refine blk_alloc ?_ _)); exact BK219.out) hb); have n9_ := Aside0.mk (blk_below (g := gb220) (o := .cells #[.int .i64 x221000_101, .int .i64 x221001_101] 32 (0, 0)) (by (with_reducible repeat (first | refine blk_drewN ?_ _ | refine blk_drew ?_ | refine blk_alloc ?_ _)); exact BK220.out) hb); have n10_ := Aside0.mk (below_step (by repeat (first | (with_reducible first | exact HB.out | apply below_alloc | apply pw_below_drewN | apply below_drew1 | refine below_set ?_ GE202.out | refine below_set ?_ GE206.out | refine below_set ?_ GE210.out | refine below_set ?_ GE214.out | refine below_set ?_ GE218.out | refine below_set ?_ GE219.out | refine below_set ?_ GE220.out) | exact HB.out)) hb); clear HO223; clear HO227; clear BK202; clear BK206; clear BK210; clear BK214; clear BK218; clear BK219; clear BK220; clear HB; have HO223 := n0_; have HO227 := n1_; have HO230 := n2_; have BK202 := n3_; have BK206 := n4_; have BK210 := n5_; have BK214 := n6_; have BK218 := n7_; have BK219 := n8_; have BK220 := n9_; have HB := n10_; clear n0_ n1_ n2_ n3_ n4_ n5_ n6_ n7_ n8_ n9_ n10_; clear hb ho190; obtain ⟨Ao191, co191, eo191⟩ := Kd.R_slice HO230.out; subst eo191) | ((with_reducible refine gate_callee (f := 17) rfl ?_); refine goesL_ (some 108) rfl rfl Try.func17 (by kernel_rfl) rfl #[.slice Ao191 y228.length co191] rfl (by (try simp only [List.map_toArray, List.map_cons, List.map_nil]); first | done | rfl | (simp only [List.length_drop, List.length_take]; rfl)) ?_; (with_reducible refine (order_Frames.calls kj101 _ _ y228 t231 t232 _ ?side1 ?side2 A132.out).mono ?_); (case side1 => repeat (first | exact (Kd.R_reads' HO230.out).2.2 | (with_reducible refine Kd.C_alloc ?_ _) | (with_reducible refine Kd.C_drewN ?_ _) | (with_reducible refine Kd.C_drew ?_))); (case side2 => exact (Kd.R_reads' HO230.out).2.1); rintro e w192 ⟨v233, rfl, ho0, hb⟩; refine ⟨_, rfl, ?_⟩; have n0_ := Aside0.mk (Kd.R_below (by (with_reducible repeat (first | apply Kd.R_alloc | apply Kd.R_drewN | apply Kd.R_drew)); exact HO223.out) hb); have n1_ := Aside0.mk (Kd.R_elder' (by (with_reducible repeat (first | apply Kd.R_alloc | apply Kd.R_drewN | apply Kd.R_drew)); exact HO227.out) (Kd.R_base ho0) hb); have n2_ := Aside0.mk (Kd.R_below (by (with_reducible repeat (first | apply Kd.R_alloc | apply Kd.R_drewN | apply Kd.R_drew)); exact HO230.out) hb); have n3_ := Aside0.mk (Kd.R_lower (Kd.R_new' ho0 (Kd.R_lt (by (with_reducible repeat (first | apply Kd.R_alloc | apply Kd.R_drewN | apply Kd.R_drew)); exact HO227.out))) (below_size (by repeat (first | (with_reducible first | exact HB.out | apply below_alloc | apply pw_below_drewN | apply below_drew1 | refine below_set ?_ GE202.out | refine below_set ?_ GE206.out | refine below_set ?_ GE210.out | refine below_set ?_ GE214.out | refine below_set ?_ GE218.out | refine below_set ?_ GE219.out | refine below_set ?_ GE220.out) | exact HB.out)))); have n4_ := Aside0.mk (blk_below (g := gb202) (o := .cells #[.int .i64 t200, .int .i64 t201] 32 (0, 0)) (by (with_reducible repeat (first | refine blk_drewN ?_ _ | refine blk_drew ?_ | refine blk_alloc ?_ _)); exact BK202.out) hb); have n5_ := Aside0.mk (blk_below (g := gb206) (o := .cells #[.int .i64 t203, .int .i64 t204] 32 (0, 0)) (by (with_reducible repeat (first | refine blk_drewN ?_ _ | refine blk_drew ?_ | refine blk_alloc ?_ _)); exact BK206.out) hb); have n6_ := Aside0.mk (blk_below (g := gb210) (o := .cells #[.int .i64 t207, .int .i64 t208] 32 (0, 0)) (by (with_reducible repeat (first | refine blk_drewN ?_ _ | refine blk_drew ?_ | refine blk_alloc ?_ _)); exact BK210.out) hb); have n7_ := Aside0.mk (blk_below (g := gb214) (o := .cells #[.int .i64 t211, .int .i64 t212] 32 (0, 0)) (by (with_reducible repeat (first | refine blk_drewN ?_ _ | refine blk_drew ?_ | refine blk_alloc ?_ _)); exact BK214.out) hb); have n8_ := Aside0.mk (blk_below (g := gb218) (o := .cells #[.int .i64 t215, .int .i64 t216] 32 (0, 0)) (by (with_reducible repeat (first | refine blk_drewN ?_ _ | refine blk_drew ?_ | refine blk_alloc ?_ _)); exact BK218.out) hb); have n9_ := Aside0.mk (blk_below (g := gb219) (o := .cells #[.int .i64 x220000_101, .int .i64 x220001_101] 32 (0, 0)) (by (with_reducible repeat (first | refine blk_drewN ?_ _ | refine blk_drew ?_ | refine blk_alloc ?_ _)); exact BK219.out) hb); have n10_ := Aside0.mk (blk_below (g := gb220) (o := .cells #[.int .i64 x221000_101, .int .i64 x221001_101] 32 (0, 0)) (by (with_reducible repeat (first | refine blk_drewN ?_ _ | refine blk_drew ?_ | refine blk_alloc ?_ _)); exact BK220.out) hb); have n11_ := Aside0.mk (below_step (by repeat (first | (with_reducible first | exact HB.out | apply below_alloc | apply pw_below_drewN | apply below_drew1 | refine below_set ?_ GE202.out | refine below_set ?_ GE206.out | refine below_set ?_ GE210.out | refine below_set ?_ GE214.out | refine below_set ?_ GE218.out | refine below_set ?_ GE219.out | refine below_set ?_ GE220.out) | exact HB.out)) hb); clear HO223; clear HO227; clear HO230; clear BK202; clear BK206; clear BK210; clear BK214; clear BK218; clear BK219; clear BK220; clear HB; have HO223 := n0_; have HO227 := n1_; have HO230 := n2_; have HO234 := n3_; have BK202 := n4_; have BK206 := n5_; have BK210 := n6_; have BK214 := n7_; have BK218 := n8_; have BK219 := n9_; have BK220 := n10_; have HB := n11_; clear n0_ n1_ n2_ n3_ n4_ n5_ n6_ n7_ n8_ n9_ n10_ n11_; (try clear hb); (try clear hb2); (try clear hk); (try clear hi); (try clear ho0); obtain ⟨Ao193, co193, eo193⟩ := Kd.R_slice HO227.out; subst eo193; obtain ⟨Ao194, co194, eo194⟩ := Kd.R_slice HO234.out; subst eo194) | (go_at_call 18; (with_reducible refine (headgatekit_SameInts.calls kj101 _ _ t224 _ _ t231 false _ ?side1 ?side2 ?side3 ?side4 A135.out).mono ?_); (case side1 => repeat (first | exact (Kd.R_reads' HO227.out).2.2 | (with_reducible refine Kd.C_alloc ?_ _) | (with_reducible refine Kd.C_drewN ?_ _) | (with_reducible refine Kd.C_drew ?_))); (case side2 => exact (Kd.R_reads' HO227.out).2.1); (case side3 => repeat (first | exact (Kd.R_reads' HO234.out).2.2 | (with_reducible refine Kd.C_alloc ?_ _) | (with_reducible refine Kd.C_drewN ?_ _) | (with_reducible refine Kd.C_drew ?_))); (case side4 => exact (Kd.R_reads' HO234.out).2.1); rintro e w' ⟨rfl, ⟨nd, rfl⟩⟩))
                      go_ret
                      exact ⟨by first | rfl | (simp [errW_none, errW_some] <;> rfl) | (simp only [← hji4, ← hji6]; first | rfl | (simp [errW_none, errW_some] <;> rfl)) | (simp [*, errW_none, errW_some] <;> rfl), by repeat (first | (with_reducible first | exact HB.out | apply below_alloc | apply pw_below_drewN | apply below_drew1 | refine below_set ?_ GE202.out | refine below_set ?_ GE206.out | refine below_set ?_ GE210.out | refine below_set ?_ GE214.out | refine below_set ?_ GE218.out | refine below_set ?_ GE219.out | refine below_set ?_ GE220.out) | exact HB.out)⟩
                  · rw [if_neg c134] at H
                    have c134b0 : (t232 == 0) = false := beq_eq_false_iff_ne.mpr c134
                    have c134b1 : (t232 != 0) = true := bne_iff_ne.mpr c134
                    obtain rfl := Option.some.inj H
                    have hnb195 := NB219_202.out
                    have hnc195 := NB202_219.out
                    have hnb196 := NB219_206.out
                    have hnc196 := NB206_219.out
                    have hnb197 := NB219_210.out
                    have hnc197 := NB210_219.out
                    have hnb198 := NB219_214.out
                    have hnc198 := NB214_219.out
                    have hnb199 := NB219_218.out
                    have hnc199 := NB218_219.out
                    have hnb200 := NB219_220.out
                    have hnc200 := NB220_219.out
                    have hcz201_0 : wc.cell? ⟨gb219, 0, none⟩ = some (.int .i64 x220000_101) := (blk_cell BK219.out 0).trans rfl
                    have hcz201_1 : wc.cell? ⟨gb219, 1, none⟩ = some (.int .i64 x220001_101) := (blk_cell BK219.out 1).trans rfl
                    have hfz201_0 := blk_frozen BK219.out 0
                    have hfz201_1 := blk_frozen BK219.out 1
                    have hnb202 := NB220_202.out
                    have hnc202 := NB202_220.out
                    have hnb203 := NB220_206.out
                    have hnc203 := NB206_220.out
                    have hnb204 := NB220_210.out
                    have hnc204 := NB210_220.out
                    have hnb205 := NB220_214.out
                    have hnc205 := NB214_220.out
                    have hnb206 := NB220_218.out
                    have hnc206 := NB218_220.out
                    have hcz207_0 : wc.cell? ⟨gb220, 0, none⟩ = some (.int .i64 x221000_101) := (blk_cell BK220.out 0).trans rfl
                    have hcz207_1 : wc.cell? ⟨gb220, 1, none⟩ = some (.int .i64 x221001_101) := (blk_cell BK220.out 1).trans rfl
                    have hfz207_0 := blk_frozen BK220.out 0
                    have hfz207_1 := blk_frozen BK220.out 1
                    go_wp2_with (first | ((with_reducible refine gate_dst (N := 101) rfl ?_); refine Kd.R_lit k32 _ 32 ?hg (N := 101) ?hd (xs := ([(⟨x220000_101, x220001_101⟩ : S32), (⟨x221000_101, x221001_101⟩ : S32)] : List (S32))) (inner := [.int .i64 x220000_101, .int .i64 x220001_101, .int .i64 x221000_101, .int .i64 x221001_101]) (ok := fun _ => True) (okp := fun _ => True) ?hr ?hp (fun _ hk => hk) trivial (Below.refl _ _) (Nat.le_refl _) (by simp) ?_; (case hd => rfl); (case hg => rfl); (case hr => first | (go_simp; done) | (go_simp; rfl)); (case hp => exact (Reps.c2 (show Kd.M k32 _ _ _ (⟨x220000_101, x220001_101⟩ : S32) [.int .i64 x220000_101, .int .i64 x220001_101] from (k32_mkM _ _ _ (⟨x220000_101, x220001_101⟩ : S32) )) (Reps.c2 (show Kd.M k32 _ _ _ (⟨x221000_101, x221001_101⟩ : S32) [.int .i64 x221000_101, .int .i64 x221001_101] from (k32_mkM _ _ _ (⟨x221000_101, x221001_101⟩ : S32) )) (Reps.none _ _)))); intro v222 w208 ho209 hb hg_ hnew_; clear hg_ hnew_; (first | rw [← Ny221.out] at ho209 | (simp only [Int.reduceToNat] at ho209; rw [← Ny221.out] at ho209)); have n0_ := Aside0.mk (Kd.R_lower (Kd.R_newB (Kd.R_newB (Kd.R_newB (Kd.R_newB (Kd.R_newB (Kd.R_newB (Kd.R_newB ho209 (g := gb202) (o := .cells #[.int .i64 t200, .int .i64 t201] 32 (0, 0)) (by (with_reducible repeat (first | refine blk_drewN ?_ _ | refine blk_drew ?_ | refine blk_alloc ?_ _)); exact BK202.out)) (g := gb206) (o := .cells #[.int .i64 t203, .int .i64 t204] 32 (0, 0)) (by (with_reducible repeat (first | refine blk_drewN ?_ _ | refine blk_drew ?_ | refine blk_alloc ?_ _)); exact BK206.out)) (g := gb210) (o := .cells #[.int .i64 t207, .int .i64 t208] 32 (0, 0)) (by (with_reducible repeat (first | refine blk_drewN ?_ _ | refine blk_drew ?_ | refine blk_alloc ?_ _)); exact BK210.out)) (g := gb214) (o := .cells #[.int .i64 t211, .int .i64 t212] 32 (0, 0)) (by (with_reducible repeat (first | refine blk_drewN ?_ _ | refine blk_drew ?_ | refine blk_alloc ?_ _)); exact BK214.out)) (g := gb218) (o := .cells #[.int .i64 t215, .int .i64 t216] 32 (0, 0)) (by (with_reducible repeat (first | refine blk_drewN ?_ _ | refine blk_drew ?_ | refine blk_alloc ?_ _)); exact BK218.out)) (g := gb219) (o := .cells #[.int .i64 x220000_101, .int .i64 x220001_101] 32 (0, 0)) (by (with_reducible repeat (first | refine blk_drewN ?_ _ | refine blk_drew ?_ | refine blk_alloc ?_ _)); exact BK219.out)) (g := gb220) (o := .cells #[.int .i64 x221000_101, .int .i64 x221001_101] 32 (0, 0)) (by (with_reducible repeat (first | refine blk_drewN ?_ _ | refine blk_drew ?_ | refine blk_alloc ?_ _)); exact BK220.out)) (below_size (by repeat (first | (with_reducible first | exact HB.out | apply below_alloc | apply pw_below_drewN | apply below_drew1 | refine below_set ?_ GE202.out | refine below_set ?_ GE206.out | refine below_set ?_ GE210.out | refine below_set ?_ GE214.out | refine below_set ?_ GE218.out | refine below_set ?_ GE219.out | refine below_set ?_ GE220.out) | exact HB.out)))); have n1_ := Aside0.mk (blk_below (g := gb202) (o := .cells #[.int .i64 t200, .int .i64 t201] 32 (0, 0)) (by (with_reducible repeat (first | refine blk_drewN ?_ _ | refine blk_drew ?_ | refine blk_alloc ?_ _)); exact BK202.out) hb); have n2_ := Aside0.mk (blk_below (g := gb206) (o := .cells #[.int .i64 t203, .int .i64 t204] 32 (0, 0)) (by (with_reducible repeat (first | refine blk_drewN ?_ _ | refine blk_drew ?_ | refine blk_alloc ?_ _)); exact BK206.out) hb); have n3_ := Aside0.mk (blk_below (g := gb210) (o := .cells #[.int .i64 t207, .int .i64 t208] 32 (0, 0)) (by (with_reducible repeat (first | refine blk_drewN ?_ _ | refine blk_drew ?_ | refine blk_alloc ?_ _)); exact BK210.out) hb); have n4_ := Aside0.mk (blk_below (g := gb214) (o := .cells #[.int .i64 t211, .int .i64 t212] 32 (0, 0)) (by (with_reducible repeat (first | refine blk_drewN ?_ _ | refine blk_drew ?_ | refine blk_alloc ?_ _)); exact BK214.out) hb); have n5_ := Aside0.mk (blk_below (g := gb218) (o := .cells #[.int .i64 t215, .int .i64 t216] 32 (0, 0)) (by (with_reducible repeat (first | refine blk_drewN ?_ _ | refine blk_drew ?_ | refine blk_alloc ?_ _)); exact BK218.out) hb); have n6_ := Aside0.mk (blk_below (g := gb219) (o := .cells #[.int .i64 x220000_101, .int .i64 x220001_101] 32 (0, 0)) (by (with_reducible repeat (first | refine blk_drewN ?_ _ | refine blk_drew ?_ | refine blk_alloc ?_ _)); exact BK219.out) hb); have n7_ := Aside0.mk (blk_below (g := gb220) (o := .cells #[.int .i64 x221000_101, .int .i64 x221001_101] 32 (0, 0)) (by (with_reducible repeat (first | refine blk_drewN ?_ _ | refine blk_drew ?_ | refine blk_alloc ?_ _)); exact BK220.out) hb); have n8_ := Aside0.mk (below_step (by repeat (first | (with_reducible first | exact HB.out | apply below_alloc | apply pw_below_drewN | apply below_drew1 | refine below_set ?_ GE202.out | refine below_set ?_ GE206.out | refine below_set ?_ GE210.out | refine below_set ?_ GE214.out | refine below_set ?_ GE218.out | refine below_set ?_ GE219.out | refine below_set ?_ GE220.out) | exact HB.out)) hb); clear BK202; clear BK206; clear BK210; clear BK214; clear BK218; clear BK219; clear BK220; clear HB; have HO223 := n0_; have BK202 := n1_; have BK206 := n2_; have BK210 := n3_; have BK214 := n4_; have BK218 := n5_; have BK219 := n6_; have BK220 := n7_; have HB := n8_; clear n0_ n1_ n2_ n3_ n4_ n5_ n6_ n7_ n8_; clear hb ho209; obtain ⟨Ao210, co210, eo210⟩ := Kd.R_slice HO223.out; subst eo210) | ((with_reducible refine gate_callee (f := 17) rfl ?_); refine goesL_ (some 102) rfl rfl Try.func17 (by kernel_rfl) rfl #[.slice Ao210 y221.length co210] rfl (by (try simp only [List.map_toArray, List.map_cons, List.map_nil]); first | done | rfl | (simp only [List.length_drop, List.length_take]; rfl)) ?_; (with_reducible refine (order_Frames.calls kj101 _ _ y221 t224 t225 _ ?side1 ?side2 A131.out).mono ?_); (case side1 => repeat (first | exact (Kd.R_reads' HO223.out).2.2 | (with_reducible refine Kd.C_alloc ?_ _) | (with_reducible refine Kd.C_drewN ?_ _) | (with_reducible refine Kd.C_drew ?_))); (case side2 => exact (Kd.R_reads' HO223.out).2.1); rintro e w211 ⟨v226, rfl, ho0, hb⟩; refine ⟨_, rfl, ?_⟩; have n0_ := Aside0.mk (Kd.R_below (by (with_reducible repeat (first | apply Kd.R_alloc | apply Kd.R_drewN | apply Kd.R_drew)); exact HO223.out) hb); have n1_ := Aside0.mk (Kd.R_lower ho0 (below_size (by repeat (first | (with_reducible first | exact HB.out | apply below_alloc | apply pw_below_drewN | apply below_drew1 | refine below_set ?_ GE202.out | refine below_set ?_ GE206.out | refine below_set ?_ GE210.out | refine below_set ?_ GE214.out | refine below_set ?_ GE218.out | refine below_set ?_ GE219.out | refine below_set ?_ GE220.out) | exact HB.out)))); have n2_ := Aside0.mk (blk_below (g := gb202) (o := .cells #[.int .i64 t200, .int .i64 t201] 32 (0, 0)) (by (with_reducible repeat (first | refine blk_drewN ?_ _ | refine blk_drew ?_ | refine blk_alloc ?_ _)); exact BK202.out) hb); have n3_ := Aside0.mk (blk_below (g := gb206) (o := .cells #[.int .i64 t203, .int .i64 t204] 32 (0, 0)) (by (with_reducible repeat (first | refine blk_drewN ?_ _ | refine blk_drew ?_ | refine blk_alloc ?_ _)); exact BK206.out) hb); have n4_ := Aside0.mk (blk_below (g := gb210) (o := .cells #[.int .i64 t207, .int .i64 t208] 32 (0, 0)) (by (with_reducible repeat (first | refine blk_drewN ?_ _ | refine blk_drew ?_ | refine blk_alloc ?_ _)); exact BK210.out) hb); have n5_ := Aside0.mk (blk_below (g := gb214) (o := .cells #[.int .i64 t211, .int .i64 t212] 32 (0, 0)) (by (with_reducible repeat (first | refine blk_drewN ?_ _ | refine blk_drew ?_ | refine blk_alloc ?_ _)); exact BK214.out) hb); have n6_ := Aside0.mk (blk_below (g := gb218) (o := .cells #[.int .i64 t215, .int .i64 t216] 32 (0, 0)) (by (with_reducible repeat (first | refine blk_drewN ?_ _ | refine blk_drew ?_ | refine blk_alloc ?_ _)); exact BK218.out) hb); have n7_ := Aside0.mk (blk_below (g := gb219) (o := .cells #[.int .i64 x220000_101, .int .i64 x220001_101] 32 (0, 0)) (by (with_reducible repeat (first | refine blk_drewN ?_ _ | refine blk_drew ?_ | refine blk_alloc ?_ _)); exact BK219.out) hb); have n8_ := Aside0.mk (blk_below (g := gb220) (o := .cells #[.int .i64 x221000_101, .int .i64 x221001_101] 32 (0, 0)) (by (with_reducible repeat (first | refine blk_drewN ?_ _ | refine blk_drew ?_ | refine blk_alloc ?_ _)); exact BK220.out) hb); have n9_ := Aside0.mk (below_step (by repeat (first | (with_reducible first | exact HB.out | apply below_alloc | apply pw_below_drewN | apply below_drew1 | refine below_set ?_ GE202.out | refine below_set ?_ GE206.out | refine below_set ?_ GE210.out | refine below_set ?_ GE214.out | refine below_set ?_ GE218.out | refine below_set ?_ GE219.out | refine below_set ?_ GE220.out) | exact HB.out)) hb); clear HO223; clear BK202; clear BK206; clear BK210; clear BK214; clear BK218; clear BK219; clear BK220; clear HB; have HO223 := n0_; have HO227 := n1_; have BK202 := n2_; have BK206 := n3_; have BK210 := n4_; have BK214 := n5_; have BK218 := n6_; have BK219 := n7_; have BK220 := n8_; have HB := n9_; clear n0_ n1_ n2_ n3_ n4_ n5_ n6_ n7_ n8_ n9_; (try clear hb); (try clear hb2); (try clear hk); (try clear hi); (try clear ho0); have hnb212 := NB214_202.out; have hnc212 := NB202_214.out; have hnb213 := NB214_206.out; have hnc213 := NB206_214.out; have hnb214 := NB214_210.out; have hnc214 := NB210_214.out; have hnb215 := NB214_218.out; have hnc215 := NB218_214.out; have hcz216_0 : w211.cell? ⟨gb214, 0, none⟩ = some (.int .i64 t211) := (blk_cell BK214.out 0).trans rfl; have hcz216_1 : w211.cell? ⟨gb214, 1, none⟩ = some (.int .i64 t212) := (blk_cell BK214.out 1).trans rfl; have hfz216_0 := blk_frozen BK214.out 0; have hfz216_1 := blk_frozen BK214.out 1) | ((with_reducible refine gate_dst (N := 107) rfl ?_); refine Kd.R_lit k32 _ 32 ?hg (N := 107) ?hd (xs := ([(⟨t211, t212⟩ : S32)] : List (S32))) (inner := [.int .i64 t211, .int .i64 t212]) (ok := fun _ => True) (okp := fun _ => True) ?hr ?hp (fun _ hk => hk) trivial (Below.refl _ _) (Nat.le_refl _) (by simp) ?_; (case hd => rfl); (case hg => rfl); (case hr => first | (go_simp; done) | (go_simp; rfl)); (case hp => exact (Reps.c2 (show Kd.M k32 _ _ _ (⟨t211, t212⟩ : S32) [.int .i64 t211, .int .i64 t212] from (k32_mkM _ _ _ (⟨t211, t212⟩ : S32) )) (Reps.none _ _))); intro v229 w217 ho218 hb hg_ hnew_; clear hg_ hnew_; (first | rw [← Ny228.out] at ho218 | (simp only [Int.reduceToNat] at ho218; rw [← Ny228.out] at ho218)); have n0_ := Aside0.mk (Kd.R_elder' (by (with_reducible repeat (first | apply Kd.R_alloc | apply Kd.R_drewN | apply Kd.R_drew)); exact HO223.out) (Kd.R_base ho218) hb); have n1_ := Aside0.mk (Kd.R_below (by (with_reducible repeat (first | apply Kd.R_alloc | apply Kd.R_drewN | apply Kd.R_drew)); exact HO227.out) hb); have n2_ := Aside0.mk (Kd.R_lower (Kd.R_newB (Kd.R_newB (Kd.R_newB (Kd.R_newB (Kd.R_newB (Kd.R_newB (Kd.R_newB (Kd.R_new' ho218 (Kd.R_lt (by (with_reducible repeat (first | apply Kd.R_alloc | apply Kd.R_drewN | apply Kd.R_drew)); exact HO223.out))) (g := gb202) (o := .cells #[.int .i64 t200, .int .i64 t201] 32 (0, 0)) (by (with_reducible repeat (first | refine blk_drewN ?_ _ | refine blk_drew ?_ | refine blk_alloc ?_ _)); exact BK202.out)) (g := gb206) (o := .cells #[.int .i64 t203, .int .i64 t204] 32 (0, 0)) (by (with_reducible repeat (first | refine blk_drewN ?_ _ | refine blk_drew ?_ | refine blk_alloc ?_ _)); exact BK206.out)) (g := gb210) (o := .cells #[.int .i64 t207, .int .i64 t208] 32 (0, 0)) (by (with_reducible repeat (first | refine blk_drewN ?_ _ | refine blk_drew ?_ | refine blk_alloc ?_ _)); exact BK210.out)) (g := gb214) (o := .cells #[.int .i64 t211, .int .i64 t212] 32 (0, 0)) (by (with_reducible repeat (first | refine blk_drewN ?_ _ | refine blk_drew ?_ | refine blk_alloc ?_ _)); exact BK214.out)) (g := gb218) (o := .cells #[.int .i64 t215, .int .i64 t216] 32 (0, 0)) (by (with_reducible repeat (first | refine blk_drewN ?_ _ | refine blk_drew ?_ | refine blk_alloc ?_ _)); exact BK218.out)) (g := gb219) (o := .cells #[.int .i64 x220000_101, .int .i64 x220001_101] 32 (0, 0)) (by (with_reducible repeat (first | refine blk_drewN ?_ _ | refine blk_drew ?_ | refine blk_alloc ?_ _)); exact BK219.out)) (g := gb220) (o := .cells #[.int .i64 x221000_101, .int .i64 x221001_101] 32 (0, 0)) (by (with_reducible repeat (first | refine blk_drewN ?_ _ | refine blk_drew ?_ | refine blk_alloc ?_ _)); exact BK220.out)) (below_size (by repeat (first | (with_reducible first | exact HB.out | apply below_alloc | apply pw_below_drewN | apply below_drew1 | refine below_set ?_ GE202.out | refine below_set ?_ GE206.out | refine below_set ?_ GE210.out | refine below_set ?_ GE214.out | refine below_set ?_ GE218.out | refine below_set ?_ GE219.out | refine below_set ?_ GE220.out) | exact HB.out)))); have n3_ := Aside0.mk (blk_below (g := gb202) (o := .cells #[.int .i64 t200, .int .i64 t201] 32 (0, 0)) (by (with_reducible repeat (first | refine blk_drewN ?_ _ | refine blk_drew ?_ | refine blk_alloc ?_ _)); exact BK202.out) hb); have n4_ := Aside0.mk (blk_below (g := gb206) (o := .cells #[.int .i64 t203, .int .i64 t204] 32 (0, 0)) (by (with_reducible repeat (first | refine blk_drewN ?_ _ | refine blk_drew ?_ | refine blk_alloc ?_ _)); exact BK206.out) hb); have n5_ := Aside0.mk (blk_below (g := gb210) (o := .cells #[.int .i64 t207, .int .i64 t208] 32 (0, 0)) (by (with_reducible repeat (first | refine blk_drewN ?_ _ | refine blk_drew ?_ | refine blk_alloc ?_ _)); exact BK210.out) hb); have n6_ := Aside0.mk (blk_below (g := gb214) (o := .cells #[.int .i64 t211, .int .i64 t212] 32 (0, 0)) (by (with_reducible repeat (first | refine blk_drewN ?_ _ | refine blk_drew ?_ | refine blk_alloc ?_ _)); exact BK214.out) hb); have n7_ := Aside0.mk (blk_below (g := gb218) (o := .cells #[.int .i64 t215, .int .i64 t216] 32 (0, 0)) (by (with_reducible repeat (first | refine blk_drewN ?_ _ | refine blk_drew ?_ | refine blk_alloc ?_ _)); exact BK218.out) hb); have n8_ := Aside0.mk (blk_below (g := gb219) (o := .cells #[.int .i64 x220000_101, .int .i64 x220001_101] 32 (0, 0)) (by (with_reducible repeat (first | refine blk_drewN ?_ _ | refine blk_drew ?_ | refine blk_alloc ?_ _)); exact BK219.out) hb); have n9_ := Aside0.mk (blk_below (g := gb220) (o := .cells #[.int .i64 x221000_101, .int .i64 x221001_101] 32 (0, 0)) (by (with_reducible repeat (first | refine blk_drewN ?_ _ | refine blk_drew ?_ | refine blk_alloc ?_ _)); exact BK220.out) hb); have n10_ := Aside0.mk (below_step (by repeat (first | (with_reducible first | exact HB.out | apply below_alloc | apply pw_below_drewN | apply below_drew1 | refine below_set ?_ GE202.out | refine below_set ?_ GE206.out | refine below_set ?_ GE210.out | refine below_set ?_ GE214.out | refine below_set ?_ GE218.out | refine below_set ?_ GE219.out | refine below_set ?_ GE220.out) | exact HB.out)) hb); clear HO223; clear HO227; clear BK202; clear BK206; clear BK210; clear BK214; clear BK218; clear BK219; clear BK220; clear HB; have HO223 := n0_; have HO227 := n1_; have HO230 := n2_; have BK202 := n3_; have BK206 := n4_; have BK210 := n5_; have BK214 := n6_; have BK218 := n7_; have BK219 := n8_; have BK220 := n9_; have HB := n10_; clear n0_ n1_ n2_ n3_ n4_ n5_ n6_ n7_ n8_ n9_ n10_; clear hb ho218; obtain ⟨Ao219, co219, eo219⟩ := Kd.R_slice HO230.out; subst eo219) | ((with_reducible refine gate_callee (f := 17) rfl ?_); refine goesL_ (some 108) rfl rfl Try.func17 (by kernel_rfl) rfl #[.slice Ao219 y228.length co219] rfl (by (try simp only [List.map_toArray, List.map_cons, List.map_nil]); first | done | rfl | (simp only [List.length_drop, List.length_take]; rfl)) ?_; (with_reducible refine (order_Frames.calls kj101 _ _ y228 t231 t232 _ ?side1 ?side2 A132.out).mono ?_); (case side1 => repeat (first | exact (Kd.R_reads' HO230.out).2.2 | (with_reducible refine Kd.C_alloc ?_ _) | (with_reducible refine Kd.C_drewN ?_ _) | (with_reducible refine Kd.C_drew ?_))); (case side2 => exact (Kd.R_reads' HO230.out).2.1); rintro e w220 ⟨v233, rfl, ho0, hb⟩; refine ⟨_, rfl, ?_⟩; have n0_ := Aside0.mk (Kd.R_below (by (with_reducible repeat (first | apply Kd.R_alloc | apply Kd.R_drewN | apply Kd.R_drew)); exact HO223.out) hb); have n1_ := Aside0.mk (Kd.R_elder' (by (with_reducible repeat (first | apply Kd.R_alloc | apply Kd.R_drewN | apply Kd.R_drew)); exact HO227.out) (Kd.R_base ho0) hb); have n2_ := Aside0.mk (Kd.R_below (by (with_reducible repeat (first | apply Kd.R_alloc | apply Kd.R_drewN | apply Kd.R_drew)); exact HO230.out) hb); have n3_ := Aside0.mk (Kd.R_lower (Kd.R_new' ho0 (Kd.R_lt (by (with_reducible repeat (first | apply Kd.R_alloc | apply Kd.R_drewN | apply Kd.R_drew)); exact HO227.out))) (below_size (by repeat (first | (with_reducible first | exact HB.out | apply below_alloc | apply pw_below_drewN | apply below_drew1 | refine below_set ?_ GE202.out | refine below_set ?_ GE206.out | refine below_set ?_ GE210.out | refine below_set ?_ GE214.out | refine below_set ?_ GE218.out | refine below_set ?_ GE219.out | refine below_set ?_ GE220.out) | exact HB.out)))); have n4_ := Aside0.mk (blk_below (g := gb202) (o := .cells #[.int .i64 t200, .int .i64 t201] 32 (0, 0)) (by (with_reducible repeat (first | refine blk_drewN ?_ _ | refine blk_drew ?_ | refine blk_alloc ?_ _)); exact BK202.out) hb); have n5_ := Aside0.mk (blk_below (g := gb206) (o := .cells #[.int .i64 t203, .int .i64 t204] 32 (0, 0)) (by (with_reducible repeat (first | refine blk_drewN ?_ _ | refine blk_drew ?_ | refine blk_alloc ?_ _)); exact BK206.out) hb); have n6_ := Aside0.mk (blk_below (g := gb210) (o := .cells #[.int .i64 t207, .int .i64 t208] 32 (0, 0)) (by (with_reducible repeat (first | refine blk_drewN ?_ _ | refine blk_drew ?_ | refine blk_alloc ?_ _)); exact BK210.out) hb); have n7_ := Aside0.mk (blk_below (g := gb214) (o := .cells #[.int .i64 t211, .int .i64 t212] 32 (0, 0)) (by (with_reducible repeat (first | refine blk_drewN ?_ _ | refine blk_drew ?_ | refine blk_alloc ?_ _)); exact BK214.out) hb); have n8_ := Aside0.mk (blk_below (g := gb218) (o := .cells #[.int .i64 t215, .int .i64 t216] 32 (0, 0)) (by (with_reducible repeat (first | refine blk_drewN ?_ _ | refine blk_drew ?_ | refine blk_alloc ?_ _)); exact BK218.out) hb); have n9_ := Aside0.mk (blk_below (g := gb219) (o := .cells #[.int .i64 x220000_101, .int .i64 x220001_101] 32 (0, 0)) (by (with_reducible repeat (first | refine blk_drewN ?_ _ | refine blk_drew ?_ | refine blk_alloc ?_ _)); exact BK219.out) hb); have n10_ := Aside0.mk (blk_below (g := gb220) (o := .cells #[.int .i64 x221000_101, .int .i64 x221001_101] 32 (0, 0)) (by (with_reducible repeat (first | refine blk_drewN ?_ _ | refine blk_drew ?_ | refine blk_alloc ?_ _)); exact BK220.out) hb); have n11_ := Aside0.mk (below_step (by repeat (first | (with_reducible first | exact HB.out | apply below_alloc | apply pw_below_drewN | apply below_drew1 | refine below_set ?_ GE202.out | refine below_set ?_ GE206.out | refine below_set ?_ GE210.out | refine below_set ?_ GE214.out | refine below_set ?_ GE218.out | refine below_set ?_ GE219.out | refine below_set ?_ GE220.out) | exact HB.out)) hb); clear HO223; clear HO227; clear HO230; clear BK202; clear BK206; clear BK210; clear BK214; clear BK218; clear BK219; clear BK220; clear HB; have HO223 := n0_; have HO227 := n1_; have HO230 := n2_; have HO234 := n3_; have BK202 := n4_; have BK206 := n5_; have BK210 := n6_; have BK214 := n7_; have BK218 := n8_; have BK219 := n9_; have BK220 := n10_; have HB := n11_; clear n0_ n1_ n2_ n3_ n4_ n5_ n6_ n7_ n8_ n9_ n10_ n11_; (try clear hb); (try clear hb2); (try clear hk); (try clear hi); (try clear ho0)))
                    go_ret
                    exact ⟨by first | rfl | (simp [errW_none, errW_some] <;> rfl) | (simp only [← hji4, ← hji6]; first | rfl | (simp [errW_none, errW_some] <;> rfl)) | (simp [*, errW_none, errW_some] <;> rfl), by repeat (first | (with_reducible first | exact HB.out | apply below_alloc | apply pw_below_drewN | apply below_drew1 | refine below_set ?_ GE202.out | refine below_set ?_ GE206.out | refine below_set ?_ GE210.out | refine below_set ?_ GE214.out | refine below_set ?_ GE218.out | refine below_set ?_ GE219.out | refine below_set ?_ GE220.out) | exact HB.out)⟩
                · rw [if_neg c133] at H
                  have c133b0 : (t225 == 0) = false := beq_eq_false_iff_ne.mpr c133
                  have c133b1 : (t225 != 0) = true := bne_iff_ne.mpr c133
                  obtain rfl := Option.some.inj H
                  have hnb221 := NB219_202.out
                  have hnc221 := NB202_219.out
                  have hnb222 := NB219_206.out
                  have hnc222 := NB206_219.out
                  have hnb223 := NB219_210.out
                  have hnc223 := NB210_219.out
                  have hnb224 := NB219_214.out
                  have hnc224 := NB214_219.out
                  have hnb225 := NB219_218.out
                  have hnc225 := NB218_219.out
                  have hnb226 := NB219_220.out
                  have hnc226 := NB220_219.out
                  have hcz227_0 : wc.cell? ⟨gb219, 0, none⟩ = some (.int .i64 x220000_101) := (blk_cell BK219.out 0).trans rfl
                  have hcz227_1 : wc.cell? ⟨gb219, 1, none⟩ = some (.int .i64 x220001_101) := (blk_cell BK219.out 1).trans rfl
                  have hfz227_0 := blk_frozen BK219.out 0
                  have hfz227_1 := blk_frozen BK219.out 1
                  have hnb228 := NB220_202.out
                  have hnc228 := NB202_220.out
                  have hnb229 := NB220_206.out
                  have hnc229 := NB206_220.out
                  have hnb230 := NB220_210.out
                  have hnc230 := NB210_220.out
                  have hnb231 := NB220_214.out
                  have hnc231 := NB214_220.out
                  have hnb232 := NB220_218.out
                  have hnc232 := NB218_220.out
                  have hcz233_0 : wc.cell? ⟨gb220, 0, none⟩ = some (.int .i64 x221000_101) := (blk_cell BK220.out 0).trans rfl
                  have hcz233_1 : wc.cell? ⟨gb220, 1, none⟩ = some (.int .i64 x221001_101) := (blk_cell BK220.out 1).trans rfl
                  have hfz233_0 := blk_frozen BK220.out 0
                  have hfz233_1 := blk_frozen BK220.out 1
                  go_wp2_with (first | ((with_reducible refine gate_dst (N := 101) rfl ?_); refine Kd.R_lit k32 _ 32 ?hg (N := 101) ?hd (xs := ([(⟨x220000_101, x220001_101⟩ : S32), (⟨x221000_101, x221001_101⟩ : S32)] : List (S32))) (inner := [.int .i64 x220000_101, .int .i64 x220001_101, .int .i64 x221000_101, .int .i64 x221001_101]) (ok := fun _ => True) (okp := fun _ => True) ?hr ?hp (fun _ hk => hk) trivial (Below.refl _ _) (Nat.le_refl _) (by simp) ?_; (case hd => rfl); (case hg => rfl); (case hr => first | (go_simp; done) | (go_simp; rfl)); (case hp => exact (Reps.c2 (show Kd.M k32 _ _ _ (⟨x220000_101, x220001_101⟩ : S32) [.int .i64 x220000_101, .int .i64 x220001_101] from (k32_mkM _ _ _ (⟨x220000_101, x220001_101⟩ : S32) )) (Reps.c2 (show Kd.M k32 _ _ _ (⟨x221000_101, x221001_101⟩ : S32) [.int .i64 x221000_101, .int .i64 x221001_101] from (k32_mkM _ _ _ (⟨x221000_101, x221001_101⟩ : S32) )) (Reps.none _ _)))); intro v222 w234 ho235 hb hg_ hnew_; clear hg_ hnew_; (first | rw [← Ny221.out] at ho235 | (simp only [Int.reduceToNat] at ho235; rw [← Ny221.out] at ho235)); have n0_ := Aside0.mk (Kd.R_lower (Kd.R_newB (Kd.R_newB (Kd.R_newB (Kd.R_newB (Kd.R_newB (Kd.R_newB (Kd.R_newB ho235 (g := gb202) (o := .cells #[.int .i64 t200, .int .i64 t201] 32 (0, 0)) (by (with_reducible repeat (first | refine blk_drewN ?_ _ | refine blk_drew ?_ | refine blk_alloc ?_ _)); exact BK202.out)) (g := gb206) (o := .cells #[.int .i64 t203, .int .i64 t204] 32 (0, 0)) (by (with_reducible repeat (first | refine blk_drewN ?_ _ | refine blk_drew ?_ | refine blk_alloc ?_ _)); exact BK206.out)) (g := gb210) (o := .cells #[.int .i64 t207, .int .i64 t208] 32 (0, 0)) (by (with_reducible repeat (first | refine blk_drewN ?_ _ | refine blk_drew ?_ | refine blk_alloc ?_ _)); exact BK210.out)) (g := gb214) (o := .cells #[.int .i64 t211, .int .i64 t212] 32 (0, 0)) (by (with_reducible repeat (first | refine blk_drewN ?_ _ | refine blk_drew ?_ | refine blk_alloc ?_ _)); exact BK214.out)) (g := gb218) (o := .cells #[.int .i64 t215, .int .i64 t216] 32 (0, 0)) (by (with_reducible repeat (first | refine blk_drewN ?_ _ | refine blk_drew ?_ | refine blk_alloc ?_ _)); exact BK218.out)) (g := gb219) (o := .cells #[.int .i64 x220000_101, .int .i64 x220001_101] 32 (0, 0)) (by (with_reducible repeat (first | refine blk_drewN ?_ _ | refine blk_drew ?_ | refine blk_alloc ?_ _)); exact BK219.out)) (g := gb220) (o := .cells #[.int .i64 x221000_101, .int .i64 x221001_101] 32 (0, 0)) (by (with_reducible repeat (first | refine blk_drewN ?_ _ | refine blk_drew ?_ | refine blk_alloc ?_ _)); exact BK220.out)) (below_size (by repeat (first | (with_reducible first | exact HB.out | apply below_alloc | apply pw_below_drewN | apply below_drew1 | refine below_set ?_ GE202.out | refine below_set ?_ GE206.out | refine below_set ?_ GE210.out | refine below_set ?_ GE214.out | refine below_set ?_ GE218.out | refine below_set ?_ GE219.out | refine below_set ?_ GE220.out) | exact HB.out)))); have n1_ := Aside0.mk (blk_below (g := gb202) (o := .cells #[.int .i64 t200, .int .i64 t201] 32 (0, 0)) (by (with_reducible repeat (first | refine blk_drewN ?_ _ | refine blk_drew ?_ | refine blk_alloc ?_ _)); exact BK202.out) hb); have n2_ := Aside0.mk (blk_below (g := gb206) (o := .cells #[.int .i64 t203, .int .i64 t204] 32 (0, 0)) (by (with_reducible repeat (first | refine blk_drewN ?_ _ | refine blk_drew ?_ | refine blk_alloc ?_ _)); exact BK206.out) hb); have n3_ := Aside0.mk (blk_below (g := gb210) (o := .cells #[.int .i64 t207, .int .i64 t208] 32 (0, 0)) (by (with_reducible repeat (first | refine blk_drewN ?_ _ | refine blk_drew ?_ | refine blk_alloc ?_ _)); exact BK210.out) hb); have n4_ := Aside0.mk (blk_below (g := gb214) (o := .cells #[.int .i64 t211, .int .i64 t212] 32 (0, 0)) (by (with_reducible repeat (first | refine blk_drewN ?_ _ | refine blk_drew ?_ | refine blk_alloc ?_ _)); exact BK214.out) hb); have n5_ := Aside0.mk (blk_below (g := gb218) (o := .cells #[.int .i64 t215, .int .i64 t216] 32 (0, 0)) (by (with_reducible repeat (first | refine blk_drewN ?_ _ | refine blk_drew ?_ | refine blk_alloc ?_ _)); exact BK218.out) hb); have n6_ := Aside0.mk (blk_below (g := gb219) (o := .cells #[.int .i64 x220000_101, .int .i64 x220001_101] 32 (0, 0)) (by (with_reducible repeat (first | refine blk_drewN ?_ _ | refine blk_drew ?_ | refine blk_alloc ?_ _)); exact BK219.out) hb); have n7_ := Aside0.mk (blk_below (g := gb220) (o := .cells #[.int .i64 x221000_101, .int .i64 x221001_101] 32 (0, 0)) (by (with_reducible repeat (first | refine blk_drewN ?_ _ | refine blk_drew ?_ | refine blk_alloc ?_ _)); exact BK220.out) hb); have n8_ := Aside0.mk (below_step (by repeat (first | (with_reducible first | exact HB.out | apply below_alloc | apply pw_below_drewN | apply below_drew1 | refine below_set ?_ GE202.out | refine below_set ?_ GE206.out | refine below_set ?_ GE210.out | refine below_set ?_ GE214.out | refine below_set ?_ GE218.out | refine below_set ?_ GE219.out | refine below_set ?_ GE220.out) | exact HB.out)) hb); clear BK202; clear BK206; clear BK210; clear BK214; clear BK218; clear BK219; clear BK220; clear HB; have HO223 := n0_; have BK202 := n1_; have BK206 := n2_; have BK210 := n3_; have BK214 := n4_; have BK218 := n5_; have BK219 := n6_; have BK220 := n7_; have HB := n8_; clear n0_ n1_ n2_ n3_ n4_ n5_ n6_ n7_ n8_; clear hb ho235; obtain ⟨Ao236, co236, eo236⟩ := Kd.R_slice HO223.out; subst eo236) | ((with_reducible refine gate_callee (f := 17) rfl ?_); refine goesL_ (some 102) rfl rfl Try.func17 (by kernel_rfl) rfl #[.slice Ao236 y221.length co236] rfl (by (try simp only [List.map_toArray, List.map_cons, List.map_nil]); first | done | rfl | (simp only [List.length_drop, List.length_take]; rfl)) ?_; (with_reducible refine (order_Frames.calls kj101 _ _ y221 t224 t225 _ ?side1 ?side2 A131.out).mono ?_); (case side1 => repeat (first | exact (Kd.R_reads' HO223.out).2.2 | (with_reducible refine Kd.C_alloc ?_ _) | (with_reducible refine Kd.C_drewN ?_ _) | (with_reducible refine Kd.C_drew ?_))); (case side2 => exact (Kd.R_reads' HO223.out).2.1); rintro e w237 ⟨v226, rfl, ho0, hb⟩; refine ⟨_, rfl, ?_⟩; have n0_ := Aside0.mk (Kd.R_below (by (with_reducible repeat (first | apply Kd.R_alloc | apply Kd.R_drewN | apply Kd.R_drew)); exact HO223.out) hb); have n1_ := Aside0.mk (Kd.R_lower ho0 (below_size (by repeat (first | (with_reducible first | exact HB.out | apply below_alloc | apply pw_below_drewN | apply below_drew1 | refine below_set ?_ GE202.out | refine below_set ?_ GE206.out | refine below_set ?_ GE210.out | refine below_set ?_ GE214.out | refine below_set ?_ GE218.out | refine below_set ?_ GE219.out | refine below_set ?_ GE220.out) | exact HB.out)))); have n2_ := Aside0.mk (blk_below (g := gb202) (o := .cells #[.int .i64 t200, .int .i64 t201] 32 (0, 0)) (by (with_reducible repeat (first | refine blk_drewN ?_ _ | refine blk_drew ?_ | refine blk_alloc ?_ _)); exact BK202.out) hb); have n3_ := Aside0.mk (blk_below (g := gb206) (o := .cells #[.int .i64 t203, .int .i64 t204] 32 (0, 0)) (by (with_reducible repeat (first | refine blk_drewN ?_ _ | refine blk_drew ?_ | refine blk_alloc ?_ _)); exact BK206.out) hb); have n4_ := Aside0.mk (blk_below (g := gb210) (o := .cells #[.int .i64 t207, .int .i64 t208] 32 (0, 0)) (by (with_reducible repeat (first | refine blk_drewN ?_ _ | refine blk_drew ?_ | refine blk_alloc ?_ _)); exact BK210.out) hb); have n5_ := Aside0.mk (blk_below (g := gb214) (o := .cells #[.int .i64 t211, .int .i64 t212] 32 (0, 0)) (by (with_reducible repeat (first | refine blk_drewN ?_ _ | refine blk_drew ?_ | refine blk_alloc ?_ _)); exact BK214.out) hb); have n6_ := Aside0.mk (blk_below (g := gb218) (o := .cells #[.int .i64 t215, .int .i64 t216] 32 (0, 0)) (by (with_reducible repeat (first | refine blk_drewN ?_ _ | refine blk_drew ?_ | refine blk_alloc ?_ _)); exact BK218.out) hb); have n7_ := Aside0.mk (blk_below (g := gb219) (o := .cells #[.int .i64 x220000_101, .int .i64 x220001_101] 32 (0, 0)) (by (with_reducible repeat (first | refine blk_drewN ?_ _ | refine blk_drew ?_ | refine blk_alloc ?_ _)); exact BK219.out) hb); have n8_ := Aside0.mk (blk_below (g := gb220) (o := .cells #[.int .i64 x221000_101, .int .i64 x221001_101] 32 (0, 0)) (by (with_reducible repeat (first | refine blk_drewN ?_ _ | refine blk_drew ?_ | refine blk_alloc ?_ _)); exact BK220.out) hb); have n9_ := Aside0.mk (below_step (by repeat (first | (with_reducible first | exact HB.out | apply below_alloc | apply pw_below_drewN | apply below_drew1 | refine below_set ?_ GE202.out | refine below_set ?_ GE206.out | refine below_set ?_ GE210.out | refine below_set ?_ GE214.out | refine below_set ?_ GE218.out | refine below_set ?_ GE219.out | refine below_set ?_ GE220.out) | exact HB.out)) hb); clear HO223; clear BK202; clear BK206; clear BK210; clear BK214; clear BK218; clear BK219; clear BK220; clear HB; have HO223 := n0_; have HO227 := n1_; have BK202 := n2_; have BK206 := n3_; have BK210 := n4_; have BK214 := n5_; have BK218 := n6_; have BK219 := n7_; have BK220 := n8_; have HB := n9_; clear n0_ n1_ n2_ n3_ n4_ n5_ n6_ n7_ n8_ n9_; (try clear hb); (try clear hb2); (try clear hk); (try clear hi); (try clear ho0); have hnb238 := NB214_202.out; have hnc238 := NB202_214.out; have hnb239 := NB214_206.out; have hnc239 := NB206_214.out; have hnb240 := NB214_210.out; have hnc240 := NB210_214.out; have hnb241 := NB214_218.out; have hnc241 := NB218_214.out; have hcz242_0 : w237.cell? ⟨gb214, 0, none⟩ = some (.int .i64 t211) := (blk_cell BK214.out 0).trans rfl; have hcz242_1 : w237.cell? ⟨gb214, 1, none⟩ = some (.int .i64 t212) := (blk_cell BK214.out 1).trans rfl; have hfz242_0 := blk_frozen BK214.out 0; have hfz242_1 := blk_frozen BK214.out 1) | ((with_reducible refine gate_dst (N := 107) rfl ?_); refine Kd.R_lit k32 _ 32 ?hg (N := 107) ?hd (xs := ([(⟨t211, t212⟩ : S32)] : List (S32))) (inner := [.int .i64 t211, .int .i64 t212]) (ok := fun _ => True) (okp := fun _ => True) ?hr ?hp (fun _ hk => hk) trivial (Below.refl _ _) (Nat.le_refl _) (by simp) ?_; (case hd => rfl); (case hg => rfl); (case hr => first | (go_simp; done) | (go_simp; rfl)); (case hp => exact (Reps.c2 (show Kd.M k32 _ _ _ (⟨t211, t212⟩ : S32) [.int .i64 t211, .int .i64 t212] from (k32_mkM _ _ _ (⟨t211, t212⟩ : S32) )) (Reps.none _ _))); intro v229 w243 ho244 hb hg_ hnew_; clear hg_ hnew_; (first | rw [← Ny228.out] at ho244 | (simp only [Int.reduceToNat] at ho244; rw [← Ny228.out] at ho244)); have n0_ := Aside0.mk (Kd.R_elder' (by (with_reducible repeat (first | apply Kd.R_alloc | apply Kd.R_drewN | apply Kd.R_drew)); exact HO223.out) (Kd.R_base ho244) hb); have n1_ := Aside0.mk (Kd.R_below (by (with_reducible repeat (first | apply Kd.R_alloc | apply Kd.R_drewN | apply Kd.R_drew)); exact HO227.out) hb); have n2_ := Aside0.mk (Kd.R_lower (Kd.R_newB (Kd.R_newB (Kd.R_newB (Kd.R_newB (Kd.R_newB (Kd.R_newB (Kd.R_newB (Kd.R_new' ho244 (Kd.R_lt (by (with_reducible repeat (first | apply Kd.R_alloc | apply Kd.R_drewN | apply Kd.R_drew)); exact HO223.out))) (g := gb202) (o := .cells #[.int .i64 t200, .int .i64 t201] 32 (0, 0)) (by (with_reducible repeat (first | refine blk_drewN ?_ _ | refine blk_drew ?_ | refine blk_alloc ?_ _)); exact BK202.out)) (g := gb206) (o := .cells #[.int .i64 t203, .int .i64 t204] 32 (0, 0)) (by (with_reducible repeat (first | refine blk_drewN ?_ _ | refine blk_drew ?_ | refine blk_alloc ?_ _)); exact BK206.out)) (g := gb210) (o := .cells #[.int .i64 t207, .int .i64 t208] 32 (0, 0)) (by (with_reducible repeat (first | refine blk_drewN ?_ _ | refine blk_drew ?_ | refine blk_alloc ?_ _)); exact BK210.out)) (g := gb214) (o := .cells #[.int .i64 t211, .int .i64 t212] 32 (0, 0)) (by (with_reducible repeat (first | refine blk_drewN ?_ _ | refine blk_drew ?_ | refine blk_alloc ?_ _)); exact BK214.out)) (g := gb218) (o := .cells #[.int .i64 t215, .int .i64 t216] 32 (0, 0)) (by (with_reducible repeat (first | refine blk_drewN ?_ _ | refine blk_drew ?_ | refine blk_alloc ?_ _)); exact BK218.out)) (g := gb219) (o := .cells #[.int .i64 x220000_101, .int .i64 x220001_101] 32 (0, 0)) (by (with_reducible repeat (first | refine blk_drewN ?_ _ | refine blk_drew ?_ | refine blk_alloc ?_ _)); exact BK219.out)) (g := gb220) (o := .cells #[.int .i64 x221000_101, .int .i64 x221001_101] 32 (0, 0)) (by (with_reducible repeat (first | refine blk_drewN ?_ _ | refine blk_drew ?_ | refine blk_alloc ?_ _)); exact BK220.out)) (below_size (by repeat (first | (with_reducible first | exact HB.out | apply below_alloc | apply pw_below_drewN | apply below_drew1 | refine below_set ?_ GE202.out | refine below_set ?_ GE206.out | refine below_set ?_ GE210.out | refine below_set ?_ GE214.out | refine below_set ?_ GE218.out | refine below_set ?_ GE219.out | refine below_set ?_ GE220.out) | exact HB.out)))); have n3_ := Aside0.mk (blk_below (g := gb202) (o := .cells #[.int .i64 t200, .int .i64 t201] 32 (0, 0)) (by (with_reducible repeat (first | refine blk_drewN ?_ _ | refine blk_drew ?_ | refine blk_alloc ?_ _)); exact BK202.out) hb); have n4_ := Aside0.mk (blk_below (g := gb206) (o := .cells #[.int .i64 t203, .int .i64 t204] 32 (0, 0)) (by (with_reducible repeat (first | refine blk_drewN ?_ _ | refine blk_drew ?_ | refine blk_alloc ?_ _)); exact BK206.out) hb); have n5_ := Aside0.mk (blk_below (g := gb210) (o := .cells #[.int .i64 t207, .int .i64 t208] 32 (0, 0)) (by (with_reducible repeat (first | refine blk_drewN ?_ _ | refine blk_drew ?_ | refine blk_alloc ?_ _)); exact BK210.out) hb); have n6_ := Aside0.mk (blk_below (g := gb214) (o := .cells #[.int .i64 t211, .int .i64 t212] 32 (0, 0)) (by (with_reducible repeat (first | refine blk_drewN ?_ _ | refine blk_drew ?_ | refine blk_alloc ?_ _)); exact BK214.out) hb); have n7_ := Aside0.mk (blk_below (g := gb218) (o := .cells #[.int .i64 t215, .int .i64 t216] 32 (0, 0)) (by (with_reducible repeat (first | refine blk_drewN ?_ _ | refine blk_drew ?_ | refine blk_alloc ?_ _)); exact BK218.out) hb); have n8_ := Aside0.mk (blk_below (g := gb219) (o := .cells #[.int .i64 x220000_101, .int .i64 x220001_101] 32 (0, 0)) (by (with_reducible repeat (first | refine blk_drewN ?_ _ | refine blk_drew ?_ | refine blk_alloc ?_ _)); exact BK219.out) hb); have n9_ := Aside0.mk (blk_below (g := gb220) (o := .cells #[.int .i64 x221000_101, .int .i64 x221001_101] 32 (0, 0)) (by (with_reducible repeat (first | refine blk_drewN ?_ _ | refine blk_drew ?_ | refine blk_alloc ?_ _)); exact BK220.out) hb); have n10_ := Aside0.mk (below_step (by repeat (first | (with_reducible first | exact HB.out | apply below_alloc | apply pw_below_drewN | apply below_drew1 | refine below_set ?_ GE202.out | refine below_set ?_ GE206.out | refine below_set ?_ GE210.out | refine below_set ?_ GE214.out | refine below_set ?_ GE218.out | refine below_set ?_ GE219.out | refine below_set ?_ GE220.out) | exact HB.out)) hb); clear HO223; clear HO227; clear BK202; clear BK206; clear BK210; clear BK214; clear BK218; clear BK219; clear BK220; clear HB; have HO223 := n0_; have HO227 := n1_; have HO230 := n2_; have BK202 := n3_; have BK206 := n4_; have BK210 := n5_; have BK214 := n6_; have BK218 := n7_; have BK219 := n8_; have BK220 := n9_; have HB := n10_; clear n0_ n1_ n2_ n3_ n4_ n5_ n6_ n7_ n8_ n9_ n10_; clear hb ho244; obtain ⟨Ao245, co245, eo245⟩ := Kd.R_slice HO230.out; subst eo245) | ((with_reducible refine gate_callee (f := 17) rfl ?_); refine goesL_ (some 108) rfl rfl Try.func17 (by kernel_rfl) rfl #[.slice Ao245 y228.length co245] rfl (by (try simp only [List.map_toArray, List.map_cons, List.map_nil]); first | done | rfl | (simp only [List.length_drop, List.length_take]; rfl)) ?_; (with_reducible refine (order_Frames.calls kj101 _ _ y228 t231 t232 _ ?side1 ?side2 A132.out).mono ?_); (case side1 => repeat (first | exact (Kd.R_reads' HO230.out).2.2 | (with_reducible refine Kd.C_alloc ?_ _) | (with_reducible refine Kd.C_drewN ?_ _) | (with_reducible refine Kd.C_drew ?_))); (case side2 => exact (Kd.R_reads' HO230.out).2.1); rintro e w246 ⟨v233, rfl, ho0, hb⟩; refine ⟨_, rfl, ?_⟩; have n0_ := Aside0.mk (Kd.R_below (by (with_reducible repeat (first | apply Kd.R_alloc | apply Kd.R_drewN | apply Kd.R_drew)); exact HO223.out) hb); have n1_ := Aside0.mk (Kd.R_elder' (by (with_reducible repeat (first | apply Kd.R_alloc | apply Kd.R_drewN | apply Kd.R_drew)); exact HO227.out) (Kd.R_base ho0) hb); have n2_ := Aside0.mk (Kd.R_below (by (with_reducible repeat (first | apply Kd.R_alloc | apply Kd.R_drewN | apply Kd.R_drew)); exact HO230.out) hb); have n3_ := Aside0.mk (Kd.R_lower (Kd.R_new' ho0 (Kd.R_lt (by (with_reducible repeat (first | apply Kd.R_alloc | apply Kd.R_drewN | apply Kd.R_drew)); exact HO227.out))) (below_size (by repeat (first | (with_reducible first | exact HB.out | apply below_alloc | apply pw_below_drewN | apply below_drew1 | refine below_set ?_ GE202.out | refine below_set ?_ GE206.out | refine below_set ?_ GE210.out | refine below_set ?_ GE214.out | refine below_set ?_ GE218.out | refine below_set ?_ GE219.out | refine below_set ?_ GE220.out) | exact HB.out)))); have n4_ := Aside0.mk (blk_below (g := gb202) (o := .cells #[.int .i64 t200, .int .i64 t201] 32 (0, 0)) (by (with_reducible repeat (first | refine blk_drewN ?_ _ | refine blk_drew ?_ | refine blk_alloc ?_ _)); exact BK202.out) hb); have n5_ := Aside0.mk (blk_below (g := gb206) (o := .cells #[.int .i64 t203, .int .i64 t204] 32 (0, 0)) (by (with_reducible repeat (first | refine blk_drewN ?_ _ | refine blk_drew ?_ | refine blk_alloc ?_ _)); exact BK206.out) hb); have n6_ := Aside0.mk (blk_below (g := gb210) (o := .cells #[.int .i64 t207, .int .i64 t208] 32 (0, 0)) (by (with_reducible repeat (first | refine blk_drewN ?_ _ | refine blk_drew ?_ | refine blk_alloc ?_ _)); exact BK210.out) hb); have n7_ := Aside0.mk (blk_below (g := gb214) (o := .cells #[.int .i64 t211, .int .i64 t212] 32 (0, 0)) (by (with_reducible repeat (first | refine blk_drewN ?_ _ | refine blk_drew ?_ | refine blk_alloc ?_ _)); exact BK214.out) hb); have n8_ := Aside0.mk (blk_below (g := gb218) (o := .cells #[.int .i64 t215, .int .i64 t216] 32 (0, 0)) (by (with_reducible repeat (first | refine blk_drewN ?_ _ | refine blk_drew ?_ | refine blk_alloc ?_ _)); exact BK218.out) hb); have n9_ := Aside0.mk (blk_below (g := gb219) (o := .cells #[.int .i64 x220000_101, .int .i64 x220001_101] 32 (0, 0)) (by (with_reducible repeat (first | refine blk_drewN ?_ _ | refine blk_drew ?_ | refine blk_alloc ?_ _)); exact BK219.out) hb); have n10_ := Aside0.mk (blk_below (g := gb220) (o := .cells #[.int .i64 x221000_101, .int .i64 x221001_101] 32 (0, 0)) (by (with_reducible repeat (first | refine blk_drewN ?_ _ | refine blk_drew ?_ | refine blk_alloc ?_ _)); exact BK220.out) hb); have n11_ := Aside0.mk (below_step (by repeat (first | (with_reducible first | exact HB.out | apply below_alloc | apply pw_below_drewN | apply below_drew1 | refine below_set ?_ GE202.out | refine below_set ?_ GE206.out | refine below_set ?_ GE210.out | refine below_set ?_ GE214.out | refine below_set ?_ GE218.out | refine below_set ?_ GE219.out | refine below_set ?_ GE220.out) | exact HB.out)) hb); clear HO223; clear HO227; clear HO230; clear BK202; clear BK206; clear BK210; clear BK214; clear BK218; clear BK219; clear BK220; clear HB; have HO223 := n0_; have HO227 := n1_; have HO230 := n2_; have HO234 := n3_; have BK202 := n4_; have BK206 := n5_; have BK210 := n6_; have BK214 := n7_; have BK218 := n8_; have BK219 := n9_; have BK220 := n10_; have HB := n11_; clear n0_ n1_ n2_ n3_ n4_ n5_ n6_ n7_ n8_ n9_ n10_ n11_; (try clear hb); (try clear hb2); (try clear hk); (try clear hi); (try clear ho0)))
                  go_ret
                  exact ⟨by first | rfl | (simp [errW_none, errW_some] <;> rfl) | (simp only [← hji4, ← hji6]; first | rfl | (simp [errW_none, errW_some] <;> rfl)) | (simp [*, errW_none, errW_some] <;> rfl), by repeat (first | (with_reducible first | exact HB.out | apply below_alloc | apply pw_below_drewN | apply below_drew1 | refine below_set ?_ GE202.out | refine below_set ?_ GE206.out | refine below_set ?_ GE210.out | refine below_set ?_ GE214.out | refine below_set ?_ GE218.out | refine below_set ?_ GE219.out | refine below_set ?_ GE220.out) | exact HB.out)⟩
  · rw [if_neg c5] at H
    exact absurd H (by simp)

/-- THE ONE PURE STATEMENT of headgatelaw08_OrderPairs: yours. -/
def headgatelaw08_OrderPairs.Pure : Prop := ∀ (a0 : Int) (a1 : Int), (Lit.int .i64 a0).wf = true → (Lit.int .i64 a1).wf = true → ∃ k, headgatelaw08_OrderPairs.f k a0 a1 = some true
theorem headgatelaw08_OrderPairs.walk (P : headgatelaw08_OrderPairs.Pure) (a0 : Int) (a1 : Int) (w : World) (w0 : (Lit.int .i64 a0).wf = true) (w1 : (Lit.int .i64 a1).wf = true) :
    Calls Try.prog 4 #[.int .i64 a0, .int .i64 a1] w fun e w' => e = .returned (.bool true) ∧ Below w.heap.size w w' := by
  obtain ⟨k, h⟩ := P a0 a1 w0 w1
  refine (headgatelaw08_OrderPairs.calls k a0 a1 true w h).mono ?_
  rintro e w' ⟨rfl, hd⟩
  exact ⟨rfl, hd⟩

end Go.Proofs.Ytcdeaiiiplkfiaa.X
