/- Of these Go functions: what each computes, and that the machine's call comes to it. Laid by a program of this session. -/
import Derived.Test.YtmemdggofphcnaaXx0
import Derived.Test.YtmemdggofphcnaaXx2
import Derived.Test.YtmemdggofphcnaaXx4
import Derived.Test.YtmemdggofphcnaaXx5
import Derived.Test.YtmemdggofphcnaaXx7
import Derived.Test.YtmemdggofphcnaaPath
import Derived.Test.YtmemdggofphcnaaCheck
namespace Go.Proofs.Ytmemdggofphcnaa.X
open Go.RowKit Go.Proofs.YtmemdggofphcnaaW.PrintWords Go.Proofs.YtmemdggofphcnaaW.PrintLast Go.Proofs.YtmemdggofphcnaaW.PrintMore
attribute [local go_sem] max2_int min2_int max_two min_two max_three min_three max_four min_four   -- for this text's walks alone
set_option linter.unusedVariables false
set_option linter.unusedSimpArgs false

/-! ### headgatelaw16_RoleWays: function 8 -/
mutual
def headgatelaw16_RoleWays.j0 : Nat → Int → Int → List Int → Bool → Option (Bool)
  | 0, _, _, _, _ => none
  | k + 1, x5, x6, x7, x68 => if x68 = true then (some false) else (headgatelaw16_RoleWays.l0 k x6 x7 (([x5] : List Int)) 0)
def headgatelaw16_RoleWays.l0 : Nat → Int → List Int → List Int → Int → Option (Bool)
  | 0, _, _, _, _ => none
  | k + 1, x6, x7, x9, x10 => if x10 < (x7.length : Int) then (if 0 ≤ x10 then ((role_Change.f k x9 0 (rd x7 x10)).bind fun bt344 => (if bt344.2 = 0 then (if (bt344.1.length : Int) = 1 then (headgatelaw16_RoleWays.l0 k x6 x7 bt344.1 (wrap64 (x10 + 1))) else (some false)) else (some false))) else (none)) else (if 0 < (x9.length : Int) then (if (rd x9 0) = x6 then ((headgatelaw16_awake.f k).bind fun t349 => (some t349)) else (some false)) else (none))
end
def headgatelaw16_RoleWays.f (k : Nat) (a0 : Int) (a1 : Int) : Option (Bool) := (headgatekit_Mod.f a0 8).bind fun t333 => ((headgatekit_Mod.f a1 8).bind fun t334 => ((role_Path.f k t333 t334).bind fun bt335 => (if bt335.2 = 0 then (if t333 = 1 then (if t334 = t333 then (if t333 = 0 then (if (bt335.1.length : Int) > 3 then (headgatelaw16_RoleWays.j0 k t333 t334 bt335.1 true) else (if t334 = 0 then (if t333 = t334 then (headgatelaw16_RoleWays.j0 k t333 t334 bt335.1 false) else (headgatelaw16_RoleWays.j0 k t333 t334 bt335.1 ((bt335.1.length : Int) != 1))) else (headgatelaw16_RoleWays.j0 k t333 t334 bt335.1 false))) else (if t334 = 0 then (if t333 = t334 then (headgatelaw16_RoleWays.j0 k t333 t334 bt335.1 false) else (headgatelaw16_RoleWays.j0 k t333 t334 bt335.1 ((bt335.1.length : Int) != 1))) else (headgatelaw16_RoleWays.j0 k t333 t334 bt335.1 false))) else (headgatelaw16_RoleWays.j0 k t333 t334 bt335.1 true)) else (if t333 = 0 then (if (bt335.1.length : Int) > 3 then (headgatelaw16_RoleWays.j0 k t333 t334 bt335.1 true) else (if t334 = 0 then (if t333 = t334 then (headgatelaw16_RoleWays.j0 k t333 t334 bt335.1 false) else (headgatelaw16_RoleWays.j0 k t333 t334 bt335.1 ((bt335.1.length : Int) != 1))) else (headgatelaw16_RoleWays.j0 k t333 t334 bt335.1 false))) else (if t334 = 0 then (if t333 = t334 then (headgatelaw16_RoleWays.j0 k t333 t334 bt335.1 false) else (headgatelaw16_RoleWays.j0 k t333 t334 bt335.1 ((bt335.1.length : Int) != 1))) else (headgatelaw16_RoleWays.j0 k t333 t334 bt335.1 false)))) else (if bt335.2 = 14 then (if t333 = 1 then (if t334 = t333 then (some false) else ((headgatelaw16_awake.f k).bind fun t339 => (some t339))) else (some false)) else (some false)))))
theorem headgatelaw16_RoleWays.mono_l : ∀ k, (∀ y0 y1 y2 y3, LeO (headgatelaw16_RoleWays.j0 k y0 y1 y2 y3) (headgatelaw16_RoleWays.j0 (k + 1) y0 y1 y2 y3)) ∧ (∀ y0 y1 y2 y3, LeO (headgatelaw16_RoleWays.l0 k y0 y1 y2 y3) (headgatelaw16_RoleWays.l0 (k + 1) y0 y1 y2 y3))
  | 0 => ⟨fun _ _ _ _ r h => by simp [headgatelaw16_RoleWays.j0] at h, fun _ _ _ _ r h => by simp [headgatelaw16_RoleWays.l0] at h⟩
  | k + 1 => by
    obtain ⟨ih0, ih1⟩ := headgatelaw16_RoleWays.mono_l k
    refine ⟨?_, ?_⟩
    · intro y0 y1 y2 y3
      unfold headgatelaw16_RoleWays.j0
      repeat' first
      | (with_reducible exact ih0 _ _ _ _)
      | (with_reducible exact ih1 _ _ _ _)
      | (with_reducible exact headgatelaw16_awake.mono _)
      | (with_reducible exact role_Change.mono _ _ _ _)
      | (with_reducible exact role_Path.mono _ _ _)
      | (with_reducible exact LeO.refl _)
      | (with_reducible exact LeO.none _)
      | (with_reducible refine LeO.ite ?_ ?_)
      | (with_reducible refine LeO.bind ?_ (fun _ => ?_))
      | exact ih0 _ _ _ _
      | exact ih1 _ _ _ _
      | exact headgatelaw16_awake.mono _
      | exact role_Change.mono _ _ _ _
      | exact role_Path.mono _ _ _
      | exact LeO.none _
      | refine LeO.ite ?_ ?_
      | refine LeO.bind ?_ (fun _ => ?_)
    · intro y0 y1 y2 y3
      unfold headgatelaw16_RoleWays.l0
      repeat' first
      | (with_reducible exact ih0 _ _ _ _)
      | (with_reducible exact ih1 _ _ _ _)
      | (with_reducible exact headgatelaw16_awake.mono _)
      | (with_reducible exact role_Change.mono _ _ _ _)
      | (with_reducible exact role_Path.mono _ _ _)
      | (with_reducible exact LeO.refl _)
      | (with_reducible exact LeO.none _)
      | (with_reducible refine LeO.ite ?_ ?_)
      | (with_reducible refine LeO.bind ?_ (fun _ => ?_))
      | exact ih0 _ _ _ _
      | exact ih1 _ _ _ _
      | exact headgatelaw16_awake.mono _
      | exact role_Change.mono _ _ _ _
      | exact role_Path.mono _ _ _
      | exact LeO.none _
      | refine LeO.ite ?_ ?_
      | refine LeO.bind ?_ (fun _ => ?_)
theorem headgatelaw16_RoleWays.mono : ∀ a0 a1 k, LeO (headgatelaw16_RoleWays.f k a0 a1) (headgatelaw16_RoleWays.f (k + 1) a0 a1) := by
  intro a0 a1 k
  obtain ⟨ih0, ih1⟩ := headgatelaw16_RoleWays.mono_l k
  unfold headgatelaw16_RoleWays.f
  repeat' first
      | (with_reducible exact ih0 _ _ _ _)
      | (with_reducible exact ih1 _ _ _ _)
      | (with_reducible exact headgatelaw16_awake.mono _)
      | (with_reducible exact role_Change.mono _ _ _ _)
      | (with_reducible exact role_Path.mono _ _ _)
      | (with_reducible exact LeO.refl _)
      | (with_reducible exact LeO.none _)
      | (with_reducible refine LeO.ite ?_ ?_)
      | (with_reducible refine LeO.bind ?_ (fun _ => ?_))
      | exact ih0 _ _ _ _
      | exact ih1 _ _ _ _
      | exact headgatelaw16_awake.mono _
      | exact role_Change.mono _ _ _ _
      | exact role_Path.mono _ _ _
      | exact LeO.none _
      | refine LeO.ite ?_ ?_
      | refine LeO.bind ?_ (fun _ => ?_)
set_option maxHeartbeats 8000000 in
set_option maxRecDepth 100000 in
theorem headgatelaw16_RoleWays.calls (k : Nat) (a0 : Int) (a1 : Int) (r : Bool) (w : World) (h : headgatelaw16_RoleWays.f k a0 a1 = some r) :
    Calls Try.prog 8 #[.int .i64 a0, .int .i64 a1] w fun e w' => e = .returned (.bool r) ∧ Below w.heap.size w w' := by
  have HB := Aside0.mk (Below.refl w.heap.size w)
  have H : ((headgatekit_Mod.f a0 8).bind fun t333 => ((headgatekit_Mod.f a1 8).bind fun t334 => ((role_Path.f k t333 t334).bind fun bt335 => (if bt335.2 = 0 then (if t333 = 1 then (if t334 = t333 then (if t333 = 0 then (if (bt335.1.length : Int) > 3 then (headgatelaw16_RoleWays.j0 k t333 t334 bt335.1 true) else (if t334 = 0 then (if t333 = t334 then (headgatelaw16_RoleWays.j0 k t333 t334 bt335.1 false) else (headgatelaw16_RoleWays.j0 k t333 t334 bt335.1 ((bt335.1.length : Int) != 1))) else (headgatelaw16_RoleWays.j0 k t333 t334 bt335.1 false))) else (if t334 = 0 then (if t333 = t334 then (headgatelaw16_RoleWays.j0 k t333 t334 bt335.1 false) else (headgatelaw16_RoleWays.j0 k t333 t334 bt335.1 ((bt335.1.length : Int) != 1))) else (headgatelaw16_RoleWays.j0 k t333 t334 bt335.1 false))) else (headgatelaw16_RoleWays.j0 k t333 t334 bt335.1 true)) else (if t333 = 0 then (if (bt335.1.length : Int) > 3 then (headgatelaw16_RoleWays.j0 k t333 t334 bt335.1 true) else (if t334 = 0 then (if t333 = t334 then (headgatelaw16_RoleWays.j0 k t333 t334 bt335.1 false) else (headgatelaw16_RoleWays.j0 k t333 t334 bt335.1 ((bt335.1.length : Int) != 1))) else (headgatelaw16_RoleWays.j0 k t333 t334 bt335.1 false))) else (if t334 = 0 then (if t333 = t334 then (headgatelaw16_RoleWays.j0 k t333 t334 bt335.1 false) else (headgatelaw16_RoleWays.j0 k t333 t334 bt335.1 ((bt335.1.length : Int) != 1))) else (headgatelaw16_RoleWays.j0 k t333 t334 bt335.1 false)))) else (if bt335.2 = 14 then (if t333 = 1 then (if t334 = t333 then (some false) else ((headgatelaw16_awake.f k).bind fun t339 => (some t339))) else (some false)) else (some false)))))) = some r := h
  clear h
  replace H := Option.bind_eq_some_iff.mp H
  obtain ⟨t333, A30, H⟩ := H
  replace H : ((headgatekit_Mod.f a1 8).bind fun t334 => ((role_Path.f k t333 t334).bind fun bt335 => (if bt335.2 = 0 then (if t333 = 1 then (if t334 = t333 then (if t333 = 0 then (if (bt335.1.length : Int) > 3 then (headgatelaw16_RoleWays.j0 k t333 t334 bt335.1 true) else (if t334 = 0 then (if t333 = t334 then (headgatelaw16_RoleWays.j0 k t333 t334 bt335.1 false) else (headgatelaw16_RoleWays.j0 k t333 t334 bt335.1 ((bt335.1.length : Int) != 1))) else (headgatelaw16_RoleWays.j0 k t333 t334 bt335.1 false))) else (if t334 = 0 then (if t333 = t334 then (headgatelaw16_RoleWays.j0 k t333 t334 bt335.1 false) else (headgatelaw16_RoleWays.j0 k t333 t334 bt335.1 ((bt335.1.length : Int) != 1))) else (headgatelaw16_RoleWays.j0 k t333 t334 bt335.1 false))) else (headgatelaw16_RoleWays.j0 k t333 t334 bt335.1 true)) else (if t333 = 0 then (if (bt335.1.length : Int) > 3 then (headgatelaw16_RoleWays.j0 k t333 t334 bt335.1 true) else (if t334 = 0 then (if t333 = t334 then (headgatelaw16_RoleWays.j0 k t333 t334 bt335.1 false) else (headgatelaw16_RoleWays.j0 k t333 t334 bt335.1 ((bt335.1.length : Int) != 1))) else (headgatelaw16_RoleWays.j0 k t333 t334 bt335.1 false))) else (if t334 = 0 then (if t333 = t334 then (headgatelaw16_RoleWays.j0 k t333 t334 bt335.1 false) else (headgatelaw16_RoleWays.j0 k t333 t334 bt335.1 ((bt335.1.length : Int) != 1))) else (headgatelaw16_RoleWays.j0 k t333 t334 bt335.1 false)))) else (if bt335.2 = 14 then (if t333 = 1 then (if t334 = t333 then (some false) else ((headgatelaw16_awake.f k).bind fun t339 => (some t339))) else (some false)) else (some false))))) = some r := H
  have A3 := Aside0.mk A30
  clear A30
  replace H := Option.bind_eq_some_iff.mp H
  obtain ⟨t334, A40, H⟩ := H
  replace H : ((role_Path.f k t333 t334).bind fun bt335 => (if bt335.2 = 0 then (if t333 = 1 then (if t334 = t333 then (if t333 = 0 then (if (bt335.1.length : Int) > 3 then (headgatelaw16_RoleWays.j0 k t333 t334 bt335.1 true) else (if t334 = 0 then (if t333 = t334 then (headgatelaw16_RoleWays.j0 k t333 t334 bt335.1 false) else (headgatelaw16_RoleWays.j0 k t333 t334 bt335.1 ((bt335.1.length : Int) != 1))) else (headgatelaw16_RoleWays.j0 k t333 t334 bt335.1 false))) else (if t334 = 0 then (if t333 = t334 then (headgatelaw16_RoleWays.j0 k t333 t334 bt335.1 false) else (headgatelaw16_RoleWays.j0 k t333 t334 bt335.1 ((bt335.1.length : Int) != 1))) else (headgatelaw16_RoleWays.j0 k t333 t334 bt335.1 false))) else (headgatelaw16_RoleWays.j0 k t333 t334 bt335.1 true)) else (if t333 = 0 then (if (bt335.1.length : Int) > 3 then (headgatelaw16_RoleWays.j0 k t333 t334 bt335.1 true) else (if t334 = 0 then (if t333 = t334 then (headgatelaw16_RoleWays.j0 k t333 t334 bt335.1 false) else (headgatelaw16_RoleWays.j0 k t333 t334 bt335.1 ((bt335.1.length : Int) != 1))) else (headgatelaw16_RoleWays.j0 k t333 t334 bt335.1 false))) else (if t334 = 0 then (if t333 = t334 then (headgatelaw16_RoleWays.j0 k t333 t334 bt335.1 false) else (headgatelaw16_RoleWays.j0 k t333 t334 bt335.1 ((bt335.1.length : Int) != 1))) else (headgatelaw16_RoleWays.j0 k t333 t334 bt335.1 false)))) else (if bt335.2 = 14 then (if t333 = 1 then (if t334 = t333 then (some false) else ((headgatelaw16_awake.f k).bind fun t339 => (some t339))) else (some false)) else (some false)))) = some r := H
  have A4 := Aside0.mk A40
  clear A40
  replace H := Option.bind_eq_some_iff.mp H
  obtain ⟨⟨t335, t336⟩, A50, H⟩ := H
  replace H : (if t336 = 0 then (if t333 = 1 then (if t334 = t333 then (if t333 = 0 then (if (t335.length : Int) > 3 then (headgatelaw16_RoleWays.j0 k t333 t334 t335 true) else (if t334 = 0 then (if t333 = t334 then (headgatelaw16_RoleWays.j0 k t333 t334 t335 false) else (headgatelaw16_RoleWays.j0 k t333 t334 t335 ((t335.length : Int) != 1))) else (headgatelaw16_RoleWays.j0 k t333 t334 t335 false))) else (if t334 = 0 then (if t333 = t334 then (headgatelaw16_RoleWays.j0 k t333 t334 t335 false) else (headgatelaw16_RoleWays.j0 k t333 t334 t335 ((t335.length : Int) != 1))) else (headgatelaw16_RoleWays.j0 k t333 t334 t335 false))) else (headgatelaw16_RoleWays.j0 k t333 t334 t335 true)) else (if t333 = 0 then (if (t335.length : Int) > 3 then (headgatelaw16_RoleWays.j0 k t333 t334 t335 true) else (if t334 = 0 then (if t333 = t334 then (headgatelaw16_RoleWays.j0 k t333 t334 t335 false) else (headgatelaw16_RoleWays.j0 k t333 t334 t335 ((t335.length : Int) != 1))) else (headgatelaw16_RoleWays.j0 k t333 t334 t335 false))) else (if t334 = 0 then (if t333 = t334 then (headgatelaw16_RoleWays.j0 k t333 t334 t335 false) else (headgatelaw16_RoleWays.j0 k t333 t334 t335 ((t335.length : Int) != 1))) else (headgatelaw16_RoleWays.j0 k t333 t334 t335 false)))) else (if t336 = 14 then (if t333 = 1 then (if t334 = t333 then (some false) else ((headgatelaw16_awake.f k).bind fun t339 => (some t339))) else (some false)) else (some false))) = some r := H
  have A5 := Aside0.mk A50
  clear A50
  by_cases c6 : t336 = 0
  · rw [if_pos c6] at H
    have c6b0 : (t336 == 0) = true := beq_iff_eq.mpr c6
    have c6b1 : (t336 != 0) = false := bne_eq_false_iff_eq.mpr c6
    clear c6
    have HC7 := Aside0.mk H
    clear H
    go_enter Try.func8, Try.ntmps8
    go_upto_region 5 with (first | ((with_reducible refine gate_callee (f := 22) rfl ?_); refine goesL_ (some 14) rfl rfl Try.func22 (by kernel_rfl) rfl #[.int .i64 a0, .int .i64 8] rfl (by (try simp only [List.map_toArray, List.map_cons, List.map_nil]); first | done | rfl | (simp only [List.length_drop, List.length_take]; rfl)) ?_; (with_reducible refine (headgatekit_Mod.calls a0 8 t333 _ A3.out).mono ?_); rintro e w' ⟨rfl, ⟨nd, rfl⟩⟩; refine ⟨_, rfl, ?_⟩) | ((with_reducible refine gate_callee (f := 22) rfl ?_); refine goesL_ (some 16) rfl rfl Try.func22 (by kernel_rfl) rfl #[.int .i64 a1, .int .i64 8] rfl (by (try simp only [List.map_toArray, List.map_cons, List.map_nil]); first | done | rfl | (simp only [List.length_drop, List.length_take]; rfl)) ?_; (with_reducible refine (headgatekit_Mod.calls a1 8 t334 _ A4.out).mono ?_); rintro e w' ⟨rfl, ⟨nd, rfl⟩⟩; refine ⟨_, rfl, ?_⟩) | ((with_reducible refine gate_callee (f := 14) rfl ?_); refine goesL_ (some 20) rfl rfl Try.func14 (by kernel_rfl) rfl #[.int .i64 t333, .int .i64 t334] rfl (by (try simp only [List.map_toArray, List.map_cons, List.map_nil]); first | done | rfl | (simp only [List.length_drop, List.length_take]; rfl)) ?_; (with_reducible refine (role_Path.calls k t333 t334 t335 t336 _ A5.out).mono ?_); rintro e w8 ⟨v337, rfl, ho0, hb⟩; refine ⟨_, rfl, ?_⟩; have n0_ := Aside0.mk (Kd.R_lower ho0 (below_size (by repeat (first | (with_reducible first | exact HB.out | apply below_alloc | apply pw_below_drewN | apply below_drew1) | exact HB.out)))); have n1_ := Aside0.mk (below_step (by repeat (first | (with_reducible first | exact HB.out | apply below_alloc | apply pw_below_drewN | apply below_drew1) | exact HB.out)) hb); clear HB; have HO338 := n0_; have HB := n1_; clear n0_ n1_; (try clear hb); (try clear hb2); (try clear hk); (try clear hi); (try clear ho0)))
    (try simp only [Act.put, List.setIfInBounds_toArray, List.set_cons_zero, List.set_cons_succ])
    go_cut [68] (fun v68 wc => ∃ (kq : Nat) (x68_6 : Bool), v68 = .bool x68_6 ∧ Aside0 (headgatelaw16_RoleWays.j0 kq t333 t334 t335 x68_6 = some r) ∧ Aside0 (kq ≤ k) ∧ Aside0 (Kd.R (Kd.int .i64) 3 wc w.heap.size (fun _ => True) v337 t335) ∧ Aside0 (Below w.heap.size w wc))
    case first =>
      have H := HC7.out
      clear HC7
      by_cases c9 : t333 = 1
      · rw [if_pos c9] at H
        have c9b0 : (t333 == 1) = true := beq_iff_eq.mpr c9
        have c9b1 : (t333 != 1) = false := bne_eq_false_iff_eq.mpr c9
        clear c9
        (first | rw [c9b0] | (simp only [i64_w, i32_w]; rw [c9b0]) | skip)
        by_cases c10 : t334 = t333
        · rw [if_pos c10] at H
          have c10b0 : (t334 == t333) = true := beq_iff_eq.mpr c10
          have c10b1 : (t334 != t333) = false := bne_eq_false_iff_eq.mpr c10
          clear c10
          by_cases c11 : t333 = 0
          · rw [if_pos c11] at H
            have c11b0 : (t333 == 0) = true := beq_iff_eq.mpr c11
            have c11b1 : (t333 != 0) = false := bne_eq_false_iff_eq.mpr c11
            clear c11
            by_cases c12 : (t335.length : Int) > 3
            · rw [if_pos c12] at H
              have c12b0 : decide (3 < (t335.length : Int)) = true := decide_eq_true c12
              have c12b1 : decide (3 < t335.length) = true := decide_eq_true (by omega)
              clear c12
              have H' := Aside0.mk H
              clear H
              obtain ⟨Ao13, co13, eo13⟩ := Kd.R_slice HO338.out
              subst eo13
              go_wp2
              go_meet
              case rel => exact ⟨_, (true), (by first | rfl | (simp; done) | (simp [*]; done)), H', ⟨by first | omega | exact Nat.le_refl _⟩, ⟨by (with_reducible repeat (first | apply Kd.R_alloc | apply Kd.R_drewN | apply Kd.R_drew)); exact HO338.out⟩, ⟨by repeat (first | (with_reducible first | exact HB.out | apply below_alloc | apply pw_below_drewN | apply below_drew1) | exact HB.out)⟩⟩
            · rw [if_neg c12] at H
              have c12b0 : decide (3 < (t335.length : Int)) = false := decide_eq_false c12
              have c12b1 : decide (3 < t335.length) = false := decide_eq_false (by omega)
              clear c12
              by_cases c14 : t334 = 0
              · rw [if_pos c14] at H
                have c14b0 : (t334 == 0) = true := beq_iff_eq.mpr c14
                have c14b1 : (t334 != 0) = false := bne_eq_false_iff_eq.mpr c14
                clear c14
                by_cases c15 : t333 = t334
                · rw [if_pos c15] at H
                  have c15b0 : (t333 == t334) = true := beq_iff_eq.mpr c15
                  have c15b1 : (t333 != t334) = false := bne_eq_false_iff_eq.mpr c15
                  clear c15
                  have H' := Aside0.mk H
                  clear H
                  obtain ⟨Ao16, co16, eo16⟩ := Kd.R_slice HO338.out
                  subst eo16
                  go_wp2
                  go_meet
                  case rel => exact ⟨_, (false), (by first | rfl | (simp; done) | (simp [*]; done)), H', ⟨by first | omega | exact Nat.le_refl _⟩, ⟨by (with_reducible repeat (first | apply Kd.R_alloc | apply Kd.R_drewN | apply Kd.R_drew)); exact HO338.out⟩, ⟨by repeat (first | (with_reducible first | exact HB.out | apply below_alloc | apply pw_below_drewN | apply below_drew1) | exact HB.out)⟩⟩
                · rw [if_neg c15] at H
                  have c15b0 : (t333 == t334) = false := beq_eq_false_iff_ne.mpr c15
                  have c15b1 : (t333 != t334) = true := bne_iff_ne.mpr c15
                  have H' := Aside0.mk H
                  clear H
                  obtain ⟨Ao17, co17, eo17⟩ := Kd.R_slice HO338.out
                  subst eo17
                  go_wp2
                  go_meet
                  case rel => exact ⟨_, (((t335.length : Int) != 1)), (by first | rfl | (simp; done) | (simp [*]; done)), H', ⟨by first | omega | exact Nat.le_refl _⟩, ⟨by (with_reducible repeat (first | apply Kd.R_alloc | apply Kd.R_drewN | apply Kd.R_drew)); exact HO338.out⟩, ⟨by repeat (first | (with_reducible first | exact HB.out | apply below_alloc | apply pw_below_drewN | apply below_drew1) | exact HB.out)⟩⟩
              · rw [if_neg c14] at H
                have c14b0 : (t334 == 0) = false := beq_eq_false_iff_ne.mpr c14
                have c14b1 : (t334 != 0) = true := bne_iff_ne.mpr c14
                have H' := Aside0.mk H
                clear H
                obtain ⟨Ao18, co18, eo18⟩ := Kd.R_slice HO338.out
                subst eo18
                go_wp2
                go_meet
                case rel => exact ⟨_, (false), (by first | rfl | (simp; done) | (simp [*]; done)), H', ⟨by first | omega | exact Nat.le_refl _⟩, ⟨by (with_reducible repeat (first | apply Kd.R_alloc | apply Kd.R_drewN | apply Kd.R_drew)); exact HO338.out⟩, ⟨by repeat (first | (with_reducible first | exact HB.out | apply below_alloc | apply pw_below_drewN | apply below_drew1) | exact HB.out)⟩⟩
          · rw [if_neg c11] at H
            have c11b0 : (t333 == 0) = false := beq_eq_false_iff_ne.mpr c11
            have c11b1 : (t333 != 0) = true := bne_iff_ne.mpr c11
            by_cases c19 : t334 = 0
            · rw [if_pos c19] at H
              have c19b0 : (t334 == 0) = true := beq_iff_eq.mpr c19
              have c19b1 : (t334 != 0) = false := bne_eq_false_iff_eq.mpr c19
              clear c19
              by_cases c20 : t333 = t334
              · rw [if_pos c20] at H
                have c20b0 : (t333 == t334) = true := beq_iff_eq.mpr c20
                have c20b1 : (t333 != t334) = false := bne_eq_false_iff_eq.mpr c20
                clear c20
                have H' := Aside0.mk H
                clear H
                go_wp2
                go_meet
                case rel => exact ⟨_, (false), (by first | rfl | (simp; done) | (simp [*]; done)), H', ⟨by first | omega | exact Nat.le_refl _⟩, ⟨by (with_reducible repeat (first | apply Kd.R_alloc | apply Kd.R_drewN | apply Kd.R_drew)); exact HO338.out⟩, ⟨by repeat (first | (with_reducible first | exact HB.out | apply below_alloc | apply pw_below_drewN | apply below_drew1) | exact HB.out)⟩⟩
              · rw [if_neg c20] at H
                have c20b0 : (t333 == t334) = false := beq_eq_false_iff_ne.mpr c20
                have c20b1 : (t333 != t334) = true := bne_iff_ne.mpr c20
                have H' := Aside0.mk H
                clear H
                obtain ⟨Ao21, co21, eo21⟩ := Kd.R_slice HO338.out
                subst eo21
                go_wp2
                go_meet
                case rel => exact ⟨_, (((t335.length : Int) != 1)), (by first | rfl | (simp; done) | (simp [*]; done)), H', ⟨by first | omega | exact Nat.le_refl _⟩, ⟨by (with_reducible repeat (first | apply Kd.R_alloc | apply Kd.R_drewN | apply Kd.R_drew)); exact HO338.out⟩, ⟨by repeat (first | (with_reducible first | exact HB.out | apply below_alloc | apply pw_below_drewN | apply below_drew1) | exact HB.out)⟩⟩
            · rw [if_neg c19] at H
              have c19b0 : (t334 == 0) = false := beq_eq_false_iff_ne.mpr c19
              have c19b1 : (t334 != 0) = true := bne_iff_ne.mpr c19
              have H' := Aside0.mk H
              clear H
              go_wp2
              go_meet
              case rel => exact ⟨_, (false), (by first | rfl | (simp; done) | (simp [*]; done)), H', ⟨by first | omega | exact Nat.le_refl _⟩, ⟨by (with_reducible repeat (first | apply Kd.R_alloc | apply Kd.R_drewN | apply Kd.R_drew)); exact HO338.out⟩, ⟨by repeat (first | (with_reducible first | exact HB.out | apply below_alloc | apply pw_below_drewN | apply below_drew1) | exact HB.out)⟩⟩
        · rw [if_neg c10] at H
          have c10b0 : (t334 == t333) = false := beq_eq_false_iff_ne.mpr c10
          have c10b1 : (t334 != t333) = true := bne_iff_ne.mpr c10
          have H' := Aside0.mk H
          clear H
          go_wp2
          go_meet
          case rel => exact ⟨_, (true), (by first | rfl | (simp; done) | (simp [*]; done)), H', ⟨by first | omega | exact Nat.le_refl _⟩, ⟨by (with_reducible repeat (first | apply Kd.R_alloc | apply Kd.R_drewN | apply Kd.R_drew)); exact HO338.out⟩, ⟨by repeat (first | (with_reducible first | exact HB.out | apply below_alloc | apply pw_below_drewN | apply below_drew1) | exact HB.out)⟩⟩
      · rw [if_neg c9] at H
        have c9b0 : (t333 == 1) = false := beq_eq_false_iff_ne.mpr c9
        have c9b1 : (t333 != 1) = true := bne_iff_ne.mpr c9
        (first | rw [c9b0] | (simp only [i64_w, i32_w]; rw [c9b0]) | skip)
        by_cases c22 : t333 = 0
        · rw [if_pos c22] at H
          have c22b0 : (t333 == 0) = true := beq_iff_eq.mpr c22
          have c22b1 : (t333 != 0) = false := bne_eq_false_iff_eq.mpr c22
          clear c22
          by_cases c23 : (t335.length : Int) > 3
          · rw [if_pos c23] at H
            have c23b0 : decide (3 < (t335.length : Int)) = true := decide_eq_true c23
            have c23b1 : decide (3 < t335.length) = true := decide_eq_true (by omega)
            clear c23
            have H' := Aside0.mk H
            clear H
            obtain ⟨Ao24, co24, eo24⟩ := Kd.R_slice HO338.out
            subst eo24
            go_wp2
            go_meet
            case rel => exact ⟨_, (true), (by first | rfl | (simp; done) | (simp [*]; done)), H', ⟨by first | omega | exact Nat.le_refl _⟩, ⟨by (with_reducible repeat (first | apply Kd.R_alloc | apply Kd.R_drewN | apply Kd.R_drew)); exact HO338.out⟩, ⟨by repeat (first | (with_reducible first | exact HB.out | apply below_alloc | apply pw_below_drewN | apply below_drew1) | exact HB.out)⟩⟩
          · rw [if_neg c23] at H
            have c23b0 : decide (3 < (t335.length : Int)) = false := decide_eq_false c23
            have c23b1 : decide (3 < t335.length) = false := decide_eq_false (by omega)
            clear c23
            by_cases c25 : t334 = 0
            · rw [if_pos c25] at H
              have c25b0 : (t334 == 0) = true := beq_iff_eq.mpr c25
              have c25b1 : (t334 != 0) = false := bne_eq_false_iff_eq.mpr c25
              clear c25
              by_cases c26 : t333 = t334
              · rw [if_pos c26] at H
                have c26b0 : (t333 == t334) = true := beq_iff_eq.mpr c26
                have c26b1 : (t333 != t334) = false := bne_eq_false_iff_eq.mpr c26
                clear c26
                have H' := Aside0.mk H
                clear H
                obtain ⟨Ao27, co27, eo27⟩ := Kd.R_slice HO338.out
                subst eo27
                go_wp2
                go_meet
                case rel => exact ⟨_, (false), (by first | rfl | (simp; done) | (simp [*]; done)), H', ⟨by first | omega | exact Nat.le_refl _⟩, ⟨by (with_reducible repeat (first | apply Kd.R_alloc | apply Kd.R_drewN | apply Kd.R_drew)); exact HO338.out⟩, ⟨by repeat (first | (with_reducible first | exact HB.out | apply below_alloc | apply pw_below_drewN | apply below_drew1) | exact HB.out)⟩⟩
              · rw [if_neg c26] at H
                have c26b0 : (t333 == t334) = false := beq_eq_false_iff_ne.mpr c26
                have c26b1 : (t333 != t334) = true := bne_iff_ne.mpr c26
                have H' := Aside0.mk H
                clear H
                obtain ⟨Ao28, co28, eo28⟩ := Kd.R_slice HO338.out
                subst eo28
                go_wp2
                go_meet
                case rel => exact ⟨_, (((t335.length : Int) != 1)), (by first | rfl | (simp; done) | (simp [*]; done)), H', ⟨by first | omega | exact Nat.le_refl _⟩, ⟨by (with_reducible repeat (first | apply Kd.R_alloc | apply Kd.R_drewN | apply Kd.R_drew)); exact HO338.out⟩, ⟨by repeat (first | (with_reducible first | exact HB.out | apply below_alloc | apply pw_below_drewN | apply below_drew1) | exact HB.out)⟩⟩
            · rw [if_neg c25] at H
              have c25b0 : (t334 == 0) = false := beq_eq_false_iff_ne.mpr c25
              have c25b1 : (t334 != 0) = true := bne_iff_ne.mpr c25
              have H' := Aside0.mk H
              clear H
              obtain ⟨Ao29, co29, eo29⟩ := Kd.R_slice HO338.out
              subst eo29
              go_wp2
              go_meet
              case rel => exact ⟨_, (false), (by first | rfl | (simp; done) | (simp [*]; done)), H', ⟨by first | omega | exact Nat.le_refl _⟩, ⟨by (with_reducible repeat (first | apply Kd.R_alloc | apply Kd.R_drewN | apply Kd.R_drew)); exact HO338.out⟩, ⟨by repeat (first | (with_reducible first | exact HB.out | apply below_alloc | apply pw_below_drewN | apply below_drew1) | exact HB.out)⟩⟩
        · rw [if_neg c22] at H
          have c22b0 : (t333 == 0) = false := beq_eq_false_iff_ne.mpr c22
          have c22b1 : (t333 != 0) = true := bne_iff_ne.mpr c22
          by_cases c30 : t334 = 0
          · rw [if_pos c30] at H
            have c30b0 : (t334 == 0) = true := beq_iff_eq.mpr c30
            have c30b1 : (t334 != 0) = false := bne_eq_false_iff_eq.mpr c30
            clear c30
            by_cases c31 : t333 = t334
            · rw [if_pos c31] at H
              have c31b0 : (t333 == t334) = true := beq_iff_eq.mpr c31
              have c31b1 : (t333 != t334) = false := bne_eq_false_iff_eq.mpr c31
              clear c31
              have H' := Aside0.mk H
              clear H
              go_wp2
              go_meet
              case rel => exact ⟨_, (false), (by first | rfl | (simp; done) | (simp [*]; done)), H', ⟨by first | omega | exact Nat.le_refl _⟩, ⟨by (with_reducible repeat (first | apply Kd.R_alloc | apply Kd.R_drewN | apply Kd.R_drew)); exact HO338.out⟩, ⟨by repeat (first | (with_reducible first | exact HB.out | apply below_alloc | apply pw_below_drewN | apply below_drew1) | exact HB.out)⟩⟩
            · rw [if_neg c31] at H
              have c31b0 : (t333 == t334) = false := beq_eq_false_iff_ne.mpr c31
              have c31b1 : (t333 != t334) = true := bne_iff_ne.mpr c31
              have H' := Aside0.mk H
              clear H
              obtain ⟨Ao32, co32, eo32⟩ := Kd.R_slice HO338.out
              subst eo32
              go_wp2
              go_meet
              case rel => exact ⟨_, (((t335.length : Int) != 1)), (by first | rfl | (simp; done) | (simp [*]; done)), H', ⟨by first | omega | exact Nat.le_refl _⟩, ⟨by (with_reducible repeat (first | apply Kd.R_alloc | apply Kd.R_drewN | apply Kd.R_drew)); exact HO338.out⟩, ⟨by repeat (first | (with_reducible first | exact HB.out | apply below_alloc | apply pw_below_drewN | apply below_drew1) | exact HB.out)⟩⟩
          · rw [if_neg c30] at H
            have c30b0 : (t334 == 0) = false := beq_eq_false_iff_ne.mpr c30
            have c30b1 : (t334 != 0) = true := bne_iff_ne.mpr c30
            have H' := Aside0.mk H
            clear H
            go_wp2
            go_meet
            case rel => exact ⟨_, (false), (by first | rfl | (simp; done) | (simp [*]; done)), H', ⟨by first | omega | exact Nat.le_refl _⟩, ⟨by (with_reducible repeat (first | apply Kd.R_alloc | apply Kd.R_drewN | apply Kd.R_drew)); exact HO338.out⟩, ⟨by repeat (first | (with_reducible first | exact HB.out | apply below_alloc | apply pw_below_drewN | apply below_drew1) | exact HB.out)⟩⟩
    case rest =>
      clear HC7
      try clear c1
      try clear c2
      try clear p2
      try clear c3
      try clear c6
      try clear c6b0
      try clear c6b1
      try clear c8
      try clear c9
      try clear c9b0
      try clear c9b1
      try clear c10
      try clear c10b0
      try clear c10b1
      try clear c11
      try clear c11b0
      try clear c11b1
      try clear c12
      try clear c12b0
      try clear c12b1
      try clear c14
      try clear c14b0
      try clear c14b1
      try clear c15
      try clear c15b0
      try clear c15b1
      try clear c19
      try clear c19b0
      try clear c19b1
      try clear c20
      try clear c20b0
      try clear c20b1
      try clear c22
      try clear c22b0
      try clear c22b1
      try clear c23
      try clear c23b0
      try clear c23b1
      try clear c25
      try clear c25b0
      try clear c25b1
      try clear c26
      try clear c26b0
      try clear c26b1
      try clear c30
      try clear c30b0
      try clear c30b1
      try clear c31
      try clear c31b0
      try clear c31b1
      obtain ⟨kq, x68_6, rfl, HA, HJ6, HO_7, HB⟩ := hcut
      cases kq with
      | zero => exact absurd HA.out (by simp [headgatelaw16_RoleWays.j0])
      | succ kj6 =>
        have H := HA.out
        clear HA
        simp only [headgatelaw16_RoleWays.j0] at H
        by_cases c33 : x68_6 = true
        · subst c33
          have H1 : (some false) = some r := by rw [if_pos rfl] at H; exact H
          clear H
          have H := H1
          clear H1
          obtain rfl := Option.some.inj H
          go_wp2
          go_ret
          exact ⟨by first | rfl | (simp [errW_none, errW_some] <;> rfl) | (simp [*, errW_none, errW_some] <;> rfl), by repeat (first | (with_reducible first | exact HB.out | apply below_alloc | apply pw_below_drewN | apply below_drew1) | exact HB.out)⟩
        · replace c33 := Bool.eq_false_iff.mpr c33
          subst c33
          have H1 : (headgatelaw16_RoleWays.l0 kj6 t334 t335 (([t333] : List Int)) 0) = some r := by rw [if_neg (show ¬ (false = true) by decide)] at H; exact H
          clear H
          have H := H1
          clear H1
          obtain ⟨y340, hy340⟩ : ∃ y_ : List Int, y_ = (([t333] : List Int)) := ⟨_, rfl⟩
          replace H : (headgatelaw16_RoleWays.l0 kj6 t334 t335 y340 0) = some r := by first | (rw [hy340]; with_reducible exact H) | (have H2_ := (Option.bind_some _ _).symm.trans H; rw [hy340]; with_reducible exact H2_) | (have H2_ := (Option.bind_some _ _).symm.trans H; with_reducible exact H2_) | with_reducible exact H | (rw [hy340]; exact H) | exact H
          have Ny340 := Aside0.mk hy340
          clear hy340
          have H' := Aside0.mk H
          clear H
          go_wp2_with (first | ((with_reducible refine gate_dst (N := 70) rfl ?_); (try (refine gate_guard (by rfl) ?_; dsimp only)); refine Kd.R_lit (Kd.int .i64) _ 3 ?hg (N := 70) ?hd (xs := ([t333] : List Int)) (inner := [.int .i64 t333]) (ok := fun _ => True) (okp := fun _ => True) ?hr ?hp (fun _ hk => hk) trivial (Below.refl _ _) (Nat.le_refl _) (by simp) ?_; (case hd => rfl); (case hg => rfl); (case hr => first | (go_simp; done) | (go_simp; rfl)); (case hp => exact (Reps.one (show Kd.M (Kd.int .i64) _ _ _ t333 [.int .i64 t333] from rfl) (Reps.none _ _))); intro v341 w34 ho35 hb hg_ hnew_; clear hg_ hnew_; (first | rw [← Ny340.out] at ho35 | (simp only [Int.reduceToNat] at ho35; rw [← Ny340.out] at ho35)); have n0_ := Aside0.mk (Kd.R_elder' (by (with_reducible repeat (first | apply Kd.R_alloc | apply Kd.R_drewN | apply Kd.R_drew)); exact HO_7.out) (Kd.R_base ho35) hb); have n1_ := Aside0.mk (Kd.R_lower (Kd.R_new' ho35 (Kd.R_lt (by (with_reducible repeat (first | apply Kd.R_alloc | apply Kd.R_drewN | apply Kd.R_drew)); exact HO_7.out))) (below_size (by repeat (first | (with_reducible first | exact HB.out | apply below_alloc | apply pw_below_drewN | apply below_drew1) | exact HB.out)))); have n2_ := Aside0.mk (below_step (by repeat (first | (with_reducible first | exact HB.out | apply below_alloc | apply pw_below_drewN | apply below_drew1) | exact HB.out)) hb); clear HO_7; clear HB; have HO_7 := n0_; have HO342 := n1_; have HB := n2_; clear n0_ n1_ n2_; clear hb ho35))
          go_loopg [9, 10] kj6 (fun kq v9 v10 w' => ∃ (x9_2 : List Int) (x10_2 : Int), v10 = .int .i64 x10_2 ∧ Aside0 (headgatelaw16_RoleWays.l0 kq t334 t335 x9_2 x10_2 = some r) ∧ Aside0 (kq ≤ kj6) ∧ Aside0 (Kd.R (Kd.int .i64) 3 w' w.heap.size (fun k_ => some k_ ≠ (v9 : Value).ownBlock) v337 t335) ∧ Aside0 (Kd.R (Kd.int .i64) 3 w' w.heap.size (fun k_ => some k_ ≠ (v337 : Value).ownBlock) v9 x9_2) ∧ Aside0 (Below w.heap.size w w'))
          case atStart => exact ⟨(y340), (0), (by first | rfl | (simp; done) | (simp [*]; done)), H', ⟨Nat.le_refl _⟩, ⟨by (with_reducible repeat (first | apply Kd.R_alloc | apply Kd.R_drewN | apply Kd.R_drew)); exact Kd.R_mono HO_7.out (fun _ hk => hk.2)⟩, ⟨by (with_reducible repeat (first | apply Kd.R_alloc | apply Kd.R_drewN | apply Kd.R_drew)); exact Kd.R_mono HO342.out (fun _ hk => hk.2)⟩, ⟨by repeat (first | (with_reducible first | exact HB.out | apply below_alloc | apply pw_below_drewN | apply below_drew1) | exact HB.out)⟩⟩
          case round =>
            clear H'
            try clear c1
            try clear c2
            try clear p2
            try clear c3
            try clear c6
            try clear c6b0
            try clear c6b1
            try clear c8
            try clear c9
            try clear c9b0
            try clear c9b1
            try clear c10
            try clear c10b0
            try clear c10b1
            try clear c11
            try clear c11b0
            try clear c11b1
            try clear c12
            try clear c12b0
            try clear c12b1
            try clear c14
            try clear c14b0
            try clear c14b1
            try clear c15
            try clear c15b0
            try clear c15b1
            try clear c19
            try clear c19b0
            try clear c19b1
            try clear c20
            try clear c20b0
            try clear c20b1
            try clear c22
            try clear c22b0
            try clear c22b1
            try clear c23
            try clear c23b0
            try clear c23b1
            try clear c25
            try clear c25b0
            try clear c25b1
            try clear c26
            try clear c26b0
            try clear c26b1
            try clear c30
            try clear c30b0
            try clear c30b1
            try clear c31
            try clear c31b0
            try clear c31b1
            try clear c33
            try clear p2
            obtain ⟨x9_2, x10_2, rfl, HA, HK2, HO_7, HO_9, HB⟩ := hrel
            cases gk with
            | zero => exact absurd HA.out (by simp [headgatelaw16_RoleWays.l0])
            | succ k2 =>
              have H := HA.out
              clear HA
              simp only [headgatelaw16_RoleWays.l0] at H
              by_cases c36 : x10_2 < (t335.length : Int)
              · rw [if_pos c36] at H
                have c36b0 : decide (x10_2 < (t335.length : Int)) = true := decide_eq_true c36
                clear c36
                by_cases c37 : 0 ≤ x10_2
                · rw [if_pos c37] at H
                  have c37b0 : decide (0 ≤ x10_2) = true := decide_eq_true c37
                  clear c37
                  replace H := Option.bind_eq_some_iff.mp H
                  obtain ⟨⟨t344, t345⟩, A380, H⟩ := H
                  replace H : (if t345 = 0 then (if (t344.length : Int) = 1 then (headgatelaw16_RoleWays.l0 k2 t334 t335 t344 (wrap64 (x10_2 + 1))) else (some false)) else (some false)) = some r := H
                  have A38 := Aside0.mk A380
                  clear A380
                  by_cases c39 : t345 = 0
                  · rw [if_pos c39] at H
                    have c39b0 : (t345 == 0) = true := beq_iff_eq.mpr c39
                    have c39b1 : (t345 != 0) = false := bne_eq_false_iff_eq.mpr c39
                    clear c39
                    by_cases c40 : (t344.length : Int) = 1
                    · rw [if_pos c40] at H
                      have c40b0 : ((t344.length : Int) == 1) = true := beq_iff_eq.mpr c40
                      have c40b1 : ((t344.length : Int) != 1) = false := bne_eq_false_iff_eq.mpr c40
                      clear c40
                      have H' := Aside0.mk H
                      clear H
                      obtain ⟨Ao41, co41, eo41⟩ := Kd.R_slice HO_7.out
                      subst eo41
                      have p343 : 0 ≤ (x10_2 : Int) := of_decide_eq_true (by first | (with_reducible assumption) | assumption)
                      have q343 : x10_2 < (t335.length : Int) := of_decide_eq_true (by first | (with_reducible assumption) | assumption)
                      obtain ⟨ad343, e343, hx343_0⟩ := Kd.at_int (Kd.R_reads' HO_7.out).2.2 x10_2 p343 q343
                      cases e343
                      replace p343 := eq_true p343
                      replace q343 := eq_true q343
                      obtain ⟨Ao42, co42, eo42⟩ := Kd.R_slice HO_9.out
                      subst eo42
                      go_wp2_with (first | ((with_reducible refine gate_callee (f := 28) rfl ?_); refine goesL_ (some 83) rfl rfl Try.func28 (by kernel_rfl) rfl #[.slice Ao42 x9_2.length co42, .int .i64 0, .int .i64 (rd t335 x10_2)] rfl (by (try simp only [List.map_toArray, List.map_cons, List.map_nil]); first | done | rfl | (simp only [List.length_drop, List.length_take]; rfl)) ?_; (with_reducible refine (role_Change.calls k2 _ _ x9_2 0 (rd t335 x10_2) t344 t345 _ ?side1 ?side2 A38.out).mono ?_); (case side1 => repeat (first | exact (Kd.R_reads' HO_9.out).2.2 | (with_reducible refine Kd.C_alloc ?_ _) | (with_reducible refine Kd.C_drewN ?_ _) | (with_reducible refine Kd.C_drew ?_))); (case side2 => exact (Kd.R_reads' HO_9.out).2.1); rintro e w43 ⟨v346, rfl, ho0, hb⟩; refine ⟨_, rfl, ?_⟩; have n0_ := Aside0.mk (Kd.R_elder' (by (with_reducible repeat (first | apply Kd.R_alloc | apply Kd.R_drewN | apply Kd.R_drew)); exact HO_7.out) (Kd.R_base ho0) hb); have n1_ := Aside0.mk (Kd.R_elder' (by (with_reducible repeat (first | apply Kd.R_alloc | apply Kd.R_drewN | apply Kd.R_drew)); exact HO_9.out) (Kd.R_base ho0) hb); have n2_ := Aside0.mk (Kd.R_lower (Kd.R_new' (Kd.R_new' ho0 (Kd.R_lt (by (with_reducible repeat (first | apply Kd.R_alloc | apply Kd.R_drewN | apply Kd.R_drew)); exact HO_7.out))) (Kd.R_lt (by (with_reducible repeat (first | apply Kd.R_alloc | apply Kd.R_drewN | apply Kd.R_drew)); exact HO_9.out))) (below_size (by repeat (first | (with_reducible first | exact HB.out | apply below_alloc | apply pw_below_drewN | apply below_drew1) | exact HB.out)))); have n3_ := Aside0.mk (below_step (by repeat (first | (with_reducible first | exact HB.out | apply below_alloc | apply pw_below_drewN | apply below_drew1) | exact HB.out)) hb); clear HO_7; clear HO_9; clear HB; have HO_7 := n0_; have HO_9 := n1_; have HO347 := n2_; have HB := n3_; clear n0_ n1_ n2_ n3_; (try clear hb); (try clear hb2); (try clear hk); (try clear hi); (try clear ho0); obtain ⟨Ao44, co44, eo44⟩ := Kd.R_slice HO347.out; subst eo44))
                      go_roundg k2
                      case measure => have := HJ6.out; have := HK2.out; omega
                      case rel => exact ⟨(t344), (wrap64 (x10_2 + 1)), (by first | rfl | (simp; done) | (simp [*]; done)), H', ⟨by have := HJ6.out; have := HK2.out; omega⟩, ⟨by (with_reducible repeat (first | apply Kd.R_alloc | apply Kd.R_drewN | apply Kd.R_drew)); exact Kd.R_mono HO_7.out (fun _ hk => hk.2)⟩, ⟨by (with_reducible repeat (first | apply Kd.R_alloc | apply Kd.R_drewN | apply Kd.R_drew)); exact Kd.R_mono HO347.out (fun _ hk => hk.1.2)⟩, ⟨by repeat (first | (with_reducible first | exact HB.out | apply below_alloc | apply pw_below_drewN | apply below_drew1) | exact HB.out)⟩⟩
                    · rw [if_neg c40] at H
                      have c40b0 : ((t344.length : Int) == 1) = false := beq_eq_false_iff_ne.mpr c40
                      have c40b1 : ((t344.length : Int) != 1) = true := bne_iff_ne.mpr c40
                      obtain rfl := Option.some.inj H
                      obtain ⟨Ao45, co45, eo45⟩ := Kd.R_slice HO_7.out
                      subst eo45
                      have p343 : 0 ≤ (x10_2 : Int) := of_decide_eq_true (by first | (with_reducible assumption) | assumption)
                      have q343 : x10_2 < (t335.length : Int) := of_decide_eq_true (by first | (with_reducible assumption) | assumption)
                      obtain ⟨ad343, e343, hx343_0⟩ := Kd.at_int (Kd.R_reads' HO_7.out).2.2 x10_2 p343 q343
                      cases e343
                      replace p343 := eq_true p343
                      replace q343 := eq_true q343
                      obtain ⟨Ao46, co46, eo46⟩ := Kd.R_slice HO_9.out
                      subst eo46
                      go_wp2_with (first | ((with_reducible refine gate_callee (f := 28) rfl ?_); refine goesL_ (some 83) rfl rfl Try.func28 (by kernel_rfl) rfl #[.slice Ao46 x9_2.length co46, .int .i64 0, .int .i64 (rd t335 x10_2)] rfl (by (try simp only [List.map_toArray, List.map_cons, List.map_nil]); first | done | rfl | (simp only [List.length_drop, List.length_take]; rfl)) ?_; (with_reducible refine (role_Change.calls k2 _ _ x9_2 0 (rd t335 x10_2) t344 t345 _ ?side1 ?side2 A38.out).mono ?_); (case side1 => repeat (first | exact (Kd.R_reads' HO_9.out).2.2 | (with_reducible refine Kd.C_alloc ?_ _) | (with_reducible refine Kd.C_drewN ?_ _) | (with_reducible refine Kd.C_drew ?_))); (case side2 => exact (Kd.R_reads' HO_9.out).2.1); rintro e w47 ⟨v346, rfl, ho0, hb⟩; refine ⟨_, rfl, ?_⟩; have n0_ := Aside0.mk (Kd.R_elder' (by (with_reducible repeat (first | apply Kd.R_alloc | apply Kd.R_drewN | apply Kd.R_drew)); exact HO_7.out) (Kd.R_base ho0) hb); have n1_ := Aside0.mk (Kd.R_elder' (by (with_reducible repeat (first | apply Kd.R_alloc | apply Kd.R_drewN | apply Kd.R_drew)); exact HO_9.out) (Kd.R_base ho0) hb); have n2_ := Aside0.mk (Kd.R_lower (Kd.R_new' (Kd.R_new' ho0 (Kd.R_lt (by (with_reducible repeat (first | apply Kd.R_alloc | apply Kd.R_drewN | apply Kd.R_drew)); exact HO_7.out))) (Kd.R_lt (by (with_reducible repeat (first | apply Kd.R_alloc | apply Kd.R_drewN | apply Kd.R_drew)); exact HO_9.out))) (below_size (by repeat (first | (with_reducible first | exact HB.out | apply below_alloc | apply pw_below_drewN | apply below_drew1) | exact HB.out)))); have n3_ := Aside0.mk (below_step (by repeat (first | (with_reducible first | exact HB.out | apply below_alloc | apply pw_below_drewN | apply below_drew1) | exact HB.out)) hb); clear HO_7; clear HO_9; clear HB; have HO_7 := n0_; have HO_9 := n1_; have HO347 := n2_; have HB := n3_; clear n0_ n1_ n2_ n3_; (try clear hb); (try clear hb2); (try clear hk); (try clear hi); (try clear ho0); obtain ⟨Ao48, co48, eo48⟩ := Kd.R_slice HO347.out; subst eo48))
                      go_ret
                      exact ⟨by first | rfl | (simp [errW_none, errW_some] <;> rfl) | (simp [*, errW_none, errW_some] <;> rfl), by repeat (first | (with_reducible first | exact HB.out | apply below_alloc | apply pw_below_drewN | apply below_drew1) | exact HB.out)⟩
                  · rw [if_neg c39] at H
                    have c39b0 : (t345 == 0) = false := beq_eq_false_iff_ne.mpr c39
                    have c39b1 : (t345 != 0) = true := bne_iff_ne.mpr c39
                    obtain rfl := Option.some.inj H
                    obtain ⟨Ao49, co49, eo49⟩ := Kd.R_slice HO_7.out
                    subst eo49
                    have p343 : 0 ≤ (x10_2 : Int) := of_decide_eq_true (by first | (with_reducible assumption) | assumption)
                    have q343 : x10_2 < (t335.length : Int) := of_decide_eq_true (by first | (with_reducible assumption) | assumption)
                    obtain ⟨ad343, e343, hx343_0⟩ := Kd.at_int (Kd.R_reads' HO_7.out).2.2 x10_2 p343 q343
                    cases e343
                    replace p343 := eq_true p343
                    replace q343 := eq_true q343
                    obtain ⟨Ao50, co50, eo50⟩ := Kd.R_slice HO_9.out
                    subst eo50
                    go_wp2_with (first | ((with_reducible refine gate_callee (f := 28) rfl ?_); refine goesL_ (some 83) rfl rfl Try.func28 (by kernel_rfl) rfl #[.slice Ao50 x9_2.length co50, .int .i64 0, .int .i64 (rd t335 x10_2)] rfl (by (try simp only [List.map_toArray, List.map_cons, List.map_nil]); first | done | rfl | (simp only [List.length_drop, List.length_take]; rfl)) ?_; (with_reducible refine (role_Change.calls k2 _ _ x9_2 0 (rd t335 x10_2) t344 t345 _ ?side1 ?side2 A38.out).mono ?_); (case side1 => repeat (first | exact (Kd.R_reads' HO_9.out).2.2 | (with_reducible refine Kd.C_alloc ?_ _) | (with_reducible refine Kd.C_drewN ?_ _) | (with_reducible refine Kd.C_drew ?_))); (case side2 => exact (Kd.R_reads' HO_9.out).2.1); rintro e w51 ⟨v346, rfl, ho0, hb⟩; refine ⟨_, rfl, ?_⟩; have n0_ := Aside0.mk (Kd.R_elder' (by (with_reducible repeat (first | apply Kd.R_alloc | apply Kd.R_drewN | apply Kd.R_drew)); exact HO_7.out) (Kd.R_base ho0) hb); have n1_ := Aside0.mk (Kd.R_elder' (by (with_reducible repeat (first | apply Kd.R_alloc | apply Kd.R_drewN | apply Kd.R_drew)); exact HO_9.out) (Kd.R_base ho0) hb); have n2_ := Aside0.mk (Kd.R_lower (Kd.R_new' (Kd.R_new' ho0 (Kd.R_lt (by (with_reducible repeat (first | apply Kd.R_alloc | apply Kd.R_drewN | apply Kd.R_drew)); exact HO_7.out))) (Kd.R_lt (by (with_reducible repeat (first | apply Kd.R_alloc | apply Kd.R_drewN | apply Kd.R_drew)); exact HO_9.out))) (below_size (by repeat (first | (with_reducible first | exact HB.out | apply below_alloc | apply pw_below_drewN | apply below_drew1) | exact HB.out)))); have n3_ := Aside0.mk (below_step (by repeat (first | (with_reducible first | exact HB.out | apply below_alloc | apply pw_below_drewN | apply below_drew1) | exact HB.out)) hb); clear HO_7; clear HO_9; clear HB; have HO_7 := n0_; have HO_9 := n1_; have HO347 := n2_; have HB := n3_; clear n0_ n1_ n2_ n3_; (try clear hb); (try clear hb2); (try clear hk); (try clear hi); (try clear ho0)))
                    go_ret
                    exact ⟨by first | rfl | (simp [errW_none, errW_some] <;> rfl) | (simp [*, errW_none, errW_some] <;> rfl), by repeat (first | (with_reducible first | exact HB.out | apply below_alloc | apply pw_below_drewN | apply below_drew1) | exact HB.out)⟩
                · rw [if_neg c37] at H
                  exact absurd H (by simp)
              · rw [if_neg c36] at H
                have c36b0 : decide (x10_2 < (t335.length : Int)) = false := decide_eq_false c36
                clear c36
                by_cases c52 : 0 < (x9_2.length : Int)
                · rw [if_pos c52] at H
                  have c52b0 : decide (0 < (x9_2.length : Int)) = true := decide_eq_true c52
                  have c52b1 : decide (0 < x9_2.length) = true := decide_eq_true (by omega)
                  clear c52
                  by_cases c53 : (rd x9_2 0) = t334
                  · rw [if_pos c53] at H
                    have c53b0 : ((rd x9_2 0) == t334) = true := beq_iff_eq.mpr c53
                    have c53b1 : ((rd x9_2 0) != t334) = false := bne_eq_false_iff_eq.mpr c53
                    clear c53
                    replace H := Option.bind_eq_some_iff.mp H
                    obtain ⟨t349, A540, H⟩ := H
                    replace H : (some t349) = some r := H
                    have A54 := Aside0.mk A540
                    clear A540
                    obtain rfl := Option.some.inj H
                    obtain ⟨Ao55, co55, eo55⟩ := Kd.R_slice HO_7.out
                    subst eo55
                    obtain ⟨Ao56, co56, eo56⟩ := Kd.R_slice HO_9.out
                    subst eo56
                    have p348 : 0 ≤ (0 : Int) := (by omega)
                    have q348 : 0 < (x9_2.length : Int) := of_decide_eq_true (by first | (with_reducible assumption) | assumption)
                    obtain ⟨ad348, e348, hx348_0⟩ := Kd.at_int (Kd.R_reads' HO_9.out).2.2 0 p348 q348
                    cases e348
                    have qi348 : (0 < x9_2.length) = True := eq_true (by omega)
                    (try rw [show ((0 : Int)).toNat = 0 from rfl] at hx348_0)
                    (try rw [Addr.add_zero'] at hx348_0)
                    replace p348 := eq_true p348
                    replace q348 := eq_true q348
                    go_wp2_with (first | (go_at_call 17; (with_reducible refine (headgatelaw16_awake.calls k2  t349 _ A54.out).mono ?_); rintro e w57 ⟨rfl, hb⟩; have n0_ := Aside0.mk (Kd.R_below (by (with_reducible repeat (first | apply Kd.R_alloc | apply Kd.R_drewN | apply Kd.R_drew)); exact HO_7.out) hb); have n1_ := Aside0.mk (Kd.R_below (by (with_reducible repeat (first | apply Kd.R_alloc | apply Kd.R_drewN | apply Kd.R_drew)); exact HO_9.out) hb); have n2_ := Aside0.mk (below_step (by repeat (first | (with_reducible first | exact HB.out | apply below_alloc | apply pw_below_drewN | apply below_drew1) | exact HB.out)) hb); clear HO_7; clear HO_9; clear HB; have HO_7 := n0_; have HO_9 := n1_; have HB := n2_; clear n0_ n1_ n2_; (try clear hb); (try clear hb2); (try clear hk); (try clear hi)))
                    go_ret
                    exact ⟨by first | rfl | (simp [errW_none, errW_some] <;> rfl) | (simp [*, errW_none, errW_some] <;> rfl), by repeat (first | (with_reducible first | exact HB.out | apply below_alloc | apply pw_below_drewN | apply below_drew1) | exact HB.out)⟩
                  · rw [if_neg c53] at H
                    have c53b0 : ((rd x9_2 0) == t334) = false := beq_eq_false_iff_ne.mpr c53
                    have c53b1 : ((rd x9_2 0) != t334) = true := bne_iff_ne.mpr c53
                    obtain rfl := Option.some.inj H
                    obtain ⟨Ao58, co58, eo58⟩ := Kd.R_slice HO_7.out
                    subst eo58
                    obtain ⟨Ao59, co59, eo59⟩ := Kd.R_slice HO_9.out
                    subst eo59
                    have p348 : 0 ≤ (0 : Int) := (by omega)
                    have q348 : 0 < (x9_2.length : Int) := of_decide_eq_true (by first | (with_reducible assumption) | assumption)
                    obtain ⟨ad348, e348, hx348_0⟩ := Kd.at_int (Kd.R_reads' HO_9.out).2.2 0 p348 q348
                    cases e348
                    have qi348 : (0 < x9_2.length) = True := eq_true (by omega)
                    (try rw [show ((0 : Int)).toNat = 0 from rfl] at hx348_0)
                    (try rw [Addr.add_zero'] at hx348_0)
                    replace p348 := eq_true p348
                    replace q348 := eq_true q348
                    go_wp2
                    go_ret
                    exact ⟨by first | rfl | (simp [errW_none, errW_some] <;> rfl) | (simp [*, errW_none, errW_some] <;> rfl), by repeat (first | (with_reducible first | exact HB.out | apply below_alloc | apply pw_below_drewN | apply below_drew1) | exact HB.out)⟩
                · rw [if_neg c52] at H
                  exact absurd H (by simp)
  · rw [if_neg c6] at H
    have c6b0 : (t336 == 0) = false := beq_eq_false_iff_ne.mpr c6
    have c6b1 : (t336 != 0) = true := bne_iff_ne.mpr c6
    by_cases c60 : t336 = 14
    · rw [if_pos c60] at H
      have c60b0 : (t336 == 14) = true := beq_iff_eq.mpr c60
      have c60b1 : (t336 != 14) = false := bne_eq_false_iff_eq.mpr c60
      clear c60
      by_cases c61 : t333 = 1
      · rw [if_pos c61] at H
        have c61b0 : (t333 == 1) = true := beq_iff_eq.mpr c61
        have c61b1 : (t333 != 1) = false := bne_eq_false_iff_eq.mpr c61
        clear c61
        by_cases c62 : t334 = t333
        · rw [if_pos c62] at H
          have c62b0 : (t334 == t333) = true := beq_iff_eq.mpr c62
          have c62b1 : (t334 != t333) = false := bne_eq_false_iff_eq.mpr c62
          clear c62
          obtain rfl := Option.some.inj H
          go_enter Try.func8, Try.ntmps8
          go_wp2_with (first | ((with_reducible refine gate_callee (f := 22) rfl ?_); refine goesL_ (some 14) rfl rfl Try.func22 (by kernel_rfl) rfl #[.int .i64 a0, .int .i64 8] rfl (by (try simp only [List.map_toArray, List.map_cons, List.map_nil]); first | done | rfl | (simp only [List.length_drop, List.length_take]; rfl)) ?_; (with_reducible refine (headgatekit_Mod.calls a0 8 t333 _ A3.out).mono ?_); rintro e w' ⟨rfl, ⟨nd, rfl⟩⟩; refine ⟨_, rfl, ?_⟩) | ((with_reducible refine gate_callee (f := 22) rfl ?_); refine goesL_ (some 16) rfl rfl Try.func22 (by kernel_rfl) rfl #[.int .i64 a1, .int .i64 8] rfl (by (try simp only [List.map_toArray, List.map_cons, List.map_nil]); first | done | rfl | (simp only [List.length_drop, List.length_take]; rfl)) ?_; (with_reducible refine (headgatekit_Mod.calls a1 8 t334 _ A4.out).mono ?_); rintro e w' ⟨rfl, ⟨nd, rfl⟩⟩; refine ⟨_, rfl, ?_⟩) | ((with_reducible refine gate_callee (f := 14) rfl ?_); refine goesL_ (some 20) rfl rfl Try.func14 (by kernel_rfl) rfl #[.int .i64 t333, .int .i64 t334] rfl (by (try simp only [List.map_toArray, List.map_cons, List.map_nil]); first | done | rfl | (simp only [List.length_drop, List.length_take]; rfl)) ?_; (with_reducible refine (role_Path.calls k t333 t334 t335 t336 _ A5.out).mono ?_); rintro e w63 ⟨v337, rfl, ho0, hb⟩; refine ⟨_, rfl, ?_⟩; have n0_ := Aside0.mk (Kd.R_lower ho0 (below_size (by repeat (first | (with_reducible first | exact HB.out | apply below_alloc | apply pw_below_drewN | apply below_drew1) | exact HB.out)))); have n1_ := Aside0.mk (below_step (by repeat (first | (with_reducible first | exact HB.out | apply below_alloc | apply pw_below_drewN | apply below_drew1) | exact HB.out)) hb); clear HB; have HO338 := n0_; have HB := n1_; clear n0_ n1_; (try clear hb); (try clear hb2); (try clear hk); (try clear hi); (try clear ho0)))
          go_ret
          exact ⟨by first | rfl | (simp [errW_none, errW_some] <;> rfl) | (simp [*, errW_none, errW_some] <;> rfl), by repeat (first | (with_reducible first | exact HB.out | apply below_alloc | apply pw_below_drewN | apply below_drew1) | exact HB.out)⟩
        · rw [if_neg c62] at H
          have c62b0 : (t334 == t333) = false := beq_eq_false_iff_ne.mpr c62
          have c62b1 : (t334 != t333) = true := bne_iff_ne.mpr c62
          replace H := Option.bind_eq_some_iff.mp H
          obtain ⟨t339, A640, H⟩ := H
          replace H : (some t339) = some r := H
          have A64 := Aside0.mk A640
          clear A640
          obtain rfl := Option.some.inj H
          go_enter Try.func8, Try.ntmps8
          go_wp2_with (first | ((with_reducible refine gate_callee (f := 22) rfl ?_); refine goesL_ (some 14) rfl rfl Try.func22 (by kernel_rfl) rfl #[.int .i64 a0, .int .i64 8] rfl (by (try simp only [List.map_toArray, List.map_cons, List.map_nil]); first | done | rfl | (simp only [List.length_drop, List.length_take]; rfl)) ?_; (with_reducible refine (headgatekit_Mod.calls a0 8 t333 _ A3.out).mono ?_); rintro e w' ⟨rfl, ⟨nd, rfl⟩⟩; refine ⟨_, rfl, ?_⟩) | ((with_reducible refine gate_callee (f := 22) rfl ?_); refine goesL_ (some 16) rfl rfl Try.func22 (by kernel_rfl) rfl #[.int .i64 a1, .int .i64 8] rfl (by (try simp only [List.map_toArray, List.map_cons, List.map_nil]); first | done | rfl | (simp only [List.length_drop, List.length_take]; rfl)) ?_; (with_reducible refine (headgatekit_Mod.calls a1 8 t334 _ A4.out).mono ?_); rintro e w' ⟨rfl, ⟨nd, rfl⟩⟩; refine ⟨_, rfl, ?_⟩) | ((with_reducible refine gate_callee (f := 14) rfl ?_); refine goesL_ (some 20) rfl rfl Try.func14 (by kernel_rfl) rfl #[.int .i64 t333, .int .i64 t334] rfl (by (try simp only [List.map_toArray, List.map_cons, List.map_nil]); first | done | rfl | (simp only [List.length_drop, List.length_take]; rfl)) ?_; (with_reducible refine (role_Path.calls k t333 t334 t335 t336 _ A5.out).mono ?_); rintro e w65 ⟨v337, rfl, ho0, hb⟩; refine ⟨_, rfl, ?_⟩; have n0_ := Aside0.mk (Kd.R_lower ho0 (below_size (by repeat (first | (with_reducible first | exact HB.out | apply below_alloc | apply pw_below_drewN | apply below_drew1) | exact HB.out)))); have n1_ := Aside0.mk (below_step (by repeat (first | (with_reducible first | exact HB.out | apply below_alloc | apply pw_below_drewN | apply below_drew1) | exact HB.out)) hb); clear HB; have HO338 := n0_; have HB := n1_; clear n0_ n1_; (try clear hb); (try clear hb2); (try clear hk); (try clear hi); (try clear ho0)) | (go_at_call 17; (with_reducible refine (headgatelaw16_awake.calls k  t339 _ A64.out).mono ?_); rintro e w66 ⟨rfl, hb⟩; have n0_ := Aside0.mk (Kd.R_below (by (with_reducible repeat (first | apply Kd.R_alloc | apply Kd.R_drewN | apply Kd.R_drew)); exact HO338.out) hb); have n1_ := Aside0.mk (below_step (by repeat (first | (with_reducible first | exact HB.out | apply below_alloc | apply pw_below_drewN | apply below_drew1) | exact HB.out)) hb); clear HO338; clear HB; have HO338 := n0_; have HB := n1_; clear n0_ n1_; (try clear hb); (try clear hb2); (try clear hk); (try clear hi)))
          go_ret
          exact ⟨by first | rfl | (simp [errW_none, errW_some] <;> rfl) | (simp [*, errW_none, errW_some] <;> rfl), by repeat (first | (with_reducible first | exact HB.out | apply below_alloc | apply pw_below_drewN | apply below_drew1) | exact HB.out)⟩
      · rw [if_neg c61] at H
        have c61b0 : (t333 == 1) = false := beq_eq_false_iff_ne.mpr c61
        have c61b1 : (t333 != 1) = true := bne_iff_ne.mpr c61
        obtain rfl := Option.some.inj H
        go_enter Try.func8, Try.ntmps8
        go_wp2_with (first | ((with_reducible refine gate_callee (f := 22) rfl ?_); refine goesL_ (some 14) rfl rfl Try.func22 (by kernel_rfl) rfl #[.int .i64 a0, .int .i64 8] rfl (by (try simp only [List.map_toArray, List.map_cons, List.map_nil]); first | done | rfl | (simp only [List.length_drop, List.length_take]; rfl)) ?_; (with_reducible refine (headgatekit_Mod.calls a0 8 t333 _ A3.out).mono ?_); rintro e w' ⟨rfl, ⟨nd, rfl⟩⟩; refine ⟨_, rfl, ?_⟩) | ((with_reducible refine gate_callee (f := 22) rfl ?_); refine goesL_ (some 16) rfl rfl Try.func22 (by kernel_rfl) rfl #[.int .i64 a1, .int .i64 8] rfl (by (try simp only [List.map_toArray, List.map_cons, List.map_nil]); first | done | rfl | (simp only [List.length_drop, List.length_take]; rfl)) ?_; (with_reducible refine (headgatekit_Mod.calls a1 8 t334 _ A4.out).mono ?_); rintro e w' ⟨rfl, ⟨nd, rfl⟩⟩; refine ⟨_, rfl, ?_⟩) | ((with_reducible refine gate_callee (f := 14) rfl ?_); refine goesL_ (some 20) rfl rfl Try.func14 (by kernel_rfl) rfl #[.int .i64 t333, .int .i64 t334] rfl (by (try simp only [List.map_toArray, List.map_cons, List.map_nil]); first | done | rfl | (simp only [List.length_drop, List.length_take]; rfl)) ?_; (with_reducible refine (role_Path.calls k t333 t334 t335 t336 _ A5.out).mono ?_); rintro e w67 ⟨v337, rfl, ho0, hb⟩; refine ⟨_, rfl, ?_⟩; have n0_ := Aside0.mk (Kd.R_lower ho0 (below_size (by repeat (first | (with_reducible first | exact HB.out | apply below_alloc | apply pw_below_drewN | apply below_drew1) | exact HB.out)))); have n1_ := Aside0.mk (below_step (by repeat (first | (with_reducible first | exact HB.out | apply below_alloc | apply pw_below_drewN | apply below_drew1) | exact HB.out)) hb); clear HB; have HO338 := n0_; have HB := n1_; clear n0_ n1_; (try clear hb); (try clear hb2); (try clear hk); (try clear hi); (try clear ho0)))
        go_ret
        exact ⟨by first | rfl | (simp [errW_none, errW_some] <;> rfl) | (simp [*, errW_none, errW_some] <;> rfl), by repeat (first | (with_reducible first | exact HB.out | apply below_alloc | apply pw_below_drewN | apply below_drew1) | exact HB.out)⟩
    · rw [if_neg c60] at H
      have c60b0 : (t336 == 14) = false := beq_eq_false_iff_ne.mpr c60
      have c60b1 : (t336 != 14) = true := bne_iff_ne.mpr c60
      obtain rfl := Option.some.inj H
      go_enter Try.func8, Try.ntmps8
      go_wp2_with (first | ((with_reducible refine gate_callee (f := 22) rfl ?_); refine goesL_ (some 14) rfl rfl Try.func22 (by kernel_rfl) rfl #[.int .i64 a0, .int .i64 8] rfl (by (try simp only [List.map_toArray, List.map_cons, List.map_nil]); first | done | rfl | (simp only [List.length_drop, List.length_take]; rfl)) ?_; (with_reducible refine (headgatekit_Mod.calls a0 8 t333 _ A3.out).mono ?_); rintro e w' ⟨rfl, ⟨nd, rfl⟩⟩; refine ⟨_, rfl, ?_⟩) | ((with_reducible refine gate_callee (f := 22) rfl ?_); refine goesL_ (some 16) rfl rfl Try.func22 (by kernel_rfl) rfl #[.int .i64 a1, .int .i64 8] rfl (by (try simp only [List.map_toArray, List.map_cons, List.map_nil]); first | done | rfl | (simp only [List.length_drop, List.length_take]; rfl)) ?_; (with_reducible refine (headgatekit_Mod.calls a1 8 t334 _ A4.out).mono ?_); rintro e w' ⟨rfl, ⟨nd, rfl⟩⟩; refine ⟨_, rfl, ?_⟩) | ((with_reducible refine gate_callee (f := 14) rfl ?_); refine goesL_ (some 20) rfl rfl Try.func14 (by kernel_rfl) rfl #[.int .i64 t333, .int .i64 t334] rfl (by (try simp only [List.map_toArray, List.map_cons, List.map_nil]); first | done | rfl | (simp only [List.length_drop, List.length_take]; rfl)) ?_; (with_reducible refine (role_Path.calls k t333 t334 t335 t336 _ A5.out).mono ?_); rintro e w68 ⟨v337, rfl, ho0, hb⟩; refine ⟨_, rfl, ?_⟩; have n0_ := Aside0.mk (Kd.R_lower ho0 (below_size (by repeat (first | (with_reducible first | exact HB.out | apply below_alloc | apply pw_below_drewN | apply below_drew1) | exact HB.out)))); have n1_ := Aside0.mk (below_step (by repeat (first | (with_reducible first | exact HB.out | apply below_alloc | apply pw_below_drewN | apply below_drew1) | exact HB.out)) hb); clear HB; have HO338 := n0_; have HB := n1_; clear n0_ n1_; (try clear hb); (try clear hb2); (try clear hk); (try clear hi); (try clear ho0)))
      go_ret
      exact ⟨by first | rfl | (simp [errW_none, errW_some] <;> rfl) | (simp [*, errW_none, errW_some] <;> rfl), by repeat (first | (with_reducible first | exact HB.out | apply below_alloc | apply pw_below_drewN | apply below_drew1) | exact HB.out)⟩

/-- THE ONE PURE STATEMENT of headgatelaw16_RoleWays: yours. -/
def headgatelaw16_RoleWays.Pure : Prop := ∀ (a0 : Int) (a1 : Int), (Lit.int .i64 a0).wf = true → (Lit.int .i64 a1).wf = true → ∃ k, headgatelaw16_RoleWays.f k a0 a1 = some true
theorem headgatelaw16_RoleWays.walk (P : headgatelaw16_RoleWays.Pure) (a0 : Int) (a1 : Int) (w : World) (w0 : (Lit.int .i64 a0).wf = true) (w1 : (Lit.int .i64 a1).wf = true) :
    Calls Try.prog 8 #[.int .i64 a0, .int .i64 a1] w fun e w' => e = .returned (.bool true) ∧ Below w.heap.size w w' := by
  obtain ⟨k, h⟩ := P a0 a1 w0 w1
  refine (headgatelaw16_RoleWays.calls k a0 a1 true w h).mono ?_
  rintro e w' ⟨rfl, hd⟩
  exact ⟨rfl, hd⟩

/-! ### role_Of: function 30 -/
def role_Of.l0 : Nat → Int → List Int → List Int → Int → Int → Option (List Int × Int)
  | 0, _, _, _, _, _ => none
  | k + 1, x1, x8, x22, x23, x24 => if x24 < x23 then (if 0 ≤ x24 then (if x24 < (x22.length : Int) then (if (rd x22 x24) = x1 then (if x8.length < 17592186044416 then (role_Of.l0 k x1 (x8 ++ [x24]) x22 x23 (wrap64 (x24 + 1))) else (none)) else (role_Of.l0 k x1 x8 x22 x23 (wrap64 (x24 + 1)))) else (none)) else (none)) else (some (x8, 0))
def role_Of.f (k : Nat) (l0 : List Int) (a1 : Int) : Option (List Int × Int) := (role_Check.f l0).bind fun bt350 => (if bt350.1 = 0 then ((role_is.f a1).bind fun t352 => (if t352 = true then (role_Of.l0 k a1 ([] : List Int) l0 (l0.length : Int) 0) else (some (([] : List Int), 14)))) else (some (([] : List Int), bt350.1)))
theorem role_Of.mono_l : ∀ k, (∀ y0 y1 y2 y3 y4, LeO (role_Of.l0 k y0 y1 y2 y3 y4) (role_Of.l0 (k + 1) y0 y1 y2 y3 y4))
  | 0 => fun _ _ _ _ _ r h => by simp [role_Of.l0] at h
  | k + 1 => by
    have ih0 := role_Of.mono_l k
    · intro y0 y1 y2 y3 y4
      unfold role_Of.l0
      repeat' first
      | (with_reducible exact ih0 _ _ _ _ _)
      | (with_reducible exact LeO.refl _)
      | (with_reducible exact LeO.none _)
      | (with_reducible refine LeO.ite ?_ ?_)
      | (with_reducible refine LeO.bind ?_ (fun _ => ?_))
      | exact ih0 _ _ _ _ _
      | exact LeO.none _
      | refine LeO.ite ?_ ?_
      | refine LeO.bind ?_ (fun _ => ?_)
theorem role_Of.mono : ∀ a0 a1 k, LeO (role_Of.f k a0 a1) (role_Of.f (k + 1) a0 a1) := by
  intro a0 a1 k
  have ih0 := role_Of.mono_l k
  unfold role_Of.f
  repeat' first
      | (with_reducible exact ih0 _ _ _ _ _)
      | (with_reducible exact LeO.refl _)
      | (with_reducible exact LeO.none _)
      | (with_reducible refine LeO.ite ?_ ?_)
      | (with_reducible refine LeO.bind ?_ (fun _ => ?_))
      | exact ih0 _ _ _ _ _
      | exact LeO.none _
      | refine LeO.ite ?_ ?_
      | refine LeO.bind ?_ (fun _ => ?_)
set_option maxHeartbeats 8000000 in
set_option maxRecDepth 100000 in
theorem role_Of.calls (k : Nat) (A0 : Option Addr) (c0 : Nat) (l0 : List Int) (a1 : Int) (r1 : List Int) (r2 : Int) (w : World) (hr0 : Kd.C (Kd.int .i64) w A0 l0.length l0) (hc0 : l0.length ≤ c0) (h : role_Of.f k l0 a1 = some (r1, r2)) :
    Calls Try.prog 30 #[.slice A0 l0.length c0, .int .i64 a1] w fun e w' => ∃ v0_ : Value, e = .returned (.tuple #[v0_, .int .i64 r2]) ∧ Kd.R (Kd.int .i64) 3 w' w.heap.size (fun _ => True) v0_ r1 ∧ Below w.heap.size w w' := by
  have HR0 := Aside0.mk hr0
  have HC0 := Aside0.mk hc0
  clear hr0 hc0
  have HB := Aside0.mk (Below.refl w.heap.size w)
  have H : ((role_Check.f l0).bind fun bt350 => (if bt350.1 = 0 then ((role_is.f a1).bind fun t352 => (if t352 = true then (role_Of.l0 k a1 ([] : List Int) l0 (l0.length : Int) 0) else (some (([] : List Int), 14)))) else (some (([] : List Int), bt350.1)))) = some (r1, r2) := h
  clear h
  replace H := Option.bind_eq_some_iff.mp H
  obtain ⟨⟨t350, t351⟩, A30, H⟩ := H
  replace H : (if t350 = 0 then ((role_is.f a1).bind fun t352 => (if t352 = true then (role_Of.l0 k a1 ([] : List Int) l0 (l0.length : Int) 0) else (some (([] : List Int), 14)))) else (some (([] : List Int), t350))) = some (r1, r2) := H
  have A3 := Aside0.mk A30
  clear A30
  by_cases c4 : t350 = 0
  · rw [if_pos c4] at H
    have c4b0 : (t350 == 0) = true := beq_iff_eq.mpr c4
    have c4b1 : (t350 != 0) = false := bne_eq_false_iff_eq.mpr c4
    clear c4
    replace H := Option.bind_eq_some_iff.mp H
    obtain ⟨t352, A50, H⟩ := H
    replace H : (if t352 = true then (role_Of.l0 k a1 ([] : List Int) l0 (l0.length : Int) 0) else (some (([] : List Int), 14))) = some (r1, r2) := H
    have A5 := Aside0.mk A50
    clear A50
    by_cases c6 : t352 = true
    · subst c6
      have H1 : (role_Of.l0 k a1 ([] : List Int) l0 (l0.length : Int) 0) = some (r1, r2) := by rw [if_pos rfl] at H; exact H
      clear H
      have H := H1
      clear H1
      have H' := Aside0.mk H
      clear H
      go_enter Try.func30, Try.ntmps30
      go_wp2_with (first | ((with_reducible refine gate_callee (f := 25) rfl ?_); refine goesL_ (some 13) rfl rfl Try.func25 (by kernel_rfl) rfl #[.slice A0 l0.length c0] rfl (by (try simp only [List.map_toArray, List.map_cons, List.map_nil]); first | done | rfl | (simp only [List.length_drop, List.length_take]; rfl)) ?_; (with_reducible refine (role_Check.calls _ _ l0 t350 t351 _ ?side1 ?side2 A3.out).mono ?_); (case side1 => repeat (first | exact HR0.out | (with_reducible refine Kd.C_alloc ?_ _) | (with_reducible refine Kd.C_drewN ?_ _) | (with_reducible refine Kd.C_drew ?_))); (case side2 => exact HC0.out); rintro e w' ⟨rfl, ⟨nd, rfl⟩⟩; refine ⟨_, rfl, ?_⟩) | ((with_reducible refine gate_callee (f := 37) rfl ?_); refine goesL_ (some 20) rfl rfl Try.func37 (by kernel_rfl) rfl #[.int .i64 a1] rfl (by (try simp only [List.map_toArray, List.map_cons, List.map_nil]); first | done | rfl | (simp only [List.length_drop, List.length_take]; rfl)) ?_; (with_reducible refine (role_is.calls a1 true _ A5.out).mono ?_); rintro e w' ⟨rfl, ⟨nd, rfl⟩⟩; refine ⟨_, rfl, ?_⟩))
      go_loopg [8, 24] k (fun kq v8 v24 w' => ∃ (x8_1 : List Int) (x24_1 : Int), v24 = .int .i64 x24_1 ∧ Aside0 (role_Of.l0 kq a1 x8_1 l0 (l0.length : Int) x24_1 = some (r1, r2)) ∧ Aside0 (kq ≤ k) ∧ Aside0 (Kd.R (Kd.int .i64) 3 w' w.heap.size (fun _ => True) v8 x8_1) ∧ Aside0 (Below w.heap.size w w'))
      case atStart => exact ⟨(([] : List Int)), (0), (by first | rfl | (simp; done) | (simp [*]; done)), H', ⟨Nat.le_refl _⟩, ⟨by first | exact Kd.R_nil _ _ _ _ _ | exact Kd.N_nil _ _ _ _ _ | exact Kd.V_nil _ _ _ _ _ | exact Kd.Q_nil _ _ _ _ _ | exact Kd.S_nil _ _ _ _ _⟩, ⟨by repeat (first | (with_reducible first | exact HB.out | apply below_alloc | apply pw_below_drewN | apply below_drew1) | exact HB.out)⟩⟩
      case round =>
        clear H'
        try clear c2
        try clear p2
        try clear c3
        try clear c4
        try clear c4b0
        try clear c4b1
        try clear c6
        obtain ⟨x8_1, x24_1, rfl, HA, HK1, HO_8, HB⟩ := hrel
        cases gk with
        | zero => exact absurd HA.out (by simp [role_Of.l0])
        | succ k1 =>
          have H := HA.out
          clear HA
          simp only [role_Of.l0] at H
          by_cases c7 : x24_1 < (l0.length : Int)
          · rw [if_pos c7] at H
            have c7b0 : decide (x24_1 < (l0.length : Int)) = true := decide_eq_true c7
            clear c7
            by_cases c8 : 0 ≤ x24_1
            · rw [if_pos c8] at H
              have c8b0 : decide (0 ≤ x24_1) = true := decide_eq_true c8
              clear c8
              by_cases c9 : x24_1 < (l0.length : Int)
              · rw [if_pos c9] at H
                have c9b0 : decide (x24_1 < (l0.length : Int)) = true := decide_eq_true c9
                clear c9
                by_cases c10 : (rd l0 x24_1) = a1
                · rw [if_pos c10] at H
                  have c10b0 : ((rd l0 x24_1) == a1) = true := beq_iff_eq.mpr c10
                  have c10b1 : ((rd l0 x24_1) != a1) = false := bne_eq_false_iff_eq.mpr c10
                  clear c10
                  by_cases c11 : x8_1.length < 17592186044416
                  · rw [if_pos c11] at H
                    have LMc11 := Aside0.mk c11
                    clear c11
                    obtain ⟨y354, hy354⟩ : ∃ y_ : List Int, y_ = (x8_1 ++ [x24_1]) := ⟨_, rfl⟩
                    replace H : (role_Of.l0 k1 a1 y354 l0 (l0.length : Int) (wrap64 (x24_1 + 1))) = some (r1, r2) := by first | (rw [hy354]; with_reducible exact H) | (have H2_ := (Option.bind_some _ _).symm.trans H; rw [hy354]; with_reducible exact H2_) | (have H2_ := (Option.bind_some _ _).symm.trans H; with_reducible exact H2_) | with_reducible exact H | (rw [hy354]; exact H) | exact H
                    have Ny354 := Aside0.mk hy354
                    clear hy354
                    have H' := Aside0.mk H
                    clear H
                    have p353 : 0 ≤ (x24_1 : Int) := of_decide_eq_true (by first | (with_reducible assumption) | assumption)
                    have q353 : x24_1 < (l0.length : Int) := of_decide_eq_true (by first | (with_reducible assumption) | assumption)
                    obtain ⟨ad353, e353, hx353_0⟩ := Kd.at_int HR0.out x24_1 p353 q353
                    cases e353
                    replace hx353_0 := (HB.out.cell (World.block_lt_of_cell? w _ hx353_0)).trans hx353_0
                    replace p353 := eq_true p353
                    replace q353 := eq_true q353
                    go_wp2_with (first | ((with_reducible refine gate_builtin (b := .append) (xs := #[.tmp 32, .tmp 34]) rfl ?_); at_builtin; refine Kd.R_append (Kd.int .i64) (w0 := w) w.heap.size rfl (.tmp 32) (.tmp 34) 25 3 (.int .i64 0) 8 rfl Try.underlying25 info3 rfl (by decide) (by omega) u8 x8_1 x24_1 [.int .i64 x24_1] (fun _ => True) (fun _ => False) rfl rfl ?aP (fun _ hk => hk.elim) ?aF ?aO ?aB ?aS ?aL ?_; (case aP => exact rfl); (case aB => exact (by repeat (first | (with_reducible first | exact HB.out | apply below_alloc | apply pw_below_drewN | apply below_drew1) | exact HB.out))); (case aF => exact (fun _ _ => trivial)); (case aO => exact (by (with_reducible repeat (first | apply Kd.R_alloc | apply Kd.R_drewN | apply Kd.R_drew)); exact HO_8.out)); (case aS => exact (below_size (by repeat (first | (with_reducible first | exact HB.out | apply below_alloc | apply pw_below_drewN | apply below_drew1) | exact HB.out)))); (case aL => have := LMc11.out; omega); intro v355 w12 ho hb hg hat; rw [← Ny354.out] at ho; have n0_ := Aside0.mk (hb); have n1_ := Aside0.mk (ho); clear HB; clear HO_8; have HB := n0_; have HO356 := n1_; clear n0_ n1_; clear ho hb hg hat))
                    go_roundg k1
                    case measure => have := HK1.out; omega
                    case rel => exact ⟨(y354), (wrap64 (x24_1 + 1)), (by first | rfl | (simp; done) | (simp [*]; done)), H', ⟨by have := HK1.out; omega⟩, ⟨by (with_reducible repeat (first | apply Kd.R_alloc | apply Kd.R_drewN | apply Kd.R_drew)); exact HO356.out⟩, ⟨by repeat (first | (with_reducible first | exact HB.out | apply below_alloc | apply pw_below_drewN | apply below_drew1) | exact HB.out)⟩⟩
                  · rw [if_neg c11] at H
                    exact absurd H (by simp)
                · rw [if_neg c10] at H
                  have c10b0 : ((rd l0 x24_1) == a1) = false := beq_eq_false_iff_ne.mpr c10
                  have c10b1 : ((rd l0 x24_1) != a1) = true := bne_iff_ne.mpr c10
                  have H' := Aside0.mk H
                  clear H
                  have p353 : 0 ≤ (x24_1 : Int) := of_decide_eq_true (by first | (with_reducible assumption) | assumption)
                  have q353 : x24_1 < (l0.length : Int) := of_decide_eq_true (by first | (with_reducible assumption) | assumption)
                  obtain ⟨ad353, e353, hx353_0⟩ := Kd.at_int HR0.out x24_1 p353 q353
                  cases e353
                  replace hx353_0 := (HB.out.cell (World.block_lt_of_cell? w _ hx353_0)).trans hx353_0
                  replace p353 := eq_true p353
                  replace q353 := eq_true q353
                  go_wp2
                  go_roundg k1
                  case measure => have := HK1.out; omega
                  case rel => exact ⟨(x8_1), (wrap64 (x24_1 + 1)), (by first | rfl | (simp; done) | (simp [*]; done)), H', ⟨by have := HK1.out; omega⟩, ⟨by (with_reducible repeat (first | apply Kd.R_alloc | apply Kd.R_drewN | apply Kd.R_drew)); exact HO_8.out⟩, ⟨by repeat (first | (with_reducible first | exact HB.out | apply below_alloc | apply pw_below_drewN | apply below_drew1) | exact HB.out)⟩⟩
              · rw [if_neg c9] at H
                exact absurd H (by simp)
            · rw [if_neg c8] at H
              exact absurd H (by simp)
          · rw [if_neg c7] at H
            have c7b0 : decide (x24_1 < (l0.length : Int)) = false := decide_eq_false c7
            clear c7
            simp only [Option.some.injEq, Prod.mk.injEq] at H
            obtain ⟨rfl, rfl⟩ := H
            go_wp2
            go_ret2
            exact ⟨_, by first | rfl | (simp [errW_none, errW_some] <;> rfl) | (simp [*, errW_none, errW_some] <;> rfl), by (with_reducible repeat (first | apply Kd.R_alloc | apply Kd.R_drewN | apply Kd.R_drew)); exact HO_8.out, by repeat (first | (with_reducible first | exact HB.out | apply below_alloc | apply pw_below_drewN | apply below_drew1) | exact HB.out)⟩
    · replace c6 := Bool.eq_false_iff.mpr c6
      subst c6
      have H1 : (some (([] : List Int), 14)) = some (r1, r2) := by rw [if_neg (show ¬ (false = true) by decide)] at H; exact H
      clear H
      have H := H1
      clear H1
      simp only [Option.some.injEq, Prod.mk.injEq] at H
      obtain ⟨rfl, rfl⟩ := H
      go_enter Try.func30, Try.ntmps30
      go_wp2_with (first | ((with_reducible refine gate_callee (f := 25) rfl ?_); refine goesL_ (some 13) rfl rfl Try.func25 (by kernel_rfl) rfl #[.slice A0 l0.length c0] rfl (by (try simp only [List.map_toArray, List.map_cons, List.map_nil]); first | done | rfl | (simp only [List.length_drop, List.length_take]; rfl)) ?_; (with_reducible refine (role_Check.calls _ _ l0 t350 t351 _ ?side1 ?side2 A3.out).mono ?_); (case side1 => repeat (first | exact HR0.out | (with_reducible refine Kd.C_alloc ?_ _) | (with_reducible refine Kd.C_drewN ?_ _) | (with_reducible refine Kd.C_drew ?_))); (case side2 => exact HC0.out); rintro e w' ⟨rfl, ⟨nd, rfl⟩⟩; refine ⟨_, rfl, ?_⟩) | ((with_reducible refine gate_callee (f := 37) rfl ?_); refine goesL_ (some 20) rfl rfl Try.func37 (by kernel_rfl) rfl #[.int .i64 a1] rfl (by (try simp only [List.map_toArray, List.map_cons, List.map_nil]); first | done | rfl | (simp only [List.length_drop, List.length_take]; rfl)) ?_; (with_reducible refine (role_is.calls a1 false _ A5.out).mono ?_); rintro e w' ⟨rfl, ⟨nd, rfl⟩⟩; refine ⟨_, rfl, ?_⟩))
      go_ret2
      exact ⟨_, by first | rfl | (simp [errW_none, errW_some] <;> rfl) | (simp [*, errW_none, errW_some] <;> rfl), by first | exact Kd.R_nil _ _ _ _ _ | exact Kd.N_nil _ _ _ _ _ | exact Kd.V_nil _ _ _ _ _ | exact Kd.Q_nil _ _ _ _ _ | exact Kd.S_nil _ _ _ _ _, by repeat (first | (with_reducible first | exact HB.out | apply below_alloc | apply pw_below_drewN | apply below_drew1) | exact HB.out)⟩
  · rw [if_neg c4] at H
    have c4b0 : (t350 == 0) = false := beq_eq_false_iff_ne.mpr c4
    have c4b1 : (t350 != 0) = true := bne_iff_ne.mpr c4
    simp only [Option.some.injEq, Prod.mk.injEq] at H
    obtain ⟨rfl, rfl⟩ := H
    go_enter Try.func30, Try.ntmps30
    go_wp2_with (first | ((with_reducible refine gate_callee (f := 25) rfl ?_); refine goesL_ (some 13) rfl rfl Try.func25 (by kernel_rfl) rfl #[.slice A0 l0.length c0] rfl (by (try simp only [List.map_toArray, List.map_cons, List.map_nil]); first | done | rfl | (simp only [List.length_drop, List.length_take]; rfl)) ?_; (with_reducible refine (role_Check.calls _ _ l0 t350 t351 _ ?side1 ?side2 A3.out).mono ?_); (case side1 => repeat (first | exact HR0.out | (with_reducible refine Kd.C_alloc ?_ _) | (with_reducible refine Kd.C_drewN ?_ _) | (with_reducible refine Kd.C_drew ?_))); (case side2 => exact HC0.out); rintro e w' ⟨rfl, ⟨nd, rfl⟩⟩; refine ⟨_, rfl, ?_⟩))
    go_ret2
    exact ⟨_, by first | rfl | (simp [errW_none, errW_some] <;> rfl) | (simp [*, errW_none, errW_some] <;> rfl), by first | exact Kd.R_nil _ _ _ _ _ | exact Kd.N_nil _ _ _ _ _ | exact Kd.V_nil _ _ _ _ _ | exact Kd.Q_nil _ _ _ _ _ | exact Kd.S_nil _ _ _ _ _, by repeat (first | (with_reducible first | exact HB.out | apply below_alloc | apply pw_below_drewN | apply below_drew1) | exact HB.out)⟩

end Go.Proofs.Ytmemdggofphcnaa.X
